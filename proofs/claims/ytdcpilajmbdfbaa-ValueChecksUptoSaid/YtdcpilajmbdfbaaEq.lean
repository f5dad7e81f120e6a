/- Are two trees the same: value.Equal through slices.EqualFunc. -/
import Derived.Test.YtdcpilajmbdfbaaEach
namespace Go.Proofs.Ytdcpilajmbdfbaa.Each
open Go Go.RowKit Go.Shelf Go.Proofs.YtdcpilajmbdfbaaW.PrintWords Go.Proofs.YtdcpilajmbdfbaaW.PrintLast
set_option linter.unusedVariables false
set_option linter.unusedSimpArgs false

section
variable {S : Type} (T : Tree S)
/-- The same, one by one. -/
def eqL (f : S → S → Bool) : List S → List S → Bool
  | [], [] => true
  | x :: xs, y :: ys => f x y && eqL f xs ys
  | _, _ => false
/-- The same tree, so deep. -/
def eqF : Nat → S → S → Bool
  | 0, _, _ => false
  | m + 1, x, y => T.k x == T.k y && T.neg x == T.neg y && T.n x == T.n y && (T.s x).toList == (T.s y).toList && eqL (eqF m) (T.kids x) (T.kids y)
theorem eqL_len (f : S → S → Bool) : ∀ (xs ys : List S), xs.length ≠ ys.length → eqL f xs ys = false
  | [], [], h => absurd rfl h
  | [], _ :: _, _ => rfl
  | _ :: _, [], _ => rfl
  | x :: xs, y :: ys, h => by simp only [eqL, eqL_len f xs ys (by simpa using h), Bool.and_false]
theorem eqL_drop (f : S → S → Bool) (z : S) (xs ys : List S) (j : Nat) (hx : j < xs.length) (hy : j < ys.length) : eqL f (xs.drop j) (ys.drop j) = (f (xs.getD j z) (ys.getD j z) && eqL f (xs.drop (j + 1)) (ys.drop (j + 1))) := by
  rw [List.drop_eq_getElem_cons hx, List.drop_eq_getElem_cons hy]
  simp only [eqL, List.getD_eq_getElem?_getD, List.getElem?_eq_getElem hx, List.getElem?_eq_getElem hy, Option.getD_some]
theorem getD_mem (z : S) (xs : List S) (j : Nat) (h : j < xs.length) : xs.getD j z ∈ xs := by rw [List.getD_eq_getElem?_getD, List.getElem?_eq_getElem h]; exact List.getElem_mem h

set_option maxRecDepth 100000 in
set_option maxHeartbeats 4000000 in
theorem eqfunc_calls (f : S → S → Bool) (A A' : Option Addr) (c c' : Nat) (xs ys : List S) (w : World) (hx : T.D.C w A xs.length xs) (hy : T.D.C w A' ys.length ys)
    (hf : ∀ x y cs cs' W, x ∈ xs → y ∈ ys → T.D.K W x cs → T.D.K W y cs' → Calls Try.prog 10 #[.agg cs.toArray, .agg cs'.toArray] W fun e W' => e = .returned (.bool (f x y)) ∧ Below W.heap.size W W') :
    Calls Try.prog 25 #[.slice A xs.length c, .slice A' ys.length c', .func (.func 10) #[] #[]] w fun e w' => e = .returned (.bool (eqL f xs ys)) ∧ Below w.heap.size w w' := by
  by_cases hl : xs.length = ys.length
  · have hmax : xs.length ≤ 9223372036854775807 := hx.2.1
    obtain ⟨n, hn⟩ : ∃ n, xs.length = n := ⟨_, rfl⟩
    rw [hn] at hx hmax
    have hm : ys.length = n := hl.symm.trans hn
    rw [hm] at hy
    rw [hn, hm]
    have HN := Aside0.mk hn
    have HM := Aside0.mk hm
    have HX := Aside0.mk hx
    have HY := Aside0.mk hy
    have HF := Aside0.mk hf
    clear hl hn hm hx hy hf
    go_enter Try.func25, Try.ntmps25
    go_wp2
    go_loopw [17] (fun i wr => ∃ j : Nat, i = .int .i64 (j : Int) ∧ j ≤ n ∧ Aside0 (eqL f xs ys = eqL f (xs.drop j) (ys.drop j)) ∧ Aside0 (Below w.heap.size w wr)) (fun i _ => n - (intOf i).toNat)
    case atStart => exact ⟨0, rfl, Nat.zero_le _, ⟨by simp⟩, ⟨Below.refl _ _⟩⟩
    case round =>
      obtain ⟨j, rfl, hj, HE, HB⟩ := hrel
      by_cases hlt : j < n
      · have hlx : j < xs.length := by have := HN.out; omega
        have hly : j < ys.length := by have := HM.out; omega
        obtain ⟨ad, A5, c5, e5, hx0, hx1, hx2, hx3, hx4, hKx⟩ := T.at_ HX.out (j : Int) (by omega) (by omega)
        cases e5
        obtain ⟨bd, A6, c6, e6, hy0, hy1, hy2, hy3, hy4, hKy⟩ := T.at_ HY.out (j : Int) (by omega) (by omega)
        cases e6
        simp only [Int.toNat_natCast] at hx0 hx1 hx2 hx3 hx4 hKx hy0 hy1 hy2 hy3 hy4 hKy
        have HXM := Aside0.mk (getD_mem T.z xs j hlx)
        have HYM := Aside0.mk (getD_mem T.z ys j hly)
        have HED := Aside0.mk (eqL_drop f T.z xs ys j hlx hly)
        obtain ⟨x, hxe⟩ : ∃ x, xs.getD j T.z = x := ⟨_, rfl⟩
        obtain ⟨y, hye⟩ : ∃ y, ys.getD j T.z = y := ⟨_, rfl⟩
        rw [hxe] at hx0 hx1 hx2 hx3 hx4 hKx HXM HED
        rw [hye] at hy0 hy1 hy2 hy3 hy4 hKy HYM HED
        clear hxe hye hlx hly
        have HKX := Aside0.mk hKx
        have HKY := Aside0.mk hKy
        clear hKx hKy
        have hb : Below w.heap.size w wr := HB.out
        obtain ⟨W1, hW1⟩ : ∃ W1, wr.alloc (.cells #[.int .i64 (T.k x), .bool (T.neg x), .int .u64 (T.n x), .string (T.s x), .slice A5 (T.kids x).length c5] 25 (0, 0)) = W1 := ⟨_, rfl⟩
        have hb1 : Below w.heap.size w W1 := by rw [← hW1]; exact below_alloc hb _
        have hbx1 : W1.heap[wr.heap.size]? = some (.cells #[.int .i64 (T.k x), .bool (T.neg x), .int .u64 (T.n x), .string (T.s x), .slice A5 (T.kids x).length c5] 25 (0, 0)) := by rw [← hW1]; exact World.alloc_heap_new wr _
        obtain ⟨W2, hW2⟩ : ∃ W2, W1.alloc (.cells #[.int .i64 (T.k y), .bool (T.neg y), .int .u64 (T.n y), .string (T.s y), .slice A6 (T.kids y).length c6] 25 (0, 0)) = W2 := ⟨_, rfl⟩
        have hb2 : Below w.heap.size w W2 := by rw [← hW2]; exact below_alloc hb1 _
        obtain ⟨d0, d1, d2, d3, d4⟩ := cells5 (show W2.heap[wr.heap.size]? = _ by rw [← hW2]; exact blk_alloc hbx1 _)
        obtain ⟨f0, f1, f2, f3, f4⟩ := cells5 (show W2.heap[W1.heap.size]? = some (.cells #[.int .i64 (T.k y), .bool (T.neg y), .int .u64 (T.n y), .string (T.s y), .slice A6 (T.kids y).length c6] 25 (0, 0)) by rw [← hW2]; exact World.alloc_heap_new W1 _)
        replace hx0 := (hb.cell (World.block_lt_of_cell? w _ hx0)).trans hx0
        replace hx1 := (hb.cell (World.block_lt_of_cell? w _ hx1)).trans hx1
        replace hx2 := (hb.cell (World.block_lt_of_cell? w _ hx2)).trans hx2
        replace hx3 := (hb.cell (World.block_lt_of_cell? w _ hx3)).trans hx3
        replace hx4 := (hb.cell (World.block_lt_of_cell? w _ hx4)).trans hx4
        replace hy0 := (hb1.cell (World.block_lt_of_cell? w _ hy0)).trans hy0
        replace hy1 := (hb1.cell (World.block_lt_of_cell? w _ hy1)).trans hy1
        replace hy2 := (hb1.cell (World.block_lt_of_cell? w _ hy2)).trans hy2
        replace hy3 := (hb1.cell (World.block_lt_of_cell? w _ hy3)).trans hy3
        replace hy4 := (hb1.cell (World.block_lt_of_cell? w _ hy4)).trans hy4
        have HB2 := Aside0.mk hb2
        clear hb hb1 hbx1 hb2
        obtain ⟨b, hfb⟩ : ∃ b, f x y = b := ⟨_, rfl⟩
        rw [hfb] at HED
        have hcall := HF.out x y _ _ W2 HXM.out HYM.out (T.D.K_below HB2.out HKX.out) (T.D.K_below HB2.out HKY.out)
        rw [hfb] at hcall
        have HC := Aside0.mk hcall
        clear hcall hfb
        cases b
        all_goals
          go_wp2_with (go_at_call 10; refine HC.out.mono ?_; rintro e W3 ⟨rfl, hb3⟩; have HB3 := Aside0.mk (HB2.out.trans (hb3.mono HB2.out.size)); clear hb3)
        · go_ret
          exact ⟨by rw [HE.out, HED.out]; rfl, HB3.out⟩
        · have HLT := Aside0.mk hlt
          go_roundw
          case rel => exact ⟨j + 1, by go_num, HLT.out, ⟨by rw [HE.out, HED.out]; simp⟩, HB3⟩
          case measure => have hlt_ := HLT.out; simp [intOf]; omega
      · obtain rfl : j = n := by omega
        go_wp2
        go_ret
        exact ⟨by rw [HE.out, List.drop_of_length_le (by have := HN.out; omega), List.drop_of_length_le (by have := HM.out; omega)]; rfl, HB.out⟩
  · rw [eqL_len f xs ys hl]
    have hb1 : ((xs.length : Int) != (ys.length : Int)) = true := bne_iff_ne.mpr (by omega)
    have hb2 : (xs.length != ys.length) = true := bne_iff_ne.mpr hl
    clear hx hy hf
    go_enter Try.func25, Try.ntmps25
    go_wp2
    go_ret
    exact ⟨rfl, Below.refl _ _⟩
set_option maxRecDepth 100000 in
set_option maxHeartbeats 8000000 in
theorem equal_calls : ∀ m (x y : S) (cs cs' : List Value) (w : World), T.sz x < m → T.D.K w x cs → T.D.K w y cs' →
    Calls Try.prog 10 #[.agg cs.toArray, .agg cs'.toArray] w fun e w' => e = .returned (.bool (eqF T m x y)) ∧ Below w.heap.size w w' := by
  intro m
  induction m with
  | zero => intro x y cs cs' w h; omega
  | succ m ih =>
  intro x y cs cs' w hsz hx hy
  obtain ⟨A4, c4, rfl, hc4, g4⟩ := T.openK hx
  obtain ⟨A5, c5, rfl, hc5, g5⟩ := T.openK hy
  obtain ⟨W1, hW1⟩ : ∃ W1, w.alloc (.cells #[.int .i64 (T.k x), .bool (T.neg x), .int .u64 (T.n x), .string (T.s x), .slice A4 (T.kids x).length c4] 25 (0, 0)) = W1 := ⟨_, rfl⟩
  have hb1 : Below w.heap.size w W1 := by rw [← hW1]; exact below_alloc (Below.refl _ _) _
  have hbx1 : W1.heap[w.heap.size]? = some (.cells #[.int .i64 (T.k x), .bool (T.neg x), .int .u64 (T.n x), .string (T.s x), .slice A4 (T.kids x).length c4] 25 (0, 0)) := by rw [← hW1]; exact World.alloc_heap_new w _
  obtain ⟨W2, hW2⟩ : ∃ W2, W1.alloc (.cells #[.int .i64 (T.k y), .bool (T.neg y), .int .u64 (T.n y), .string (T.s y), .slice A5 (T.kids y).length c5] 25 (0, 0)) = W2 := ⟨_, rfl⟩
  have hb2 : Below w.heap.size w W2 := by rw [← hW2]; exact below_alloc hb1 _
  obtain ⟨d0, d1, d2, d3, d4⟩ := cells5 (show W2.heap[w.heap.size]? = _ by rw [← hW2]; exact blk_alloc hbx1 _)
  obtain ⟨f0, f1, f2, f3, f4⟩ := cells5 (show W2.heap[W1.heap.size]? = some (.cells #[.int .i64 (T.k y), .bool (T.neg y), .int .u64 (T.n y), .string (T.s y), .slice A5 (T.kids y).length c5] 25 (0, 0)) by rw [← hW2]; exact World.alloc_heap_new W1 _)
  have hcall := eqfunc_calls T (eqF T m) A4 A5 c4 c5 (T.kids x) (T.kids y) W2 (Kd.C_below g4 hb2) (Kd.C_below g5 hb2) (fun x' y' cs cs' W hmx _ hx' hy' => ih x' y' cs cs' W (by have := T.lt x x' hmx; omega) hx' hy')
  have HC := Aside0.mk hcall
  have HB2 := Aside0.mk hb2
  obtain ⟨R, hR⟩ : ∃ R, eqL (eqF T m) (T.kids x) (T.kids y) = R := ⟨_, rfl⟩
  rw [hR] at HC
  have HE := Aside0.mk (show eqF T (m + 1) x y = (T.k x == T.k y && T.neg x == T.neg y && T.n x == T.n y && (T.s x).toList == (T.s y).toList && R) by rw [← hR]; rfl)
  clear hcall hb1 hb2 hbx1 g4 g5 hx hy ih hR
  obtain ⟨b1, hq1⟩ : ∃ b, (T.k x == T.k y) = b := ⟨_, rfl⟩
  obtain ⟨b2, hq2⟩ : ∃ b, (T.neg x == T.neg y) = b := ⟨_, rfl⟩
  obtain ⟨b3, hq3⟩ : ∃ b, (T.n x == T.n y) = b := ⟨_, rfl⟩
  obtain ⟨b4, hq4⟩ : ∃ b, ((T.s x).toList == (T.s y).toList) = b := ⟨_, rfl⟩
  rw [hq1, hq2, hq3, hq4] at HE
  have hd2 : decide (T.neg x = T.neg y) = b2 := by rw [← hq2]; cases T.neg x <;> cases T.neg y <;> rfl
  cases b1
  · clear hq2 hq3 hq4 hd2 HC
    go_enter Try.func10, Try.ntmps10
    go_wp2
    go_ret
    exact ⟨by rw [HE.out]; rfl, HB2.out⟩
  cases b2
  · clear hq3 hq4 HC
    go_enter Try.func10, Try.ntmps10
    go_wp2
    go_ret
    exact ⟨by rw [HE.out]; rfl, HB2.out⟩
  cases b3
  · clear hq4 HC
    go_enter Try.func10, Try.ntmps10
    go_wp2
    go_ret
    exact ⟨by rw [HE.out]; rfl, HB2.out⟩
  cases b4
  · clear HC
    go_enter Try.func10, Try.ntmps10
    go_wp2
    go_ret
    exact ⟨by rw [HE.out]; rfl, HB2.out⟩
  go_enter Try.func10, Try.ntmps10
  go_wp2_with (go_at_call 25; refine HC.out.mono ?_; rintro e W3 ⟨rfl, hb3⟩; have HB3 := Aside0.mk (HB2.out.trans (hb3.mono HB2.out.size)); clear hb3)
  go_ret
  exact ⟨by rw [HE.out]; simp, HB3.out⟩
end
end Go.Proofs.Ytdcpilajmbdfbaa.Each
