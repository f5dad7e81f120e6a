-- Out of texts of this seat by a program of this session: what the claim does not reach is struck
import Derived.Test.YtcgpfclmcajekaaZBu
import Derived.Test.YtcgpfclmcajekaaZEvents
namespace Go.Proofs.Ytcgpfclmcajekaa.Bld
open Go Go.RowKit Go.Shelf Go.Proofs.Ytcgpfclmcajekaa.Each Go.Proofs.YtcgpfclmcajekaaW.PrintWords Go.Proofs.YtcgpfclmcajekaaW.PrintLast
set_option linter.unusedVariables false
set_option linter.unusedSimpArgs false
structure EvO (V : Type) extends EvK V where
  zE : V
  ek : V → Int
  eneg : V → Bool
  en : V → Int
  es : V → ByteArray
  openE : ∀ {w : World} {x : V} {cs : List Value}, D.K w x cs → cs = [.int .i64 (ek x), .bool (eneg x), .int .u64 (en x), .string (es x)]
section
variable {S V : Type} (T : Mk S) (E : Env T) (K : EvO V)
def treeX : List V → Int → BS S → Option (S × Int × Int)
  | [], i, b => some (if b.whole = true then (b.v, i, 0) else (T.z, i, 3))
  | e :: l, i, b => (putX T E b (K.ek e) (K.eneg e) (K.en e) (K.es e)).bind fun p => if p.1 = 0 then treeX l (i + 1) p.2 else some (T.z, i, p.1)
theorem atE {w : World} {A : Option Addr} {n : Nat} {xs : List V} (h : K.D.C w A n xs) (i : Nat) (h1 : i < n) :
    ∃ ad, A = some ad ∧ w.cell? (ad.add (i * 4)) = some (.int .i64 (K.ek (xs.getD i K.zE))) ∧ w.cell? ⟨(ad.add (i * 4)).block, (ad.add (i * 4)).off + 1, none⟩ = some (.bool (K.eneg (xs.getD i K.zE))) ∧
      w.cell? ⟨(ad.add (i * 4)).block, (ad.add (i * 4)).off + 2, none⟩ = some (.int .u64 (K.en (xs.getD i K.zE))) ∧ w.cell? ⟨(ad.add (i * 4)).block, (ad.add (i * 4)).off + 3, none⟩ = some (.string (K.es (xs.getD i K.zE))) := by
  obtain ⟨ad, c, e, _, hK, hc0⟩ := Kd.C_get h K.zE (i : Int) (by omega) (by omega)
  rw [K.size4, Int.toNat_natCast] at hc0
  rw [Int.toNat_natCast] at hK
  rw [K.openE hK] at hc0
  exact ⟨ad, e, hc0 0 _ rfl, by rw [← add_field _ _ 1 (by omega)]; exact hc0 1 _ rfl, by rw [← add_field _ _ 2 (by omega)]; exact hc0 2 _ rfl, by rw [← add_field _ _ 3 (by omega)]; exact hc0 3 _ rfl⟩
theorem gcells4 {w : World} {g t : Nat} {a0 a1 a2 a3 : Value} (h : w.heap[g]? = some (.cells #[a0, a1, a2, a3] t (0, 0))) :
    w.cell? ⟨g, 0, none⟩ = some a0 ∧ w.cell? ⟨g, 1, none⟩ = some a1 ∧ w.cell? ⟨g, 2, none⟩ = some a2 ∧ w.cell? ⟨g, 3, none⟩ = some a3 :=
  ⟨(blk_cell h 0).trans rfl, (blk_cell h 1).trans rfl, (blk_cell h 2).trans rfl, (blk_cell h 3).trans rfl⟩
theorem Inv.new (d : Int) : Inv T (newB T d) := ⟨by simp [newB], by simp [newB], by simp [newB, wt]⟩
set_option maxRecDepth 100000 in
set_option maxHeartbeats 4000000 in
theorem tree_calls (A : Option Addr) (c : Nat) (l : List V) (w : World) (hr : K.D.C w A l.length l) (hc : l.length ≤ c) (v : S) (n r : Int) (ht : treeX T E K l 0 (newB T 64) = some (v, n, r)) :
    Calls Try.prog 22 #[.slice A l.length c] w fun e w' => ∃ v4, e = .returned (.tuple #[.agg #[.int .i64 (T.k v), .bool (T.neg v), .int .u64 (T.n v), .string (T.s v), v4], .int .i64 n, .int .i64 r]) ∧ T.D.R 25 w' w.heap.size (fun _ => True) v4 (T.kids v) ∧ Below w.heap.size w w' := by
  have hmax : l.length ≤ 9223372036854775807 := Kd.C_max hr
  obtain ⟨hz0, hz1, hz2, hz3, hz4⟩ := zcells T
  obtain ⟨W0, hW0⟩ : ∃ W0, w.alloc (.cells #[.int .i64 0, .bool false, .int .u64 0, .string ⟨#[]⟩, .slice none 0 0] 25) = W0 := ⟨_, rfl⟩
  have hb0 : Below w.heap.size w W0 := by rw [← hW0]; exact below_alloc (Below.refl _ _) _
  have hx0 : W0.heap[w.heap.size]? = some (.cells #[.int .i64 0, .bool false, .int .u64 0, .string ⟨#[]⟩, .slice none 0 0] 25 (0, 0)) := by rw [← hW0]; exact blk_new w _
  have hs0 : W0.heap.size = w.heap.size + 1 := by rw [← hW0, World.size_alloc]
  have HC := Aside0.mk hr
  have HT := Aside0.mk ht
  have HB0 := Aside0.mk hb0
  have HX0 := Aside0.mk hx0
  have HS0 := Aside0.mk hs0
  have HZ := Aside0.mk (zcells T)
  clear hr ht hb0 hx0 hs0 hz0 hz1 hz2 hz3 hz4
  go_enter Try.func22, Try.ntmps22
  go_wp2_with (go_at_call 26; (try rw [hW0]); refine (new_calls T W0).mono ?_; rintro e W1 ⟨rfl, hs1, hb1⟩; have HST := Aside0.mk hs1; have HB1 := Aside0.mk hb1; clear hs1 hb1)
  go_loopw [14] (fun j wr => ∃ (i : Nat) (b : BS S), j = .int .i64 (i : Int) ∧ i ≤ l.length ∧ Aside0 (St T W0.heap.size W0.heap.size wr b) ∧ Aside0 (Inv T b) ∧ Aside0 (Ke W0.heap.size W0 wr) ∧ Aside0 (treeX T E K (l.drop i) (i : Int) b = some (v, n, r))) (fun j _ => l.length - (intOf j).toNat)
  case atStart => exact ⟨0, newB T 64, rfl, Nat.zero_le _, HST, ⟨Inv.new T 64⟩, ⟨Ke.of_below (Nat.le_refl _) HB1.out⟩, by simpa using HT⟩
  case round =>
    obtain ⟨i, b, rfl, hi, HS, HI, HK, HTR⟩ := hrel
    clear HST HB1 HT
    have hbw : Below w.heap.size w wr := HB0.out.trans (HK.out.below.mono (by rw [HS0.out]; omega))
    have HBW := Aside0.mk hbw
    have hxr := (HK.out.below.block w.heap.size (by rw [HS0.out]; omega)).trans HX0.out
    by_cases hlt : i < l.length
    · obtain ⟨ad, e5, hx0, hx1, hx2, hx3⟩ := atE K HC.out i hlt
      cases e5
      replace hx0 := (hbw.cell (World.block_lt_of_cell? w _ hx0)).trans hx0
      replace hx1 := (hbw.cell (World.block_lt_of_cell? w _ hx1)).trans hx1
      replace hx2 := (hbw.cell (World.block_lt_of_cell? w _ hx2)).trans hx2
      replace hx3 := (hbw.cell (World.block_lt_of_cell? w _ hx3)).trans hx3
      obtain ⟨y, hy⟩ : ∃ y, l.getD i K.zE = y := ⟨_, rfl⟩
      rw [hy] at hx0 hx1 hx2 hx3
      have hdr : l.drop i = y :: l.drop (i + 1) := by
        rw [← hy, List.getD_eq_getElem?_getD, List.getElem?_eq_getElem hlt]
        exact List.drop_eq_getElem_cons hlt
      have htr := HTR.out
      rw [hdr, treeX] at htr
      obtain ⟨⟨q, b'⟩, hp, htr⟩ := Option.bind_eq_some_iff.1 htr
      obtain ⟨W4, hW4⟩ : ∃ W4, wr.alloc (.cells #[.int .i64 (K.ek y), .bool (K.eneg y), .int .u64 (K.en y), .string (K.es y)] 37 (0, 0)) = W4 := ⟨_, rfl⟩
      have hb4 : Below wr.heap.size wr W4 := by rw [← hW4]; exact below_alloc (Below.refl _ _) _
      have hbx4 : W4.heap[wr.heap.size]? = some (.cells #[.int .i64 (K.ek y), .bool (K.eneg y), .int .u64 (K.en y), .string (K.es y)] 37 (0, 0)) := by rw [← hW4]; exact World.alloc_heap_new wr _
      obtain ⟨d0, d1, d2, d3⟩ := gcells4 hbx4
      have HP := Aside0.mk (fun (h : St T W0.heap.size W0.heap.size W4 b) => put_calls T E W0.heap.size W0.heap.size W4 b b' (K.ek y) (K.eneg y) (K.en y) (K.es y) q h HI.out hp)
      have HS4 := Aside0.mk (HS.out.below T hb4)
      have HI4 := Aside0.mk (HI.out.put T E hp)
      have HK4 := Aside0.mk (HK.out.trans (Ke.of_below HS.out.size hb4))
      have HXR := Aside0.mk hxr
      have HLT := Aside0.mk hlt
      by_cases hq : q = 0
      · rw [if_pos hq] at htr
        subst hq
        have HT4 := Aside0.mk htr
        clear hb4 hbx4 hbw hp htr hxr HTR hdr
        go_wp2_with (go_at_call 18; (try rw [hW4]); refine (HP.out HS4.out).mono ?_; rintro e W6 ⟨rfl, hs6, hk6⟩; have HS6 := Aside0.mk hs6; have HK6 := Aside0.mk (HK4.out.trans hk6); clear hs6 hk6)
        go_roundw
        case rel => exact ⟨i + 1, b', by go_num, HLT.out, HS6, HI4, HK6, ⟨by have h := HT4.out; simpa using h⟩⟩
        case measure => have hlt_ := HLT.out; simp [intOf]; omega
      · rw [if_neg hq] at htr
        have hq2 : (q != 0) = true := by simp [hq]
        injection htr with htr
        simp only [Prod.mk.injEq] at htr
        obtain ⟨hv, hn, hq3⟩ := htr
        have HV := Aside0.mk hv
        have HN := Aside0.mk hn
        have HQ := Aside0.mk hq3
        clear hb4 hbx4 hbw hp hxr HTR hdr hv hn hq3
        go_wp2_with (go_at_call 18; (try rw [hW4]); refine (HP.out HS4.out).mono ?_; rintro e W6 ⟨rfl, hs6, hk6⟩; have hxs := (hk6.below.block w.heap.size (by rw [HS0.out]; omega)).trans ((HK4.out.below.block w.heap.size (by rw [HS0.out]; omega)).trans HX0.out); have HXS := Aside0.mk hxs; obtain ⟨z0, z1, z2, z3, z4⟩ := gcells5 hxs; have f0 := blk_frozen hxs 0; have f1 := blk_frozen hxs 1; have f2 := blk_frozen hxs 2; have f3 := blk_frozen hxs 3; have f4 := blk_frozen hxs 4; have HK6 := Aside0.mk (HK4.out.trans hk6); clear hs6 hk6 hxs)
        have h5 := blk_set (blk_set (blk_set (blk_set (blk_set HXS.out 0 (.int .i64 0)) 1 (.bool false)) 2 (.int .u64 0)) 3 (.string ⟨#[]⟩)) 4 (.slice none 0 0)
        simp only [List.setIfInBounds_toArray, List.set_cons_zero, List.set_cons_succ] at h5
        refine bodyPost_ret (results_ctt rfl _ _ w.heap.size 25 _ (0, 0) _ rfl h5 Try.underlying25 rfl (by kernel_rfl)) rfl ⟨.slice none 0 0, ?_, ?_, ?_⟩
        · have e1 := HV.out; have e2 := HN.out; have e3 := HQ.out
          subst e2; subst e3
          rw [← e1, HZ.out.1, HZ.out.2.1, HZ.out.2.2.1, HZ.out.2.2.2.1]
          rfl
        · rw [← HV.out, HZ.out.2.2.2.2]; exact Kd.R_nil _ _ _ _ _
        · have hb6 : Below w.heap.size w W6 := HB0.out.trans (HK6.out.below.mono (by rw [HS0.out]; omega))
          exact ((((hb6.setCell (p := ⟨w.heap.size, 0, none⟩) (Nat.le_refl _) _).setCell (p := ⟨w.heap.size, 1, none⟩) (Nat.le_refl _) _).setCell (p := ⟨w.heap.size, 2, none⟩) (Nat.le_refl _) _).setCell (p := ⟨w.heap.size, 3, none⟩) (Nat.le_refl _) _).setCell (p := ⟨w.heap.size, 4, none⟩) (Nat.le_refl _) _
    · obtain rfl : i = l.length := by omega
      have htr := HTR.out
      rw [List.drop_length, treeX] at htr
      injection htr with htr
      by_cases hw : b.whole = true
      · rw [if_pos hw] at htr
        simp only [Prod.mk.injEq] at htr
        obtain ⟨hv, hn, hq3⟩ := htr
        have HV := Aside0.mk hv
        have HN := Aside0.mk hn
        have HQ := Aside0.mk hq3
        have HX1 := Aside0.mk hxr
        clear hv hn hq3 hxr HTR hbw
        go_wp2_with (go_at_call 17; refine (value_whole T W0.heap.size W0.heap.size b wr HS.out hw).mono ?_; rintro e W6 ⟨v4, rfl, hr4, hb6⟩; obtain ⟨A4, c4, hv4⟩ := Kd.R_slice hr4; obtain ⟨L4, hL4⟩ : ∃ L4, (T.kids b.v).length = L4 := ⟨_, rfl⟩; rw [hL4] at hv4; subst hv4; have hxs := (hb6.block _ (blk_lt HX1.out)).trans HX1.out; have hxs2 := blk_alloc hxs (.cells #[.int .i64 (T.k b.v), .bool (T.neg b.v), .int .u64 (T.n b.v), .string (T.s b.v), .slice A4 L4 c4] 25); obtain ⟨z0, z1, z2, z3, z4⟩ := gcells5 hxs2; have f0 := blk_frozen hxs2 0; have f1 := blk_frozen hxs2 1; have f2 := blk_frozen hxs2 2; have f3 := blk_frozen hxs2 3; have f4 := blk_frozen hxs2 4; have hbx := blk_new W6 (.cells #[.int .i64 (T.k b.v), .bool (T.neg b.v), .int .u64 (T.n b.v), .string (T.s b.v), .slice A4 L4 c4] 25); obtain ⟨y0, y1, y2, y3, y4⟩ := gcells5 hbx; have HXS := Aside0.mk hxs2; have HR4 := Aside0.mk hr4; have HB6 := Aside0.mk hb6; clear hb6 hxs hxs2 hr4 hbx)
        have h5 := blk_set (blk_set (blk_set (blk_set (blk_set HXS.out 0 (.int .i64 (T.k b.v))) 1 (.bool (T.neg b.v))) 2 (.int .u64 (T.n b.v))) 3 (.string (T.s b.v))) 4 (.slice A4 L4 c4)
        simp only [List.setIfInBounds_toArray, List.set_cons_zero, List.set_cons_succ] at h5
        refine bodyPost_ret (results_ctt rfl _ _ w.heap.size 25 _ (0, 0) _ rfl h5 Try.underlying25 rfl (by kernel_rfl)) rfl ⟨.slice A4 L4 c4, ?_, ?_, ?_⟩
        · have e1 := HV.out; have e2 := HN.out; have e3 := HQ.out
          subst e1; subst e3
          rw [← e2]
          rfl
        · have hra := Kd.R_below HR4.out (below_alloc (Below.refl W6.heap.size W6) (.cells #[.int .i64 (T.k b.v), .bool (T.neg b.v), .int .u64 (T.n b.v), .string (T.s b.v), .slice A4 L4 c4] 25))
          have hrb := Kd.R_mono (ok' := fun k => k ≠ w.heap.size) (Kd.R_lower (base' := w.heap.size) (Kd.R_bound hra) (by rw [HS0.out]; omega)) (fun k hk => by have := hk.2.1; have := HS0.out; omega)
          rw [← HV.out]
          refine Kd.R_mono (Kd.R_step hrb (fun k hk _ => ?_)) (fun _ _ => trivial)
          exact (Below.heap_setCell _ ⟨w.heap.size, 4, none⟩ _ k hk).trans ((Below.heap_setCell _ ⟨w.heap.size, 3, none⟩ _ k hk).trans ((Below.heap_setCell _ ⟨w.heap.size, 2, none⟩ _ k hk).trans ((Below.heap_setCell _ ⟨w.heap.size, 1, none⟩ _ k hk).trans (Below.heap_setCell _ ⟨w.heap.size, 0, none⟩ _ k hk))))
        · have hb6 := (HBW.out.trans (HB6.out.mono HBW.out.size)).trans ((below_alloc (Below.refl W6.heap.size W6) (.cells #[.int .i64 (T.k b.v), .bool (T.neg b.v), .int .u64 (T.n b.v), .string (T.s b.v), .slice A4 L4 c4] 25)).mono (HBW.out.trans (HB6.out.mono HBW.out.size)).size)
          exact ((((hb6.setCell (p := ⟨w.heap.size, 0, none⟩) (Nat.le_refl _) _).setCell (p := ⟨w.heap.size, 1, none⟩) (Nat.le_refl _) _).setCell (p := ⟨w.heap.size, 2, none⟩) (Nat.le_refl _) _).setCell (p := ⟨w.heap.size, 3, none⟩) (Nat.le_refl _) _).setCell (p := ⟨w.heap.size, 4, none⟩) (Nat.le_refl _) _
      · rw [if_neg hw] at htr
        have hw2 : b.whole = false := by simpa using hw
        simp only [Prod.mk.injEq] at htr
        obtain ⟨hv, hn, hq3⟩ := htr
        have HV := Aside0.mk hv
        have HN := Aside0.mk hn
        have HQ := Aside0.mk hq3
        have HX1 := Aside0.mk hxr
        clear hv hn hq3 hxr HTR hbw
        go_wp2_with (go_at_call 17; refine (value_short T W0.heap.size W0.heap.size b wr HS.out hw2).mono ?_; rintro e W6 ⟨rfl, hb6⟩; have hxs := (hb6.block _ (blk_lt HX1.out)).trans HX1.out; have hxs2 := blk_alloc hxs (.cells #[.int .i64 0, .bool false, .int .u64 0, .string ⟨#[]⟩, .slice none 0 0] 25); obtain ⟨z0, z1, z2, z3, z4⟩ := gcells5 hxs2; have f0 := blk_frozen hxs2 0; have f1 := blk_frozen hxs2 1; have f2 := blk_frozen hxs2 2; have f3 := blk_frozen hxs2 3; have f4 := blk_frozen hxs2 4; have hbx := blk_new W6 (.cells #[.int .i64 0, .bool false, .int .u64 0, .string ⟨#[]⟩, .slice none 0 0] 25); obtain ⟨y0, y1, y2, y3, y4⟩ := gcells5 hbx; have HXS := Aside0.mk hxs2; have HB6 := Aside0.mk hb6; clear hb6 hxs hxs2 hbx)
        have h5 := blk_set (blk_set (blk_set (blk_set (blk_set HXS.out 0 (.int .i64 0)) 1 (.bool false)) 2 (.int .u64 0)) 3 (.string ⟨#[]⟩)) 4 (.slice none 0 0)
        simp only [List.setIfInBounds_toArray, List.set_cons_zero, List.set_cons_succ] at h5
        refine bodyPost_ret (results_ctt rfl _ _ w.heap.size 25 _ (0, 0) _ rfl h5 Try.underlying25 rfl (by kernel_rfl)) rfl ⟨.slice none 0 0, ?_, ?_, ?_⟩
        · have e1 := HV.out; have e2 := HN.out; have e3 := HQ.out
          subst e3
          rw [← e1, ← e2, HZ.out.1, HZ.out.2.1, HZ.out.2.2.1, HZ.out.2.2.2.1]
          rfl
        · rw [← HV.out, HZ.out.2.2.2.2]; exact Kd.R_nil _ _ _ _ _
        · have hb6 := (HBW.out.trans (HB6.out.mono HBW.out.size)).trans ((below_alloc (Below.refl W6.heap.size W6) (.cells #[.int .i64 0, .bool false, .int .u64 0, .string ⟨#[]⟩, .slice none 0 0] 25)).mono (HBW.out.trans (HB6.out.mono HBW.out.size)).size)
          exact ((((hb6.setCell (p := ⟨w.heap.size, 0, none⟩) (Nat.le_refl _) _).setCell (p := ⟨w.heap.size, 1, none⟩) (Nat.le_refl _) _).setCell (p := ⟨w.heap.size, 2, none⟩) (Nat.le_refl _) _).setCell (p := ⟨w.heap.size, 3, none⟩) (Nat.le_refl _) _).setCell (p := ⟨w.heap.size, 4, none⟩) (Nat.le_refl _) _
theorem mayX_mono (E' : Env T) (h1 : ∀ y, LeO (E.one y) (E'.one y)) (h2 : ∀ y, LeO (E.dep y) (E'.dep y)) (b : BS S) (a : Int) (ng : Bool) (c : Int) (d : ByteArray) : LeO (mayX T E b a ng c d) (mayX T E' b a ng c d) := by
  unfold mayX
  refine LeO.bind (h1 _) fun r => LeO.ite (LeO.refl _) (LeO.bind ?_ fun r => LeO.ite (LeO.refl _) (LeO.bind (h2 _) fun m => LeO.refl _))
  unfold topX
  cases b.open_ with
  | nil => exact LeO.refl _
  | cons p ps => exact LeO.ite (h1 _) (LeO.refl _)
theorem putX_mono (E' : Env T) (h1 : ∀ y, LeO (E.one y) (E'.one y)) (h2 : ∀ y, LeO (E.dep y) (E'.dep y)) (b : BS S) (a : Int) (ng : Bool) (c : Int) (d : ByteArray) : LeO (putX T E b a ng c d) (putX T E' b a ng c d) := by
  unfold putX
  exact LeO.ite (LeO.refl _) (LeO.ite (LeO.refl _) (LeO.bind (mayX_mono T E E' h1 h2 b a ng c d) fun r => LeO.refl _))
theorem treeX_mono (E' : Env T) (K : EvO V) (h1 : ∀ y, LeO (E.one y) (E'.one y)) (h2 : ∀ y, LeO (E.dep y) (E'.dep y)) : ∀ (l : List V) (i : Int) (b : BS S), LeO (treeX T E K l i b) (treeX T E' K l i b)
  | [], i, b => LeO.refl _
  | e :: l, i, b => by
    unfold treeX
    exact LeO.bind (putX_mono T E E' h1 h2 b _ _ _ _) fun p => LeO.ite (treeX_mono E' K h1 h2 l _ _) (LeO.refl _)
end
end Go.Proofs.Ytcgpfclmcajekaa.Bld
