-- Out of texts of this seat by a program of this session: what the claim does not reach is struck
import Derived.Test.YtcgpfclmcajekaaZChk
namespace Go.Proofs.Ytcgpfclmcajekaa.Each
open Go Go.RowKit Go.Shelf Go.Proofs.YtcgpfclmcajekaaW.PrintWords Go.Proofs.YtcgpfclmcajekaaW.PrintLast
set_option linter.unusedVariables false
set_option linter.unusedSimpArgs false
structure EvK (V : Type) where
  D : Kd V
  ev : Int → Bool → Int → ByteArray → V
  size4 : D.sz = 4
  bare : D.E = []
  M_mk : ∀ (w : World) (base : Nat) (ok : Nat → Prop) a b c d, D.M w base ok (ev a b c d) [.int .i64 a, .bool b, .int .u64 c, .string d]
section
variable {S V : Type} (T : Tree S) (K : EvK V)
def ends (x : S) : List V := if T.k x = 11 ∨ T.k x = 12 then [K.ev 15 false 0 ⟨#[]⟩] else []
def evs : Nat → S → List V
  | 0, _ => []
  | m + 1, x => K.ev (T.k x) (T.neg x) (T.n x) (T.s x) :: (((T.kids x).map (evs m)).flatten ++ ends T K x)
theorem info37 : (Try.prog.info? 37).map (fun i => (i.zero, i.size, i.bytes)) = some (some (.agg #[.int .i64 0, .bool false, .int .u64 0, .string ⟨#[]⟩]), 4, 40) := by kernel_rfl
theorem flat_snoc (f : S → List V) (z : S) : ∀ (l : List S) (j : Nat), j < l.length → ((l.take (j + 1)).map f).flatten = ((l.take j).map f).flatten ++ f (l.getD j z)
  | [], j, h => by simp at h
  | y :: ys, 0, _ => by simp
  | y :: ys, j + 1, h => by
    simp only [List.take_succ_cons, List.map_cons, List.flatten_cons]
    rw [flat_snoc f z ys j (by simpa using h)]
    simp
theorem flat_le (f : S → List V) (l : List S) (j : Nat) : ((l.take j).map f).flatten.length ≤ (l.map f).flatten.length := by
  have h : (l.map f).flatten = ((l.take j).map f).flatten ++ ((l.drop j).map f).flatten := by
    rw [← List.flatten_append, ← List.map_append, List.take_append_drop]
  rw [h, List.length_append]; omega
theorem slice_of {W : World} {b : Nat} {ok : Nat → Prop} {v : Value} {xs : List V} (h : K.D.R 37 W b ok v xs) : ∃ A n c, v = .slice A n c := let ⟨A, c, h⟩ := Kd.R_slice h; ⟨A, _, c, h⟩
structure Ke (n0 : Nat) (W W' : World) : Prop where
  below : Below n0 W W'
  cells : ∀ (b : Nat) cs t fz, t ≠ 26 → t ≠ 37 → W.heap[b]? = some (.cells cs t fz) → W'.heap[b]? = some (.cells cs t fz)
theorem Ke.refl (n0 : Nat) (W : World) : Ke n0 W W := ⟨Below.refl _ _, fun _ _ _ _ _ _ h => h⟩
theorem Ke.trans {n0 : Nat} {A B C : World} (h : Ke n0 A B) (k : Ke n0 B C) : Ke n0 A C := ⟨h.below.trans k.below, fun b cs t fz h1 h2 hc => k.cells b cs t fz h1 h2 (h.cells b cs t fz h1 h2 hc)⟩
theorem Ke.of_below {n0 : Nat} {A B : World} (hn : n0 ≤ A.heap.size) (h : Below A.heap.size A B) : Ke n0 A B :=
  ⟨h.mono hn, fun b cs t fz _ _ hc => (h.block b (Array.getElem?_eq_some_iff.1 hc).1).trans hc⟩
theorem Ke.grown {n0 : Nat} {A B : World} {row : Option Nat} (hg : A.grownBy B row) (hn : n0 ≤ A.heap.size) (hr : ∀ k, row = some k → n0 ≤ k ∧ ∃ cells, A.heap[k]? = some (.cells cells 37 (0, 0))) : Ke n0 A B :=
  ⟨(Below.refl n0 A).grown hg hn (fun k e => (hr k e).1), fun b cs t fz h1 h2 hc => (hg.block b (Array.getElem?_eq_some_iff.1 hc).1 (fun e => by
    obtain ⟨_, cells, h⟩ := hr b e.symm
    rw [hc] at h
    injection h with h
    injection h with _ h3 _
    exact h2 h3)).trans hc⟩
theorem Ke.set {n0 g : Nat} {A : World} {cs : Array Value} (hg : A.heap[g]? = some (.cells cs 26 (0, 0))) (hn : n0 ≤ g) (u : Value) : Ke n0 A (A.setCell ⟨g, 0, none⟩ u) :=
  ⟨(Below.refl n0 A).setCell (p := ⟨g, 0, none⟩) hn u, fun b cs' t fz h1 h2 hc => (Below.heap_setCell A ⟨g, 0, none⟩ u b (fun e => by
    have e' : b = g := e
    subst e'
    rw [hg] at hc
    injection hc with hc
    injection hc with _ h3 _
    exact h1 h3.symm)).trans hc⟩
structure St (gl gp : Nat) (w0 W : World) (xs : List V) : Prop where
  row : ∃ v, W.heap[gl]? = some (.cells #[v] 26 (0, 0)) ∧ K.D.R 37 W w0.heap.size (fun _ => True) v xs
  clo : W.heap[gp]? = some (.cells #[.func (.func 29) #[] #[.pointer (some ⟨gl, 0, none⟩), .pointer (some ⟨gp, 0, none⟩)]] 64 (0, 0))
  below : Below w0.heap.size w0 W
set_option maxRecDepth 100000 in
set_option maxHeartbeats 8000000 in
theorem put_calls (gl gp : Nat) (w0 : World) (hgl : w0.heap.size ≤ gl) : ∀ (m : Nat) (x : S) (cs : List Value) (W : World) (xs : List V), T.sz x < m → xs.length + (evs T K m x).length ≤ 4194304 → T.D.K w0 x cs → St K gl gp w0 W xs →
    Calls Try.prog 29 #[.agg cs.toArray, .pointer (some ⟨gl, 0, none⟩), .pointer (some ⟨gp, 0, none⟩)] W (fun e W' => e = .returned (.tuple #[]) ∧ St K gl gp w0 W' (xs ++ evs T K m x) ∧ Ke w0.heap.size W W') := by
  intro m
  induction m with
  | zero => intro x cs W xs h; omega
  | succ m ih =>
  rintro x cs W xs hsz hlen hK ⟨⟨v, hv, hrow⟩, hclo, hbel⟩
  obtain ⟨A0, n0, c0, rfl⟩ := slice_of K hrow
  obtain ⟨A4, c4, rfl, hc4, g4⟩ := T.openK hK
  obtain ⟨E, hE⟩ : ∃ E, ((T.kids x).map (evs T K m)).flatten = E := ⟨_, rfl⟩
  have hev : evs T K (m + 1) x = K.ev (T.k x) (T.neg x) (T.n x) (T.s x) :: (E ++ ends T K x) := by rw [← hE]; rfl
  obtain ⟨W1, hW1⟩ : ∃ W1, W.alloc (.cells #[.int .i64 (T.k x), .bool (T.neg x), .int .u64 (T.n x), .string (T.s x), .slice A4 (T.kids x).length c4] 25 (0, 0)) = W1 := ⟨_, rfl⟩
  have hb1 : Below W.heap.size W W1 := by rw [← hW1]; exact below_alloc (Below.refl _ _) _
  have hx1 : W1.heap[W.heap.size]? = some (.cells #[.int .i64 (T.k x), .bool (T.neg x), .int .u64 (T.n x), .string (T.s x), .slice A4 (T.kids x).length c4] 25 (0, 0)) := by rw [← hW1]; exact World.alloc_heap_new W _
  have hv1 : W1.heap[gl]? = some (.cells #[.slice A0 n0 c0] 26 (0, 0)) := (hb1.block gl (blk_lt hv)).trans hv
  have hr1 : K.D.R 37 W1 w0.heap.size (fun _ => True) (.slice A0 n0 c0) xs := Kd.R_below hrow hb1
  have hk1 : Ke w0.heap.size W W1 := Ke.of_below hbel.size hb1
  have hbe1 : Below w0.heap.size w0 W1 := hbel.trans hk1.below
  have hs1 : w0.heap.size ≤ W1.heap.size := hbe1.size
  have hglt : gl < W.heap.size := blk_lt hv
  obtain ⟨b0, b1, b2, b3, b4⟩ := cells5 hx1
  have hvc := (blk_cell hv1 0).trans (rfl : _ = some (Value.slice A0 n0 c0))
  have HV := Aside0.mk hv1
  have HX := Aside0.mk hx1
  have HR := Aside0.mk hr1
  have HK1 := Aside0.mk hk1
  have HB := Aside0.mk hbe1
  have HCL := Aside0.mk hclo
  have HIH := Aside0.mk ih
  have HLEN := Aside0.mk hlen
  have HE := Aside0.mk hE
  have HEV := Aside0.mk hev
  have HK := Aside0.mk hK
  have HG4 := Aside0.mk g4
  have HB1 := Aside0.mk hb1
  clear hb1 hx1 hv1 hr1 hk1 hbe1 hclo ih hlen hE hev hK g4 hv hrow hbel
  go_enter Try.func29, Try.ntmps29
  go_wp2_with (first | ((with_reducible refine gate_builtin (b := .append) (xs := #[.tmp 6, .tmp 16]) rfl ?_); at_builtin; refine Kd.R_append K.D (w0 := w0) (W := W1) w0.heap.size rfl (.tmp 6) (.tmp 16) 26 37 (.agg #[.int .i64 0, .bool false, .int .u64 0, .string ⟨#[]⟩]) 40 rfl Try.underlying26 ?aI ?aZ ?aS ?aT (.slice A0 n0 c0) xs (K.ev (T.k x) (T.neg x) (T.n x) (T.s x)) [.int .i64 (T.k x), .bool (T.neg x), .int .u64 (T.n x), .string (T.s x)] (fun _ => True) (fun _ => False) rfl rfl (K.M_mk _ _ _ _ _ _ _) (fun _ h => h.elim) (fun _ _ => trivial) HR.out HB.out hs1 ?aL ?_; (case aI => rw [K.size4]; exact info37); (case aZ => rw [K.size4]; rfl); (case aS => rw [K.size4]; decide); (case aT => decide); (case aL => have h := HLEN.out; rw [HEV.out, List.length_cons] at h; omega); intro v1 w1 hR1 hB1 hg1 hat1; obtain ⟨A1, n1, c1, rfl⟩ := slice_of K hR1; have hbv := blk_grown HV.out hg1 (Kd.R_ne HR.out HV.out (by decide)); have hbx := blk_grown HX.out hg1 (Kd.R_ne HR.out HX.out (by decide)); have hcz := (blk_cell hbv 0).trans (rfl : _ = some (Value.slice A0 n0 c0)); have hfz := blk_frozen hbv 0; have hx4 : (w1.setCell ⟨gl, 0, none⟩ (.slice A1 n1 c1)).cell? ⟨W.heap.size, 4, none⟩ = some (.slice A4 (T.kids x).length c4) := (blk_cell ((Below.heap_setCell w1 ⟨gl, 0, none⟩ (.slice A1 n1 c1) W.heap.size (by show W.heap.size ≠ gl; omega)).trans hbx) 4).trans rfl; have HW := Aside0.mk hbv; have HG := Aside0.mk hg1; have HR1 := Aside0.mk hR1; clear hR1 hB1 hg1 hat1 hbv hbx))
  have hbase : ∀ k, (Value.slice A0 n0 c0).ownBlock = some k → w0.heap.size ≤ k ∧ ∃ cells, W1.heap[k]? = some (.cells cells 37 (0, 0)) := fun k hk => ⟨Kd.R_base HR.out k hk, Kd.R_typed HR.out k hk⟩
  have hke : Ke w0.heap.size W1 (w1.setCell ⟨gl, 0, none⟩ (.slice A1 n1 c1)) := (Ke.grown HG.out hs1 hbase).trans (Ke.set HW.out hgl _)
  have HKE0 := Aside0.mk hke
  have hst : St K gl gp w0 (w1.setCell ⟨gl, 0, none⟩ (.slice A1 n1 c1)) (xs ++ [K.ev (T.k x) (T.neg x) (T.n x) (T.s x)]) := ⟨⟨.slice A1 n1 c1, by have h2 := blk_set HW.out 0 (.slice A1 n1 c1); simpa using h2, Kd.R_set HR1.out HW.out (by rw [K.bare]; decide) 0 _⟩, (HK1.out.trans hke).cells _ _ _ _ (by decide) (by decide) HCL.out, HB.out.trans hke.below⟩
  have HST := Aside0.mk hst
  clear hke hst hbase hcz hfz hx4 b0 b1 b2 b3 b4 hvc HW HG HR1 HV HR
  obtain ⟨W2, hW2⟩ : ∃ W2, w1.setCell ⟨gl, 0, none⟩ (.slice A1 n1 c1) = W2 := ⟨_, rfl⟩
  rw [hW2] at HST HKE0
  try rw [hW2]
  go_loopw [21] (fun i wr => ∃ j : Nat, i = .int .i64 (j : Int) ∧ j ≤ (T.kids x).length ∧ Aside0 (St K gl gp w0 wr (xs ++ (K.ev (T.k x) (T.neg x) (T.n x) (T.s x) :: (((T.kids x).take j).map (evs T K m)).flatten))) ∧ Aside0 (Ke w0.heap.size W1 wr)) (fun i _ => (T.kids x).length - (intOf i).toNat)
  case atStart => exact ⟨0, rfl, Nat.zero_le _, by simpa using HST, HKE0⟩
  case round =>
    obtain ⟨j, rfl, hj, HS, HKE⟩ := hrel
    clear HST HKE0 hW2
    by_cases hlt : j < (T.kids x).length
    · have hmem : (T.kids x).getD j T.z ∈ T.kids x := by rw [List.getD_eq_getElem?_getD, List.getElem?_eq_getElem hlt]; exact List.getElem_mem hlt
      have hb3 : Below w0.heap.size w0 wr := HS.out.below
      obtain ⟨ad, A5, c5, e5, hx0, hx1, hx2, hx3, hx4, hKy⟩ := T.at_ HG4.out (j : Int) (by omega) (by omega)
      cases e5
      replace hx0 := (hb3.cell (World.block_lt_of_cell? w0 _ hx0)).trans hx0
      replace hx1 := (hb3.cell (World.block_lt_of_cell? w0 _ hx1)).trans hx1
      replace hx2 := (hb3.cell (World.block_lt_of_cell? w0 _ hx2)).trans hx2
      replace hx3 := (hb3.cell (World.block_lt_of_cell? w0 _ hx3)).trans hx3
      replace hx4 := (hb3.cell (World.block_lt_of_cell? w0 _ hx4)).trans hx4
      simp only [Int.toNat_natCast] at hx0 hx1 hx2 hx3 hx4 hKy
      have hsn := flat_snoc (V := V) (evs T K m) T.z (T.kids x) j hlt
      have hle := flat_le (V := V) (evs T K m) (T.kids x) (j + 1)
      obtain ⟨y, hy⟩ : ∃ y, (T.kids x).getD j T.z = y := ⟨_, rfl⟩
      rw [hy] at hx0 hx1 hx2 hx3 hx4 hKy hmem hsn
      rw [hsn, HE.out, List.length_append] at hle
      have HSZ : Aside0 (T.sz y < m) := ⟨by have := T.lt x y hmem; omega⟩
      have HLN : Aside0 ((xs ++ (K.ev (T.k x) (T.neg x) (T.n x) (T.s x) :: (((T.kids x).take j).map (evs T K m)).flatten)).length + (evs T K m y).length ≤ 4194304) := ⟨by
        have h := HLEN.out
        rw [HEV.out] at h
        simp only [List.length_append, List.length_cons] at h ⊢
        omega⟩
      have HKY := Aside0.mk hKy
      have HSN := Aside0.mk hsn
      obtain ⟨W4, hW4⟩ : ∃ W4, wr.alloc (.cells #[.int .i64 (T.k y), .bool (T.neg y), .int .u64 (T.n y), .string (T.s y), .slice A5 (T.kids y).length c5] 25 (0, 0)) = W4 := ⟨_, rfl⟩
      have hb4 : Below wr.heap.size wr W4 := by rw [← hW4]; exact below_alloc (Below.refl _ _) _
      have hbx4 : W4.heap[wr.heap.size]? = some (.cells #[.int .i64 (T.k y), .bool (T.neg y), .int .u64 (T.n y), .string (T.s y), .slice A5 (T.kids y).length c5] 25 (0, 0)) := by rw [← hW4]; exact World.alloc_heap_new wr _
      obtain ⟨d0, d1, d2, d3, d4⟩ := cells5 hbx4
      have hcl4 : W4.heap[gp]? = some (.cells #[.func (.func 29) #[] #[.pointer (some ⟨gl, 0, none⟩), .pointer (some ⟨gp, 0, none⟩)]] 64 (0, 0)) := (hb4.block gp (blk_lt HS.out.clo)).trans HS.out.clo
      have hcc4 := (blk_cell hcl4 0).trans (rfl : _ = some (Value.func (.func 29) #[] #[.pointer (some ⟨gl, 0, none⟩), .pointer (some ⟨gp, 0, none⟩)]))
      have HK4 := Aside0.mk (Ke.of_below hb3.size hb4)
      have HST4 : Aside0 (St K gl gp w0 W4 (xs ++ (K.ev (T.k x) (T.neg x) (T.n x) (T.s x) :: (((T.kids x).take j).map (evs T K m)).flatten))) := ⟨⟨by obtain ⟨v, h1, h2⟩ := HS.out.row; exact ⟨v, (hb4.block gl (blk_lt h1)).trans h1, Kd.R_below h2 hb4⟩, hcl4, hb3.trans (hb4.mono hb3.size)⟩⟩
      have HLT := Aside0.mk hlt
      have hmax : (T.kids x).length ≤ 9223372036854775807 := HG4.out.2.1
      clear hb4 hbx4 hcl4 hKy hsn hle hmem hb3
      go_wp2_with (go_at_call 29; refine (HIH.out y _ W4 _ HSZ.out HLN.out HKY.out HST4.out).mono ?_; rintro e W6 ⟨rfl, hs6, hk6⟩; have HS6 := Aside0.mk hs6; have HK6 := Aside0.mk hk6; clear hs6 hk6)
      go_roundw
      case rel => exact ⟨j + 1, by go_num, HLT.out, ⟨by rw [HSN.out]; have h9 := HS6.out; simpa using h9⟩, ⟨HKE.out.trans (HK4.out.trans HK6.out)⟩⟩
      case measure => have hlt_ := HLT.out; simp [intOf]; omega
    · obtain rfl : j = (T.kids x).length := by omega
      have hx0 : wr.cell? ⟨W.heap.size, 0, none⟩ = some (.int .i64 (T.k x)) := (cells5 (HKE.out.cells _ _ _ _ (by decide) (by decide) HX.out)).1
      obtain ⟨XS, hXS⟩ : ∃ XS, xs ++ (K.ev (T.k x) (T.neg x) (T.n x) (T.s x) :: (((T.kids x).take (T.kids x).length).map (evs T K m)).flatten) = XS := ⟨_, rfl⟩
      rw [hXS] at HS
      rw [List.take_length] at hXS
      have hL3 := HLEN.out
      have HXS := Aside0.mk hXS
      obtain ⟨v3, hv3, hrow3⟩ := HS.out.row
      obtain ⟨A3, n3, c3, rfl⟩ := slice_of K hrow3
      have hcv3 := (blk_cell hv3 0).trans (rfl : _ = some (Value.slice A3 n3 c3))
      have HV3 := Aside0.mk hv3
      have HR3 := Aside0.mk hrow3
      have hs3 : w0.heap.size ≤ wr.heap.size := HS.out.below.size
      clear hv3 hrow3 hXS
      by_cases h11 : T.k x = 11
      · have HL3 := Aside0.mk (show XS.length + 1 ≤ 4194304 by rw [HEV.out, ends, if_pos (by omega)] at hL3; rw [← HXS.out, HE.out]; simp only [List.length_append, List.length_cons, List.length_nil] at hL3 ⊢; omega)
        have hq : (T.k x == 11) = true := beq_iff_eq.mpr h11
        clear hL3
        go_wp2_with (first | ((with_reducible refine gate_builtin (b := .append) (xs := #[.tmp 35, .tmp 37]) rfl ?_); at_builtin; refine Kd.R_append K.D (w0 := w0) (W := wr) w0.heap.size rfl (.tmp 35) (.tmp 37) 26 37 (.agg #[.int .i64 0, .bool false, .int .u64 0, .string ⟨#[]⟩]) 40 rfl Try.underlying26 ?aI ?aZ ?aS ?aT (.slice A3 n3 c3) XS (K.ev 15 false 0 ⟨#[]⟩) [.int .i64 15, .bool false, .int .u64 0, .string ⟨#[]⟩] (fun _ => True) (fun _ => False) rfl rfl (K.M_mk _ _ _ _ _ _ _) (fun _ h => h.elim) (fun _ _ => trivial) HR3.out HS.out.below hs3 ?aL ?_; (case aI => rw [K.size4]; exact info37); (case aZ => rw [K.size4]; rfl); (case aS => rw [K.size4]; decide); (case aT => decide); (case aL => have h := HL3.out; omega); intro v1 w1 hR1 hB1 hg1 hat1; obtain ⟨A1, n1, c1, rfl⟩ := slice_of K hR1; have hbv := blk_grown HV3.out hg1 (Kd.R_ne HR3.out HV3.out (by decide)); have hcz := (blk_cell hbv 0).trans (rfl : _ = some (Value.slice A3 n3 c3)); have hfz := blk_frozen hbv 0; have HW := Aside0.mk hbv; have HG := Aside0.mk hg1; have HR1 := Aside0.mk hR1; clear hR1 hB1 hg1 hat1 hbv))
        go_end0
        have hbase : ∀ k, (Value.slice A3 n3 c3).ownBlock = some k → w0.heap.size ≤ k ∧ ∃ cells, wr.heap[k]? = some (.cells cells 37 (0, 0)) := fun k hk => ⟨Kd.R_base HR3.out k hk, Kd.R_typed HR3.out k hk⟩
        have hke : Ke w0.heap.size wr (w1.setCell ⟨gl, 0, none⟩ (.slice A1 n1 c1)) := (Ke.grown HG.out hs3 hbase).trans (Ke.set HW.out hgl _)
        refine ⟨rfl, ⟨⟨.slice A1 n1 c1, by have h2 := blk_set HW.out 0 (.slice A1 n1 c1); simpa using h2, ?_⟩, hke.cells _ _ _ _ (by decide) (by decide) HS.out.clo, HS.out.below.trans hke.below⟩, HK1.out.trans (HKE.out.trans hke)⟩
        rw [HEV.out, ends, if_pos (by omega)]
        have h9 := Kd.R_set HR1.out HW.out (by rw [K.bare]; decide) 0 (.slice A1 n1 c1)
        rw [← HXS.out, HE.out] at h9
        simpa using h9
      · by_cases h12 : T.k x = 12
        · have HL3 := Aside0.mk (show XS.length + 1 ≤ 4194304 by rw [HEV.out, ends, if_pos (by omega)] at hL3; rw [← HXS.out, HE.out]; simp only [List.length_append, List.length_cons, List.length_nil] at hL3 ⊢; omega)
          have hq0 : (T.k x == 11) = false := beq_eq_false_iff_ne.mpr h11
          have hq : (T.k x == 12) = true := beq_iff_eq.mpr h12
          clear hL3
          go_wp2_with (first | ((with_reducible refine gate_builtin (b := .append) (xs := #[.tmp 35, .tmp 37]) rfl ?_); at_builtin; refine Kd.R_append K.D (w0 := w0) (W := wr) w0.heap.size rfl (.tmp 35) (.tmp 37) 26 37 (.agg #[.int .i64 0, .bool false, .int .u64 0, .string ⟨#[]⟩]) 40 rfl Try.underlying26 ?aI ?aZ ?aS ?aT (.slice A3 n3 c3) XS (K.ev 15 false 0 ⟨#[]⟩) [.int .i64 15, .bool false, .int .u64 0, .string ⟨#[]⟩] (fun _ => True) (fun _ => False) rfl rfl (K.M_mk _ _ _ _ _ _ _) (fun _ h => h.elim) (fun _ _ => trivial) HR3.out HS.out.below hs3 ?aL ?_; (case aI => rw [K.size4]; exact info37); (case aZ => rw [K.size4]; rfl); (case aS => rw [K.size4]; decide); (case aT => decide); (case aL => have h := HL3.out; omega); intro v1 w1 hR1 hB1 hg1 hat1; obtain ⟨A1, n1, c1, rfl⟩ := slice_of K hR1; have hbv := blk_grown HV3.out hg1 (Kd.R_ne HR3.out HV3.out (by decide)); have hcz := (blk_cell hbv 0).trans (rfl : _ = some (Value.slice A3 n3 c3)); have hfz := blk_frozen hbv 0; have HW := Aside0.mk hbv; have HG := Aside0.mk hg1; have HR1 := Aside0.mk hR1; clear hR1 hB1 hg1 hat1 hbv))
          go_end0
          have hbase : ∀ k, (Value.slice A3 n3 c3).ownBlock = some k → w0.heap.size ≤ k ∧ ∃ cells, wr.heap[k]? = some (.cells cells 37 (0, 0)) := fun k hk => ⟨Kd.R_base HR3.out k hk, Kd.R_typed HR3.out k hk⟩
          have hke : Ke w0.heap.size wr (w1.setCell ⟨gl, 0, none⟩ (.slice A1 n1 c1)) := (Ke.grown HG.out hs3 hbase).trans (Ke.set HW.out hgl _)
          refine ⟨rfl, ⟨⟨.slice A1 n1 c1, by have h2 := blk_set HW.out 0 (.slice A1 n1 c1); simpa using h2, ?_⟩, hke.cells _ _ _ _ (by decide) (by decide) HS.out.clo, HS.out.below.trans hke.below⟩, HK1.out.trans (HKE.out.trans hke)⟩
          rw [HEV.out, ends, if_pos (by omega)]
          have h9 := Kd.R_set HR1.out HW.out (by rw [K.bare]; decide) 0 (.slice A1 n1 c1)
          rw [← HXS.out, HE.out] at h9
          simpa using h9
        · have hq0 : (T.k x == 11) = false := beq_eq_false_iff_ne.mpr h11
          have hq1 : (T.k x == 12) = false := beq_eq_false_iff_ne.mpr h12
          clear hL3
          go_wp2
          go_end0
          refine ⟨rfl, ⟨⟨_, HV3.out, ?_⟩, HS.out.clo, HS.out.below⟩, HK1.out.trans HKE.out⟩
          rw [HEV.out, ends, if_neg (by omega), List.append_nil, ← HE.out, HXS.out]
          exact HR3.out
theorem events_calls (x : S) (cs : List Value) (w : World) (m : Nat) (hm : T.sz x < m) (hK : T.D.K w x cs) (c : Int) (hlen : (evs T K m x).length ≤ 4194304)
    (hchk : ∀ W, T.D.K W x cs → Calls Try.prog 14 #[.agg cs.toArray] W fun e W' => e = .returned (.int .i64 c) ∧ Below W.heap.size W W') :
    Calls Try.prog 10 #[.agg cs.toArray] w fun e w' => ∃ v, e = .returned (.tuple #[v, .int .i64 c]) ∧ K.D.R 37 w' w.heap.size (fun _ => True) v (if c = 0 then evs T K m x else []) ∧ Below w.heap.size w w' := by
  have hK' := hK
  obtain ⟨A4, c4, rfl, hc4, g4⟩ := T.openK hK
  obtain ⟨W1, hW1⟩ : ∃ W1, w.alloc (.cells #[.int .i64 (T.k x), .bool (T.neg x), .int .u64 (T.n x), .string (T.s x), .slice A4 (T.kids x).length c4] 25 (0, 0)) = W1 := ⟨_, rfl⟩
  have hb1 : Below w.heap.size w W1 := by rw [← hW1]; exact below_alloc (Below.refl _ _) _
  have hx1 : W1.heap[w.heap.size]? = some (.cells #[.int .i64 (T.k x), .bool (T.neg x), .int .u64 (T.n x), .string (T.s x), .slice A4 (T.kids x).length c4] 25 (0, 0)) := by rw [← hW1]; exact World.alloc_heap_new w _
  obtain ⟨b0, b1, b2, b3, b4⟩ := cells5 hx1
  have HCHK := Aside0.mk (hchk W1 (T.D.K_below hb1 hK'))
  have HX := Aside0.mk hx1
  have HB := Aside0.mk hb1
  have HK := Aside0.mk hK'
  have HLEN := Aside0.mk hlen
  clear hchk hx1 hb1 hK hK' g4 hlen
  by_cases h0 : c = 0
  · subst h0
    go_enter Try.func10, Try.ntmps10
    go_wp2_with (first
      | (go_at_call 14; refine HCHK.out.mono ?_; rintro e W2 ⟨rfl, hb2⟩; have hx2 := (hb2.block _ (blk_lt HX.out)).trans HX.out; have hw2 : Below w.heap.size w W2 := HB.out.trans (hb2.mono HB.out.size); have hx3 : ((W2.alloc (.cells #[.slice none 0 0] 26)).alloc (.cells #[.func (.func 29) #[] #[.pointer (some ⟨W2.heap.size, 0, none⟩), .pointer (some ⟨W2.heap.size + 1, 0, none⟩)]] 64)).heap[w.heap.size]? = _ := blk_alloc (blk_alloc hx2 _) _; obtain ⟨d0, d1, d2, d3, d4⟩ := cells5 hx3; have hl3 : ((W2.alloc (.cells #[.slice none 0 0] 26)).alloc (.cells #[.func (.func 29) #[] #[.pointer (some ⟨W2.heap.size, 0, none⟩), .pointer (some ⟨W2.heap.size + 1, 0, none⟩)]] 64)).heap[W2.heap.size]? = some (.cells #[.slice none 0 0] 26 (0, 0)) := blk_alloc (World.alloc_heap_new W2 _) _; have hc3 : ((W2.alloc (.cells #[.slice none 0 0] 26)).alloc (.cells #[.func (.func 29) #[] #[.pointer (some ⟨W2.heap.size, 0, none⟩), .pointer (some ⟨W2.heap.size + 1, 0, none⟩)]] 64)).heap[W2.heap.size + 1]? = some (.cells #[.func (.func 29) #[] #[.pointer (some ⟨W2.heap.size, 0, none⟩), .pointer (some ⟨W2.heap.size + 1, 0, none⟩)]] 64 (0, 0)) := (by rw [← World.size_alloc W2 (.cells #[.slice none 0 0] 26)]; exact World.alloc_heap_new _ _); have hb3 : Below w.heap.size w ((W2.alloc (.cells #[.slice none 0 0] 26)).alloc (.cells #[.func (.func 29) #[] #[.pointer (some ⟨W2.heap.size, 0, none⟩), .pointer (some ⟨W2.heap.size + 1, 0, none⟩)]] 64)) := below_alloc (below_alloc hw2 _) _; have HST := Aside0.mk (show St K W2.heap.size (W2.heap.size + 1) w ((W2.alloc (.cells #[.slice none 0 0] 26)).alloc (.cells #[.func (.func 29) #[] #[.pointer (some ⟨W2.heap.size, 0, none⟩), .pointer (some ⟨W2.heap.size + 1, 0, none⟩)]] 64)) [] from ⟨⟨_, hl3, Kd.R_nil _ _ _ _ _⟩, hc3, hb3⟩); have HSZ2 := Aside0.mk hw2.size; clear hb2 hx2 hw2 hx3 hl3 hc3 hb3)
      | (go_at_call 29; refine (put_calls T K W2.heap.size (W2.heap.size + 1) w HSZ2.out m x _ _ [] hm (by simpa using HLEN.out) HK.out HST.out).mono ?_; rintro e W5 ⟨rfl, hs5, hk5⟩; obtain ⟨v5, hv5, hr5⟩ := hs5.row; obtain ⟨A5, n5, c5, rfl⟩ := slice_of K hr5; have hz5 := (blk_cell hv5 0).trans (rfl : _ = some (Value.slice A5 n5 c5)); have HR5 := Aside0.mk hr5; have HB5 := Aside0.mk hs5.below; clear hs5 hk5 hv5 hr5))
    go_ret2
    refine ⟨_, rfl, ?_, HB5.out⟩
    have h9 := HR5.out
    simpa using h9
  · have hq : (c == 0) = false := beq_eq_false_iff_ne.mpr h0
    have hq' : (c != 0) = true := bne_iff_ne.mpr h0
    go_enter Try.func10, Try.ntmps10
    go_wp2_with (go_at_call 14; refine HCHK.out.mono ?_; rintro e W2 ⟨rfl, hb2⟩; have HB2 := Aside0.mk (HB.out.trans (hb2.mono HB.out.size)); clear hb2)
    go_ret2
    refine ⟨_, rfl, ?_, HB2.out⟩
    exact Kd.R_nil _ _ _ _ _
end
end Go.Proofs.Ytcgpfclmcajekaa.Each
