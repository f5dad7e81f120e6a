-- Out of texts of this seat by a program of this session: what the claim does not reach is struck
import Derived.Test.YtlbdjjiblhdpmaaZCw
namespace Go.Proofs.Ytlbdjjiblhdpmaa.Cw
open Go Go.RowKit Go.Shelf Go.Proofs.Ytlbdjjiblhdpmaa.Each Go.Proofs.YtlbdjjiblhdpmaaW.PrintWords Go.Proofs.YtlbdjjiblhdpmaaW.PrintLast
set_option linter.unusedVariables false
set_option linter.unusedSimpArgs false
structure Ke (n0 : Nat) (W W' : World) : Prop where
  below : Below n0 W W'
  cells : ∀ (b : Nat) cs t fz, t ≠ 43 → t ≠ 5 → W.heap[b]? = some (.cells cs t fz) → W'.heap[b]? = some (.cells cs t fz)
theorem Ke.refl (n0 : Nat) (W : World) : Ke n0 W W := ⟨Below.refl _ _, fun _ _ _ _ _ _ h => h⟩
theorem Ke.trans {n0 : Nat} {A B C : World} (h : Ke n0 A B) (k : Ke n0 B C) : Ke n0 A C := ⟨h.below.trans k.below, fun b cs t fz h1 h2 hc => k.cells b cs t fz h1 h2 (h.cells b cs t fz h1 h2 hc)⟩
theorem Ke.of_below {n0 : Nat} {A B : World} (hn : n0 ≤ A.heap.size) (h : Below A.heap.size A B) : Ke n0 A B :=
  ⟨h.mono hn, fun b cs t fz _ _ hc => (h.block b (Array.getElem?_eq_some_iff.1 hc).1).trans hc⟩
theorem Ke.grown {n0 : Nat} {A B : World} {row : Option Nat} (hg : A.grownBy B row) (hn : n0 ≤ A.heap.size) (hr : ∀ k, row = some k → n0 ≤ k ∧ ∃ cells, A.heap[k]? = some (.cells cells 5 (0, 0))) : Ke n0 A B :=
  ⟨(Below.refl n0 A).grown hg hn (fun k e => (hr k e).1), fun b cs t fz h1 h2 hc => (hg.block b (Array.getElem?_eq_some_iff.1 hc).1 (fun e => by
    obtain ⟨_, cells, h⟩ := hr b e.symm
    rw [hc] at h
    injection h with h
    injection h with _ h3 _
    exact h2 h3)).trans hc⟩
theorem Ke.set {n0 g : Nat} {A : World} {cs : Array Value} (hg : A.heap[g]? = some (.cells cs 43 (0, 0))) (hn : n0 ≤ g) (u : Value) : Ke n0 A (A.setCell ⟨g, 0, none⟩ u) :=
  ⟨(Below.refl n0 A).setCell (p := ⟨g, 0, none⟩) hn u, fun b cs' t fz h1 h2 hc => (Below.heap_setCell A ⟨g, 0, none⟩ u b (fun e => by
    have e' : b = g := e
    subst e'
    rw [hg] at hc
    injection hc with hc
    injection hc with _ h3 _
    exact h1 h3.symm)).trans hc⟩
abbrev wb (v : Value) (o : Bool) (i : Int) (s : Bool) : Array Value := #[v, .bool o, .int .i64 i, .bool s]
theorem cells4 {W : World} {g t : Nat} {a b c d : Value} (h : W.heap[g]? = some (.cells #[a, b, c, d] t (0, 0))) :
    W.cell? ⟨g, 0, none⟩ = some a ∧ W.cell? ⟨g, 1, none⟩ = some b ∧ W.cell? ⟨g, 2, none⟩ = some c ∧ W.cell? ⟨g, 3, none⟩ = some d :=
  ⟨(blk_cell h 0).trans rfl, (blk_cell h 1).trans rfl, (blk_cell h 2).trans rfl, (blk_cell h 3).trans rfl⟩
theorem BR.form {W : World} {b : Nat} {v : Value} {x : Int} {xs : List Int} (h : BR W b v (x :: xs)) : ∃ q c, v = .slice (some ⟨q, 0, none⟩) (x :: xs).length c ∧ W.cell? ⟨q, 0, none⟩ = some (.int .u8 x) ∧ W.frozen? ⟨q, 0, none⟩ = false ∧ b ≤ q ∧ q < W.heap.size ∧
    ∀ y, BR (W.setCell ⟨q, 0, none⟩ (.int .u8 y)) b (.slice (some ⟨q, 0, none⟩) (y :: xs).length c) (y :: xs) ∧ W.grownBy (W.setCell ⟨q, 0, none⟩ (.int .u8 y)) (some q) := by
  have h0 := Kd.own_of_R h
  rcases h0 with ⟨h1, ⟨_, h2⟩ | ⟨g, cap, cur, rfl, hg, hh, h3, r⟩⟩
  · simp at h2
  · have hc := Kd.R_cell (enc := Value.int .u8) (h1 := fun _ => rfl) (0 : Int) h 0 (by omega) (by simp)
    refine ⟨g, cap, rfl, hc.1, hc.2, hg, blk_lt hh, fun y => ?_⟩
    have hp := Kd.R_put (enc := Value.int .u8) (h1 := fun _ => rfl) h 0 y
    exact hp
section
variable (o : Bool) (i : Int) (s : Bool)
structure St (g n0 : Nat) (W : World) (xs : List Int) : Prop where
  row : ∃ v, W.heap[g]? = some (.cells (wb v o i s) 43 (0, 0)) ∧ BR W n0 v xs
  size : n0 ≤ W.heap.size
theorem St.below {g n0 : Nat} {A B : World} {xs : List Int} (h : St o i s g n0 A xs) (hb : Below A.heap.size A B) : St o i s g n0 B xs :=
  ⟨by obtain ⟨v, h1, h2⟩ := h.row; exact ⟨v, (hb.block g (blk_lt h1)).trans h1, Kd.R_below h2 hb⟩, Nat.le_trans h.size hb.size⟩
theorem St.put {g n0 : Nat} {A B : World} {v v1 : Value} {xs ys : List Int} (hg : n0 ≤ g) (hs : n0 ≤ A.heap.size) (hv : A.heap[g]? = some (.cells (wb v o i s) 43 (0, 0))) (hr : BR A n0 v xs) (hr1 : BR B n0 v1 ys) (hgr : A.grownBy B v.ownBlock) :
    St o i s g n0 (B.setCell ⟨g, 0, none⟩ v1) ys ∧ Ke n0 A (B.setCell ⟨g, 0, none⟩ v1) := by
  have hbv := blk_grown hv hgr (Kd.R_ne hr hv (by decide))
  have hk : Ke n0 A (B.setCell ⟨g, 0, none⟩ v1) := (Ke.grown hgr hs (fun k hk => ⟨Kd.R_base hr k hk, Kd.R_typed hr k hk⟩)).trans (Ke.set hbv hg _)
  exact ⟨⟨⟨v1, by have h2 := blk_set hbv 0 v1; simpa using h2, Kd.R_set hr1 hbv (by decide) 0 _⟩, Nat.le_trans hs hk.below.size⟩, hk⟩
set_option maxRecDepth 100000 in
set_option maxHeartbeats 4000000 in
theorem end_calls (g n0 : Nat) (hg : n0 ≤ g) (W : World) (xs : List Int) (hst : St o i s g n0 W xs) (hlen : xs.length ≤ 1099511627776) :
    Calls Try.prog 25 #[.pointer (some ⟨g, 0, none⟩)] W fun e W' => e = .returned (.tuple #[]) ∧ St o i s g n0 W' (xs ++ (if o = true then [255] else [])) ∧ Ke n0 W W' := by
  obtain ⟨⟨v, hv, hrow⟩, hsz⟩ := hst
  obtain ⟨A0, m0, c0, rfl⟩ := slice_of hrow
  obtain ⟨hvc, hvo, -, -⟩ := cells4 hv
  cases o with
  | false =>
    have HS := Aside0.mk (show St false i s g n0 W xs from ⟨⟨_, hv, hrow⟩, hsz⟩)
    clear hv hrow
    go_enter Try.func25, Try.ntmps25
    go_wp2
    go_end0
    exact ⟨rfl, by simpa using HS.out, Ke.refl _ _⟩
  | true =>
    have HV := Aside0.mk hv
    have HR := Aside0.mk hrow
    clear hv hrow
    go_enter Try.func25, Try.ntmps25
    go_wp2_with ((with_reducible refine gate_builtin (b := .append) (xs := #[.tmp 11, .tmp 12]) rfl ?_); at_builtin; refine Kd.R_append (Kd.int .u8) (w0 := W) (W := W) n0 rfl (.tmp 11) (.tmp 12) 28 5 (.int .u8 0) 1 rfl Try.underlying28 info5 rfl (by decide) (by omega) (.slice A0 m0 c0) xs 255 [.int .u8 255] (fun _ => True) (fun _ => False) rfl rfl rfl (fun _ h => h.elim) (fun _ _ => trivial) HR.out (Below.refl _ _) hsz ?aL ?_; (case aL => omega); intro v1 w1 hR1 hB1 hg1 hat1; obtain ⟨A1, n1, c1, rfl⟩ := slice_of hR1; have hbv := blk_grown HV.out hg1 (Kd.R_ne HR.out HV.out (by decide)); have hcz := (blk_cell hbv 0).trans (rfl : _ = some (Value.slice A0 m0 c0)); have hfz := blk_frozen hbv 0; obtain ⟨hp1, hp2⟩ := St.put true i s hg hsz HV.out HR.out hR1 hg1; have HS1 := Aside0.mk hp1; have HK1 := Aside0.mk hp2; clear hR1 hB1 hg1 hat1 hbv hp1 hp2)
    go_end0
    exact ⟨rfl, by simpa using HS1.out, HK1.out⟩
set_option maxRecDepth 100000 in
set_option maxHeartbeats 4000000 in
theorem head_calls (g n0 : Nat) (hg : n0 ≤ g) (M n : Int) (h0 : 0 ≤ M) (h7 : M ≤ 7) (hn0 : 0 ≤ n) (hn1 : n ≤ 18446744073709551615) (W : World) (xs : List Int) (hst : St o i s g n0 W xs) (hlen : xs.length ≤ 1099511627776) :
    Calls Try.prog 20 #[.pointer (some ⟨g, 0, none⟩), .int .i64 M, .int .u64 n] W fun e W' => e = .returned (.tuple #[]) ∧ St o i s g n0 W' (xs ++ headP M n) ∧ Ke n0 W W' := by
  have HST := Aside0.mk hst
  have hu : IntKind.u8.wrap (M * 32) = M * 32 := by rw [u8_wrap]; omega
  have HHL := Aside0.mk (show (headP M n).length ≤ 9 by have := szR_le n; unfold headP tlP; split <;> simp [outR_len] <;> omega)
  have hs0 := hst.size
  clear hst
  obtain ⟨m, hm⟩ : ∃ m : Int, (if M = 7 then 0 else M) = m := ⟨_, rfl⟩
  have hm0 : 0 ≤ m := by rw [← hm]; split <;> omega
  have hm6 : m ≤ 6 := by rw [← hm]; split <;> omega
  have HOR := Aside0.mk (show bits BinOp.or IntKind.u8 (m * 32 + loP n) (M * 32) = M * 32 + loP n by
    have hl := loP_lt n hn0
    obtain ⟨a, ha⟩ := Int.eq_ofNat_of_zero_le hl.1
    rw [ha] at hl ⊢
    obtain ⟨c, rfl⟩ := Int.eq_ofNat_of_zero_le h0
    have hd : ∀ c : Fin 8, ∀ b : Fin 32, bits BinOp.or IntKind.u8 ((if ((c.val : Nat) : Int) = 7 then 0 else ((c.val : Nat) : Int)) * 32 + ((b.val : Nat) : Int)) (((c.val : Nat) : Int) * 32) = ((c.val : Nat) : Int) * 32 + ((b.val : Nat) : Int) := by decide +kernel
    rw [← hm]
    exact hd ⟨c, by omega⟩ ⟨a, by omega⟩)
  have HX := Aside0.mk (fun W => hput_calls m n hm0 hm6 hn0 hn1 W)
  by_cases h77 : M = 7
  · subst h77
    obtain rfl : 0 = m := by simpa using hm
    clear hm
    obtain ⟨⟨v0, hv0, hr0⟩, -⟩ := HST.out
    obtain ⟨A0, m0, c0, rfl⟩ := slice_of hr0
    have HV0 := Aside0.mk hv0
    have HR0 := Aside0.mk hr0
    clear hv0 hr0
    go_enter Try.func20, Try.ntmps20
    go_wp2_with (first
      | (go_at_call 39; go_loud (refine (HX.out W).mono ?_); rintro e W2 ⟨v, rfl, hr, hb⟩; go_loud (obtain ⟨q, c2, rfl, hcx, hfx, hq1, hq2, hset⟩ := BR.form (show BR W2 W.heap.size v (loP n :: tlP n) by simpa [headP] using hr));  have HQ := Aside0.mk hset; have HBQ := Aside0.mk (show Below W.heap.size W (W2.setCell ⟨q, 0, none⟩ (.int .u8 (224 + loP n))) from hb.setCell (p := ⟨q, 0, none⟩) hq1 _); have hwx : (W2.setCell ⟨q, 0, none⟩ (.int .u8 (224 + loP n))).cell? ⟨g, 0, none⟩ = some (.slice A0 m0 c0) := (blk_cell ((HBQ.out.block g (blk_lt HV0.out)).trans HV0.out) 0).trans rfl; have hor : bits BinOp.or IntKind.u8 (loP n) 224 = 224 + loP n := (by have h := HOR.out; simpa using h); have hlen1 : (1 : Int) ≤ (tlP n).length + 1 := (by omega); clear hr hb hset)
      | ((with_reducible refine gate_builtin (b := .append) (xs := #[.tmp 30, .tmp 31]) rfl ?_); at_builtin; go_loud (refine Kd.R_append_rows (Kd.int .u8) (w0 := W) (W := W2.setCell ⟨q, 0, none⟩ (.int .u8 (224 + loP n))) n0 rfl (.tmp 30) (.tmp 31) 28 5 (.int .u8 0) 1 rfl Try.underlying28 info5 rfl (by decide) (by omega) (.slice A0 m0 c0) xs (headP 7 n) _ _ _ (fun _ => True) (fun _ => False) rfl rfl (Kd.R_below HR0.out HBQ.out) ?aR (fun _ _ h => h) (fun _ h => h.elim) (fun _ _ => trivial) (HBQ.out.mono hs0) (Nat.le_trans hs0 HBQ.out.size) ?aL ?_); (case aR => exact (Kd.R_reads' (HQ.out (224 + loP n)).1).2.2); (case aL => have h := HHL.out; simp only [headP, List.length_cons] at h ⊢; omega); intro v1 w1 hR1 hB1 hg1 hat1; obtain ⟨A1, n1, c1, rfl⟩ := slice_of hR1; have hvq := (HBQ.out.block g (blk_lt HV0.out)).trans HV0.out; have hbv := blk_grown hvq hg1 (Kd.R_ne (Kd.R_below HR0.out HBQ.out) hvq (by decide)); have hcz := (blk_cell hbv 0).trans (rfl : _ = some (Value.slice A0 m0 c0)); have hfz := blk_frozen hbv 0; obtain ⟨hp1, hp2⟩ := St.put o i s hg (Nat.le_trans hs0 HBQ.out.size) hvq (Kd.R_below HR0.out HBQ.out) hR1 hg1; have HS1 := Aside0.mk hp1; have HK1 := Aside0.mk hp2; clear hR1 hB1 hg1 hat1 hbv hvq hp1 hp2))
    go_end0
    exact ⟨rfl, HS1.out, (Ke.of_below hs0 HBQ.out).trans HK1.out⟩
  · obtain rfl : M = m := by simpa [h77] using hm
    have hb7 : (M == 7) = false := beq_eq_false_iff_ne.mpr h77
    clear hm
    obtain ⟨⟨v0, hv0, hr0⟩, -⟩ := HST.out
    obtain ⟨A0, m0, c0, rfl⟩ := slice_of hr0
    have HV0 := Aside0.mk hv0
    have HR0 := Aside0.mk hr0
    clear hv0 hr0
    go_enter Try.func20, Try.ntmps20
    go_wp2_with (first
      | (go_at_call 39; go_loud (refine (HX.out W).mono ?_); rintro e W2 ⟨v, rfl, hr, hb⟩; go_loud (obtain ⟨q, c2, rfl, hcx, hfx, hq1, hq2, hset⟩ := BR.form hr);  have HQ := Aside0.mk hset; have HBQ := Aside0.mk (show Below W.heap.size W (W2.setCell ⟨q, 0, none⟩ (.int .u8 (M * 32 + loP n))) from hb.setCell (p := ⟨q, 0, none⟩) hq1 _); have hwx : (W2.setCell ⟨q, 0, none⟩ (.int .u8 (M * 32 + loP n))).cell? ⟨g, 0, none⟩ = some (.slice A0 m0 c0) := (blk_cell ((HBQ.out.block g (blk_lt HV0.out)).trans HV0.out) 0).trans rfl; have hor := HOR.out; have hlen1 : (1 : Int) ≤ (tlP n).length + 1 := (by omega); clear hr hb hset)
      | ((with_reducible refine gate_builtin (b := .append) (xs := #[.tmp 30, .tmp 31]) rfl ?_); at_builtin; go_loud (refine Kd.R_append_rows (Kd.int .u8) (w0 := W) (W := W2.setCell ⟨q, 0, none⟩ (.int .u8 (M * 32 + loP n))) n0 rfl (.tmp 30) (.tmp 31) 28 5 (.int .u8 0) 1 rfl Try.underlying28 info5 rfl (by decide) (by omega) (.slice A0 m0 c0) xs (headP M n) _ _ _ (fun _ => True) (fun _ => False) rfl rfl (Kd.R_below HR0.out HBQ.out) ?aR (fun _ _ h => h) (fun _ h => h.elim) (fun _ _ => trivial) (HBQ.out.mono hs0) (Nat.le_trans hs0 HBQ.out.size) ?aL ?_); (case aR => exact (Kd.R_reads' (HQ.out (M * 32 + loP n)).1).2.2); (case aL => have h := HHL.out; simp only [headP, List.length_cons] at h ⊢; omega); intro v1 w1 hR1 hB1 hg1 hat1; obtain ⟨A1, n1, c1, rfl⟩ := slice_of hR1; have hvq := (HBQ.out.block g (blk_lt HV0.out)).trans HV0.out; have hbv := blk_grown hvq hg1 (Kd.R_ne (Kd.R_below HR0.out HBQ.out) hvq (by decide)); have hcz := (blk_cell hbv 0).trans (rfl : _ = some (Value.slice A0 m0 c0)); have hfz := blk_frozen hbv 0; obtain ⟨hp1, hp2⟩ := St.put o i s hg (Nat.le_trans hs0 HBQ.out.size) hvq (Kd.R_below HR0.out HBQ.out) hR1 hg1; have HS1 := Aside0.mk hp1; have HK1 := Aside0.mk hp2; clear hR1 hB1 hg1 hat1 hbv hvq hp1 hp2))
    go_end0
    exact ⟨rfl, HS1.out, (Ke.of_below hs0 HBQ.out).trans HK1.out⟩
end
end Go.Proofs.Ytlbdjjiblhdpmaa.Cw
