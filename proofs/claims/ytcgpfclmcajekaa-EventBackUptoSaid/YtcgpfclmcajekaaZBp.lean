-- Out of texts of this seat by a program of this session: what the claim does not reach is struck
import Derived.Test.YtcgpfclmcajekaaZBw
namespace Go.Proofs.Ytcgpfclmcajekaa.Bld
open Go Go.RowKit Go.Shelf Go.Proofs.Ytcgpfclmcajekaa.Each Go.Proofs.YtcgpfclmcajekaaW.PrintWords Go.Proofs.YtcgpfclmcajekaaW.PrintLast
set_option linter.unusedVariables false
set_option linter.unusedSimpArgs false
theorem gcells10 {w : World} {g t : Nat} {a0 a1 a2 a3 a4 a5 a6 a7 a8 a9 : Value} (h : w.heap[g]? = some (.cells #[a0, a1, a2, a3, a4, a5, a6, a7, a8, a9] t (0, 0))) :
    w.cell? ⟨g, 0, none⟩ = some a0 ∧ w.cell? ⟨g, 1, none⟩ = some a1 ∧ w.cell? ⟨g, 2, none⟩ = some a2 ∧ w.cell? ⟨g, 3, none⟩ = some a3 ∧ w.cell? ⟨g, 4, none⟩ = some a4 ∧ w.cell? ⟨g, 5, none⟩ = some a5 ∧ w.cell? ⟨g, 6, none⟩ = some a6 ∧ w.cell? ⟨g, 7, none⟩ = some a7 ∧ w.cell? ⟨g, 8, none⟩ = some a8 ∧ w.cell? ⟨g, 9, none⟩ = some a9 :=
  ⟨(blk_cell h 0).trans rfl, (blk_cell h 1).trans rfl, (blk_cell h 2).trans rfl, (blk_cell h 3).trans rfl, (blk_cell h 4).trans rfl, (blk_cell h 5).trans rfl, (blk_cell h 6).trans rfl, (blk_cell h 7).trans rfl, (blk_cell h 8).trans rfl, (blk_cell h 9).trans rfl⟩
section
variable {S : Type} (T : Mk S)
set_option maxRecDepth 100000 in
set_option maxHeartbeats 4000000 in
theorem none_calls (g : Nat) (W : World) (h : W.cell? ⟨g, 0, none⟩ = some (.bool true)) :
    Calls Try.prog 34 #[.pointer (some ⟨g, 0, none⟩)] W fun e W' => e = .returned (.bool false) ∧ Below W.heap.size W W' := by
  go_enter Try.func34, Try.ntmps34
  go_wp2
  go_ret
  exact ⟨rfl, Below.refl _ _⟩
theorem zcells : T.k T.z = 0 ∧ T.neg T.z = false ∧ T.n T.z = 0 ∧ T.s T.z = ⟨#[]⟩ ∧ T.kids T.z = [] := by
  have h := T.zM default 0
  obtain ⟨v4, hc, hr⟩ := T.openM h
  injection hc with h0 hc
  injection hc with h1 hc
  injection hc with h2 hc
  injection hc with h3 hc
  injection hc with h4 hc
  injection h0 with _ h0
  injection h1 with h1
  injection h2 with _ h2
  injection h3 with h3
  obtain ⟨A, c, hs⟩ := Kd.R_slice hr
  rw [← h4] at hs
  injection hs with _ hl _
  exact ⟨h0.symm, h1.symm, h2.symm, h3.symm, List.eq_nil_of_length_eq_zero hl.symm⟩
def newB (d : Int) : BS S := { open_ := [], whole := false, v := T.z, count := 0, depth := min (max d 0) 64 }
set_option maxRecDepth 100000 in
set_option maxHeartbeats 4000000 in
theorem new_calls (W : World) : Calls Try.prog 26 #[.int .i64 64] W fun e W' => e = .returned (.pointer (some ⟨W.heap.size, 0, none⟩)) ∧ St T W.heap.size W.heap.size W' (newB T 64) ∧ Below W.heap.size W W' := by
  go_enter Try.func26, Try.ntmps26
  go_wp2
  go_ret
  obtain ⟨h0, h1, h2, h3, h4⟩ := zcells T
  refine ⟨rfl, ⟨⟨.slice none 0 0, .slice none 0 0, ?_, Kd.S_nil _ _ _ _ _, ?_⟩, Nat.le_refl _, by rw [World.size_alloc]; omega⟩, below_alloc (Below.refl _ _) _⟩
  · rw [blk_new, cells, newB]
    simp only [h0, h1, h2, h3]
    rfl
  · show Kd.R T.D 25 _ _ _ _ (T.kids T.z)
    rw [h4]
    exact Kd.R_nil _ _ _ _ _
set_option maxRecDepth 100000 in
set_option maxHeartbeats 4000000 in
theorem keyed_calls (k : Int) (neg : Bool) (n : Int) (s : ByteArray) (A : Option Addr) (l c : Nat) (W : World) (hl : l ≤ 9223372036854775807) :
    Calls Try.prog 52 #[.agg #[.int .i64 k, .bool neg, .int .u64 n, .string s, .slice A l c]] W fun e W' => e = .returned (.bool (decide (k = 12 ∧ l % 2 = 1))) ∧ Below W.heap.size W W' := by
  have h9 : ((l : Int) % 2 == 1) = decide (l % 2 = 1) := by
    by_cases h : l % 2 = 1
    · rw [decide_eq_true h]; simp; omega
    · rw [decide_eq_false h]; simp; omega
  by_cases hk : k = 12
  · subst hk
    go_enter Try.func52, Try.ntmps52
    go_wp2
    go_ret
    refine ⟨?_, below_alloc (Below.refl _ _) _⟩
    simp
  · have hq : (k == 12) = false := by simp [hk]
    go_enter Try.func52, Try.ntmps52
    go_wp2
    go_ret
    refine ⟨?_, below_alloc (Below.refl _ _) _⟩
    simp [hk]
set_option maxRecDepth 100000 in
set_option maxHeartbeats 4000000 in
theorem number_calls (k : Int) (neg : Bool) (n : Int) (s : ByteArray) (v4 : Value) (W : World) :
    Calls Try.prog 53 #[.agg #[.int .i64 k, .bool neg, .int .u64 n, .string s, v4]] W fun e W' => e = .returned (.bool (decide (k = 13 ∧ n / 2 = 1))) ∧ Below W.heap.size W W' := by
  by_cases hk : k = 13
  · subst hk
    go_enter Try.func53, Try.ntmps53
    go_wp2
    go_ret
    refine ⟨?_, below_alloc (Below.refl _ _) _⟩
    simp
    rw [Bool.eq_iff_iff]; simp
  · have hq : (k == 13) = false := by simp [hk]
    go_enter Try.func53, Try.ntmps53
    go_wp2
    go_ret
    refine ⟨?_, below_alloc (Below.refl _ _) _⟩
    simp [hk]
theorem gcells5 {w : World} {g t : Nat} {a0 a1 a2 a3 a4 : Value} (h : w.heap[g]? = some (.cells #[a0, a1, a2, a3, a4] t (0, 0))) :
    w.cell? ⟨g, 0, none⟩ = some a0 ∧ w.cell? ⟨g, 1, none⟩ = some a1 ∧ w.cell? ⟨g, 2, none⟩ = some a2 ∧ w.cell? ⟨g, 3, none⟩ = some a3 ∧ w.cell? ⟨g, 4, none⟩ = some a4 :=
  ⟨(blk_cell h 0).trans rfl, (blk_cell h 1).trans rfl, (blk_cell h 2).trans rfl, (blk_cell h 3).trans rfl, (blk_cell h 4).trans rfl⟩
set_option maxRecDepth 100000 in
set_option maxHeartbeats 4000000 in
theorem value_short (g n0 : Nat) (b : BS S) (W : World) (h : St T g n0 W b) (hw : b.whole = false) :
    Calls Try.prog 17 #[.pointer (some ⟨g, 0, none⟩)] W fun e W' => e = .returned (.tuple #[.agg #[.int .i64 0, .bool false, .int .u64 0, .string ⟨#[]⟩, .slice none 0 0], .int .i64 3]) ∧ Below W.heap.size W W' := by
  obtain ⟨vo, v4, hblk, _, _⟩ := h.data
  rw [cells, hw] at hblk
  have hz : (W.alloc (.cells #[.int .i64 0, .bool false, .int .u64 0, .string ⟨#[]⟩, .slice none 0 0] 25)).heap[W.heap.size]? = some (.cells #[.int .i64 0, .bool false, .int .u64 0, .string ⟨#[]⟩, .slice none 0 0] 25 (0, 0)) := blk_new W _
  have hg1 := blk_alloc hblk (.cells #[.int .i64 0, .bool false, .int .u64 0, .string ⟨#[]⟩, .slice none 0 0] 25)
  have hm := (blk_cell hg1 0).trans (rfl : _ = some (Value.bool true))
  have HG := Aside0.mk hg1
  have HZ := Aside0.mk hz
  clear hblk hg1 hz
  go_enter Try.func17, Try.ntmps17
  go_wp2_with (go_at_call 34; refine (none_calls g _ hm).mono ?_; rintro e W2 ⟨rfl, hb⟩; have hx := (hb.block _ (blk_lt HZ.out)).trans HZ.out; have hgb := (hb.block _ (blk_lt HG.out)).trans HG.out; obtain ⟨c0, c1, c2, c3, c4, c5, c6, c7, c8, c9⟩ := gcells10 hgb; obtain ⟨b0, b1, b2, b3, b4⟩ := gcells5 hx; have f0 := blk_frozen hx 0; have f1 := blk_frozen hx 1; have f2 := blk_frozen hx 2; have f3 := blk_frozen hx 3; have f4 := blk_frozen hx 4; have HX := Aside0.mk hx; have HB := Aside0.mk (show Below W.heap.size W W2 from (below_alloc (Below.refl _ _) _).trans (hb.mono (by rw [World.size_alloc]; omega))); clear hx hb hgb)
  have h5 := blk_set (blk_set (blk_set (blk_set (blk_set HX.out 0 (.int .i64 0)) 1 (.bool false)) 2 (.int .u64 0)) 3 (.string ⟨#[]⟩)) 4 (.slice none 0 0)
  simp only [List.setIfInBounds_toArray, List.set_cons_zero, List.set_cons_succ] at h5
  refine bodyPost_ret (results_ct rfl _ _ W.heap.size 25 _ (0, 0) _ rfl h5 Try.underlying25 rfl (by kernel_rfl)) rfl ⟨rfl, ?_⟩
  exact ((((HB.out.setCell (p := ⟨W.heap.size, 0, none⟩) (Nat.le_refl _) _).setCell (p := ⟨W.heap.size, 1, none⟩) (Nat.le_refl _) _).setCell (p := ⟨W.heap.size, 2, none⟩) (Nat.le_refl _) _).setCell (p := ⟨W.heap.size, 3, none⟩) (Nat.le_refl _) _).setCell (p := ⟨W.heap.size, 4, none⟩) (Nat.le_refl _) _
set_option maxRecDepth 100000 in
set_option maxHeartbeats 4000000 in
theorem value_whole (g n0 : Nat) (b : BS S) (W : World) (h : St T g n0 W b) (hw : b.whole = true) :
    Calls Try.prog 17 #[.pointer (some ⟨g, 0, none⟩)] W fun e W' => ∃ v4, e = .returned (.tuple #[.agg #[.int .i64 (T.k b.v), .bool (T.neg b.v), .int .u64 (T.n b.v), .string (T.s b.v), v4], .int .i64 0]) ∧ T.D.R 25 W' n0 (fun _ => True) v4 (T.kids b.v) ∧ Below W.heap.size W W' := by
  obtain ⟨vo, v4, hblk, _, hr⟩ := h.data
  obtain ⟨A4, c4, hv4⟩ := Kd.R_slice hr
  obtain ⟨L4, hL4⟩ : ∃ L4, (T.kids b.v).length = L4 := ⟨_, rfl⟩
  rw [hL4] at hv4
  subst hv4
  rw [cells, hw] at hblk
  have hz : (W.alloc (.cells #[.int .i64 0, .bool false, .int .u64 0, .string ⟨#[]⟩, .slice none 0 0] 25)).heap[W.heap.size]? = some (.cells #[.int .i64 0, .bool false, .int .u64 0, .string ⟨#[]⟩, .slice none 0 0] 25 (0, 0)) := blk_new W _
  have hg1 := blk_alloc hblk (.cells #[.int .i64 0, .bool false, .int .u64 0, .string ⟨#[]⟩, .slice none 0 0] 25)
  have hm := (blk_cell hg1 0).trans (rfl : _ = some (Value.bool true))
  have HG := Aside0.mk hg1
  have HZ := Aside0.mk hz
  have HR := Aside0.mk (Kd.R_mono (ok' := fun _ => True) hr (fun _ _ => trivial))
  clear hblk hg1 hz hr
  go_enter Try.func17, Try.ntmps17
  go_wp2_with (go_at_call 34; refine (none_calls g _ hm).mono ?_; rintro e W2 ⟨rfl, hb⟩; have hx := (hb.block _ (blk_lt HZ.out)).trans HZ.out; have hgb := (hb.block _ (blk_lt HG.out)).trans HG.out; obtain ⟨c0, c1, c2, c3, c4', c5, c6, c7, c8, c9⟩ := gcells10 hgb; obtain ⟨b0, b1, b2, b3, b4⟩ := gcells5 hx; have f0 := blk_frozen hx 0; have f1 := blk_frozen hx 1; have f2 := blk_frozen hx 2; have f3 := blk_frozen hx 3; have f4 := blk_frozen hx 4; have HX := Aside0.mk hx; have HB := Aside0.mk (show Below W.heap.size W W2 from (below_alloc (Below.refl _ _) _).trans (hb.mono (by rw [World.size_alloc]; omega))); clear hx hb hgb)
  have h5 := blk_set (blk_set (blk_set (blk_set (blk_set HX.out 0 (.int .i64 (T.k b.v))) 1 (.bool (T.neg b.v))) 2 (.int .u64 (T.n b.v))) 3 (.string (T.s b.v))) 4 (.slice A4 L4 c4)
  simp only [List.setIfInBounds_toArray, List.set_cons_zero, List.set_cons_succ] at h5
  have hbl := ((((HB.out.setCell (p := ⟨W.heap.size, 0, none⟩) (Nat.le_refl _) (.int .i64 (T.k b.v))).setCell (p := ⟨W.heap.size, 1, none⟩) (Nat.le_refl _) (.bool (T.neg b.v))).setCell (p := ⟨W.heap.size, 2, none⟩) (Nat.le_refl _) (.int .u64 (T.n b.v))).setCell (p := ⟨W.heap.size, 3, none⟩) (Nat.le_refl _) (.string (T.s b.v))).setCell (p := ⟨W.heap.size, 4, none⟩) (Nat.le_refl _) (.slice A4 L4 c4)
  refine bodyPost_ret (results_ct rfl _ _ W.heap.size 25 _ (0, 0) _ rfl h5 Try.underlying25 rfl (by kernel_rfl)) rfl ⟨_, rfl, Kd.R_below HR.out hbl, hbl⟩
end
end Go.Proofs.Ytcgpfclmcajekaa.Bld
