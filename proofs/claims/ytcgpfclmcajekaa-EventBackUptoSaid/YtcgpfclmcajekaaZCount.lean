-- Out of texts of this seat by a program of this session: what the claim does not reach is struck
import Derived.Test.YtcgpfclmcajekaaZRange
namespace Go.Proofs.Ytcgpfclmcajekaa.Each
open Go Go.RowKit Go.Shelf Go.Proofs.YtcgpfclmcajekaaW.PrintWords Go.Proofs.YtcgpfclmcajekaaW.PrintLast
attribute [local go_sem] Oper.semAt_some
set_option linter.unusedVariables false
set_option linter.unusedSimpArgs false
theorem wrap64_zero : wrap64 0 = 0 := by unfold wrap64; rfl
theorem wrap64_step (n : Int) : wrap64 (wrap64 n + 1) = wrap64 (n + 1) := by unfold wrap64; omega
theorem Kp.setCell {n0 B0 u B : Nat} {A : World} (h : n0 ≤ B) (hB : B < B0) (v : Value) : Kp n0 B0 u A (A.setCell ⟨B, 0, none⟩ v) :=
  ⟨(Below.refl _ _).setCell (p := ⟨B, 0, none⟩) h v, fun b cs t fz hb _ hc => (Below.heap_setCell A ⟨B, 0, none⟩ v b (by show b ≠ B; omega)).trans hc⟩
section
variable {S : Type} (T : Tree S)
set_option maxHeartbeats 1000000 in
theorem each_calls {a b c d e : Value} (W : World) :
    Calls Try.prog 31 #[.agg #[a, b, c, d, e]] W fun r W' => r = .returned (.func (.func 47) #[] #[.pointer (some ⟨W.heap.size, 0, none⟩)]) ∧ W' = W.alloc (.cells #[a, b, c, d, e] 25 (0, 0)) := by
  go_enter Try.func31, Try.ntmps31
  go_wp2
  go_ret
  exact ⟨rfl, rfl⟩
set_option maxRecDepth 100000 in
set_option maxHeartbeats 4000000 in
theorem count_calls (x : S) (cs : List Value) (w : World) (hK : T.D.K w x cs) (hlen : T.sz x + 1 ≤ 17592186044416) :
    Calls Try.prog 15 #[.agg cs.toArray] w fun e w' => e = .returned (.int .i64 (wrap64 (T.nodes (T.sz x + 1) [] x).length)) ∧ Below w.heap.size w w' := by
  have hK' := hK
  obtain ⟨A4, c4, rfl, hc4, g4⟩ := T.openK hK
  clear hK
  obtain ⟨W1, hW1⟩ : ∃ W1, w.alloc (.cells #[.int .i64 (T.k x), .bool (T.neg x), .int .u64 (T.n x), .string (T.s x), .slice A4 (T.kids x).length c4] 25 (0, 0)) = W1 := ⟨_, rfl⟩
  have hz1 : W1.heap.size = w.heap.size + 1 := by rw [← hW1]; exact World.size_alloc _ _
  have hb1 : Below w.heap.size w W1 := by rw [← hW1]; exact below_alloc (Below.refl _ _) _
  obtain ⟨b0, b1, b2, b3, b4⟩ := cells5 (show (W1.alloc (.cells #[.int .i64 0] 3)).heap[w.heap.size]? = some (.cells #[.int .i64 (T.k x), .bool (T.neg x), .int .u64 (T.n x), .string (T.s x), .slice A4 (T.kids x).length c4] 25 (0, 0)) by rw [← hW1]; exact blk_alloc (World.alloc_heap_new w _) _)
  have HK := Aside0.mk hK'
  have HB1 := Aside0.mk hb1
  have HZ1 := Aside0.mk hz1
  have hz1' : w.heap.size < W1.heap.size := by omega
  clear hK' hb1 g4 hz1
  refine (callsIn_wide (n := 0)).1 ?_
  refine callsIn_of_wp_marks Try.func15 rfl trivial ?_
  simp only [Try.ntmps15, List.size_toArray, List.length_cons, List.length_nil, Nat.reduceAdd, Nat.reduceSub, Array.replicate_succ, Array.replicate_zero, List.push_toArray, List.append_toArray, List.nil_append, List.cons_append]
  gi_wp2_with (refine ⟨trivial, rfl, ?_⟩; gi_at_call 31; refine (callsIn_wide.2 (each_calls _)).mono ?_; rintro e w' ⟨rfl, rfl⟩)
  clear b0 b1 b2 b3 b4
  obtain ⟨W3, hW3⟩ : ∃ W3, (W1.alloc (.cells #[.int .i64 0] 3)).alloc (.cells #[.int .i64 (T.k x), .bool (T.neg x), .int .u64 (T.n x), .string (T.s x), .slice A4 (T.kids x).length c4] 25 (0, 0)) = W3 := ⟨_, rfl⟩
  try rw [hW3]
  have hz3 : W3.heap.size = w.heap.size + 3 := by rw [← hW3, World.size_alloc, World.size_alloc, HZ1.out]
  have HB3 := Aside0.mk (show Below w.heap.size w W3 by rw [← hW3]; exact below_alloc (below_alloc HB1.out _) _)
  have HV3 := Aside0.mk (show W3.heap[W1.heap.size + 1]? = some (.cells #[.int .i64 (T.k x), .bool (T.neg x), .int .u64 (T.n x), .string (T.s x), .slice A4 (T.kids x).length c4] 25 (0, 0)) by rw [← hW3, ← World.size_alloc W1 (.cells #[.int .i64 0] 3)]; exact World.alloc_heap_new _ _)
  have HN3 := Aside0.mk (show W3.heap[W1.heap.size]? = some (.cells #[.int .i64 0] 3 (0, 0)) by rw [← hW3]; exact blk_alloc (World.alloc_heap_new W1 _) _)
  clear hW3
  refine range_each T 0 w x _ (W1.heap.size + 1) ?hg HK.out HB3.out HV3.out (by decide) (by decide) (by decide) hlen ?hps
    (fun pre W => W.heap[W1.heap.size]? = some (.cells #[.int .i64 (wrap64 pre.length)] 3 (0, 0)) ∧ Below w.heap.size w W) (fun _ _ => False) ?hI (fun _ _ _ _ _ h => h) ⟨HN3.out.trans (by simp [wrap64_zero]), HB3.out⟩
    (fun _ _ v cs' a' _ => a' = { tmps := #[.agg #[.int .i64 (T.k x), .bool (T.neg x), .int .u64 (T.n x), .string (T.s x), .slice A4 (T.kids x).length c4], .pointer (some ⟨w.heap.size, 0, none⟩), .int .i64 0, .pointer (some ⟨W1.heap.size, 0, none⟩), .agg #[.int .i64 (T.k x), .bool (T.neg x), .int .u64 (T.n x), .string (T.s x), .slice A4 (T.kids x).length c4], .func (.func 47) #[] #[.pointer (some ⟨W1.heap.size + 1, 0, none⟩)], v, .agg cs'.toArray, undef, undef, undef], defers := [] })
    (fun _ _ _ _ _ _ _ _ _ h => h) ?hassign ?hbody ?hdone ?hstop
  case hg => rfl
  case hps => rfl
  case hI => exact fun pre A B hA hc hi => ⟨hc.cells _ _ _ _ hi.1, hi.2.trans (hc.below.mono (by omega))⟩
  case hassign =>
    intro l pre p y rest v cs' W K hall hl hz hi hKy hbW hown hK2
    have HK2 := Aside0.mk hK2
    clear hK2 hall hi hKy hbW hown
    gi_wp2
    exact HK2.out _ _ (CK.refl _ _) (KeepsOthers.refl _) (by simp)
  case hbody =>
    rintro l pre p y rest v cs' a' W hall hl hz ⟨hi, hbW⟩ hKy hbW2 hown rfl
    have hc := (blk_cell hi 0).trans (rfl : _ = some (Value.int .i64 (wrap64 pre.length)))
    have hf := blk_frozen hi 0
    have HI := Aside0.mk hi
    have HBW := Aside0.mk hbW
    clear hi hbW hall hKy hbW2 hown
    gi_wp2
    have hz1 := HZ1.out
    refine ⟨KeepsOthers.setCell _ _ _, Kp.setCell (by omega) (by omega) _, ?_, HBW.out.setCell (p := ⟨W1.heap.size, 0, none⟩) (by show w.heap.size ≤ W1.heap.size; omega) _⟩
    have h2 := blk_set HI.out 0 (.int .i64 (wrap64 (wrap64 pre.length + 1)))
    simp only [List.setIfInBounds_toArray, List.set_cons_zero] at h2
    rw [List.length_append, show (((pre.length + [(p, y)].length : Nat) : Int)) = (pre.length : Int) + 1 by simp, ← wrap64_step (pre.length : Int)]
    exact h2
  case hdone =>
    rintro D W hD ⟨hi, hbW⟩ hd
    have hc := (blk_cell hi 0).trans (rfl : _ = some (Value.int .i64 (wrap64 (T.nodes (T.sz x + 1) [] x).length)))
    have HBW := Aside0.mk hbW
    have HD := Aside0.mk hd
    clear hi hbW hd
    gi_wp2
    refine ⟨by simp, .inl ⟨_, _, rfl, run_takeDeferred HD.out, ?_⟩⟩
    refine ⟨_, results_tmp rfl _ _ _, rfl, ?_⟩
    exact HBW.out.grown (grownBy_putObj' _ _ _) HBW.out.size (fun k e => by cases e; omega)
  case hstop => exact fun _ _ _ _ h _ => h.elim
end
end Go.Proofs.Ytcgpfclmcajekaa.Each
