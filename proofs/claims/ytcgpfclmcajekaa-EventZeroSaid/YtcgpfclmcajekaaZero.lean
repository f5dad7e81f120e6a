/- A build that nobody made answers nothing. -/
import Derived.Test.YtcgpfclmcajekaaUtf
namespace Go.Proofs.Ytcgpfclmcajekaa.Zero
open Go Go.RowKit Go.Proofs.YtcgpfclmcajekaaW.PrintWords Go.Proofs.YtcgpfclmcajekaaW.PrintLast
set_option linter.unusedVariables false
set_option linter.unusedSimpArgs false
/-- No build, or one that nobody made. -/
def Not (W : World) (p : Value) : Prop := p = .pointer none ∨ ∃ g, p = .pointer (some ⟨g, 0, none⟩) ∧ W.cell? ⟨g, 0, none⟩ = some (.bool false)
theorem Not.below {W W' : World} {p : Value} (h : Not W p) (hb : Below W.heap.size W W') : Not W' p := by
  rcases h with rfl | ⟨g, rfl, h⟩
  · exact .inl rfl
  · exact .inr ⟨g, rfl, (hb.cell (World.block_lt_of_cell? _ _ h)).trans h⟩
theorem not_nil (W : World) : Not W (.pointer none) := .inl rfl
theorem Not.alloc {W : World} {p : Value} (h : Not W p) (o : Obj) : Not (W.alloc o) p := h.below (below_alloc (Below.refl _ _) o)
set_option maxRecDepth 100000 in
set_option maxHeartbeats 4000000 in
theorem none_calls (p : Value) (w : World) (h : Not w p) : Calls Try.prog 34 #[p] w fun e w' => e = .returned (.bool true) ∧ Below w.heap.size w w' := by
  rcases h with rfl | ⟨g, rfl, h⟩
  · go_enter Try.func34, Try.ntmps34
    go_wp2
    go_ret
    exact ⟨rfl, Below.refl _ _⟩
  · go_enter Try.func34, Try.ntmps34
    go_wp2
    go_ret
    exact ⟨rfl, Below.refl _ _⟩
set_option maxRecDepth 100000 in
set_option maxHeartbeats 4000000 in
theorem value_calls (p : Value) (w : World) (h : Not w p) : Calls Try.prog 17 #[p] w fun e w' => e = .returned (.tuple #[.agg #[.int .i64 0, .bool false, .int .u64 0, .string ⟨#[]⟩, .slice none 0 0], .int .i64 7]) ∧ Below w.heap.size w w' := by
  have hz : (w.alloc (.cells #[.int .i64 0, .bool false, .int .u64 0, .string ⟨#[]⟩, .slice none 0 0] 25)).heap[w.heap.size]? = some (.cells #[.int .i64 0, .bool false, .int .u64 0, .string ⟨#[]⟩, .slice none 0 0] 25 (0, 0)) := blk_new w _
  go_enter Try.func17, Try.ntmps17
  go_wp2_with (go_at_call 34; refine (none_calls p _ (h.below (below_alloc (Below.refl _ _) _))).mono ?_; rintro e W2 ⟨rfl, hb⟩; have hx := (hb.block _ (blk_lt hz)).trans hz; obtain ⟨b0, b1, b2, b3, b4⟩ := Utf.cells5 hx; have f0 := blk_frozen hx 0; have f1 := blk_frozen hx 1; have f2 := blk_frozen hx 2; have f3 := blk_frozen hx 3; have f4 := blk_frozen hx 4; have HX := Aside0.mk hx; have HB := Aside0.mk (show Below w.heap.size w W2 from (below_alloc (Below.refl _ _) _).trans (hb.mono (by rw [World.size_alloc]; omega))); clear hx hb)
  have h5 := blk_set (blk_set (blk_set (blk_set (blk_set HX.out 0 (.int .i64 0)) 1 (.bool false)) 2 (.int .u64 0)) 3 (.string ⟨#[]⟩)) 4 (.slice none 0 0)
  simp only [List.setIfInBounds_toArray, List.set_cons_zero, List.set_cons_succ] at h5
  refine bodyPost_ret (results_ct rfl _ _ w.heap.size 25 _ (0, 0) _ rfl h5 Try.underlying25 rfl (by kernel_rfl)) rfl ⟨rfl, ?_⟩
  exact ((((HB.out.setCell (p := ⟨w.heap.size, 0, none⟩) (Nat.le_refl _) _).setCell (p := ⟨w.heap.size, 1, none⟩) (Nat.le_refl _) _).setCell (p := ⟨w.heap.size, 2, none⟩) (Nat.le_refl _) _).setCell (p := ⟨w.heap.size, 3, none⟩) (Nat.le_refl _) _).setCell (p := ⟨w.heap.size, 4, none⟩) (Nat.le_refl _) _
set_option maxRecDepth 100000 in
set_option maxHeartbeats 4000000 in
theorem put_calls (p : Value) (a0 : Int) (a1 : Bool) (a2 : Int) (a3 : ByteArray) (w : World) (h : Not w p) : Calls Try.prog 18 #[p, .agg #[.int .i64 a0, .bool a1, .int .u64 a2, .string a3]] w fun e w' => e = .returned (.int .i64 7) ∧ Below w.heap.size w w' := by
  have hN := h
  rcases h with rfl | ⟨g, rfl, h⟩
  · have hz : (w.alloc (.cells #[.pointer none] 39)).heap[w.heap.size]? = some (.cells #[.pointer none] 39 (0, 0)) := blk_new w _
    have hz1 := (blk_cell hz 0).trans (rfl : _ = some (Value.pointer none))
    have hz2 : ((w.alloc (.cells #[.pointer none] 39)).alloc (.cells #[.int .i64 a0, .bool a1, .int .u64 a2, .string a3] 37)).cell? ⟨w.heap.size, 0, none⟩ = some (Value.pointer none) := (blk_cell (blk_alloc hz _) 0).trans rfl
    have hb2 : Below w.heap.size w ((w.alloc (.cells #[.pointer none] 39)).alloc (.cells #[.int .i64 a0, .bool a1, .int .u64 a2, .string a3] 37)) := below_alloc (below_alloc (Below.refl _ _) _) _
    have HN := Aside0.mk (hN.below hb2)
    have HB := Aside0.mk hb2
    clear hz hb2 hN
    go_enter Try.func18, Try.ntmps18
    go_wp2_with (go_at_call 34; refine (none_calls (Value.pointer none) _ HN.out).mono ?_; rintro e W2 ⟨rfl, hb⟩)
    go_ret
    exact ⟨rfl, HB.out.trans (hb.mono HB.out.size)⟩
  · clear h
    have hz : (w.alloc (.cells #[.pointer (some ⟨g, 0, none⟩)] 39)).heap[w.heap.size]? = some (.cells #[.pointer (some ⟨g, 0, none⟩)] 39 (0, 0)) := blk_new w _
    have hz1 := (blk_cell hz 0).trans (rfl : _ = some (Value.pointer (some ⟨g, 0, none⟩)))
    have hz2 : ((w.alloc (.cells #[.pointer (some ⟨g, 0, none⟩)] 39)).alloc (.cells #[.int .i64 a0, .bool a1, .int .u64 a2, .string a3] 37)).cell? ⟨w.heap.size, 0, none⟩ = some (Value.pointer (some ⟨g, 0, none⟩)) := (blk_cell (blk_alloc hz _) 0).trans rfl
    have hb2 : Below w.heap.size w ((w.alloc (.cells #[.pointer (some ⟨g, 0, none⟩)] 39)).alloc (.cells #[.int .i64 a0, .bool a1, .int .u64 a2, .string a3] 37)) := below_alloc (below_alloc (Below.refl _ _) _) _
    have HN := Aside0.mk (hN.below hb2)
    have HB := Aside0.mk hb2
    clear hz hb2 hN
    go_enter Try.func18, Try.ntmps18
    go_wp2_with (go_at_call 34; refine (none_calls (Value.pointer (some ⟨g, 0, none⟩)) _ HN.out).mono ?_; rintro e W2 ⟨rfl, hb⟩)
    go_ret
    exact ⟨rfl, HB.out.trans (hb.mono HB.out.size)⟩
set_option maxRecDepth 100000 in
set_option maxHeartbeats 4000000 in
theorem done_calls (p : Value) (w : World) (h : Not w p) : Calls Try.prog 19 #[p] w fun e w' => e = .returned (.bool false) ∧ Below w.heap.size w w' := by
  go_enter Try.func19, Try.ntmps19
  go_wp2_with (go_at_call 34; refine (none_calls p _ h).mono ?_; rintro e W2 ⟨rfl, hb⟩)
  go_ret
  exact ⟨rfl, hb⟩
set_option maxRecDepth 100000 in
set_option maxHeartbeats 4000000 in
theorem depth_calls (p : Value) (w : World) (h : Not w p) : Calls Try.prog 20 #[p] w fun e w' => e = .returned (.int .i64 0) ∧ Below w.heap.size w w' := by
  go_enter Try.func20, Try.ntmps20
  go_wp2_with (go_at_call 34; refine (none_calls p _ h).mono ?_; rintro e W2 ⟨rfl, hb⟩)
  go_ret
  exact ⟨rfl, hb⟩
set_option maxRecDepth 100000 in
set_option maxHeartbeats 4000000 in
theorem count_calls (p : Value) (w : World) (h : Not w p) : Calls Try.prog 21 #[p] w fun e w' => e = .returned (.int .i64 0) ∧ Below w.heap.size w w' := by
  go_enter Try.func21, Try.ntmps21
  go_wp2_with (go_at_call 34; refine (none_calls p _ h).mono ?_; rintro e W2 ⟨rfl, hb⟩)
  go_ret
  exact ⟨rfl, hb⟩
/-- What the worlds of the law keep. -/
structure Inv (a0 : Int) (a1 : Bool) (a2 : Int) (a3 : ByteArray) (w W : World) : Prop where
  c : W.heap[w.heap.size + 1]? = some (.cells #[.bool false, .slice none 0 0, .bool false, .int .i64 0, .bool false, .int .u64 0, .string ⟨#[]⟩, .slice none 0 0, .int .i64 0, .int .i64 0] 42 (0, 0))
  e : W.heap[w.heap.size]? = some (.cells #[.int .i64 a0, .bool a1, .int .u64 a2, .string a3] 37 (0, 0))
  b : Below w.heap.size w W
theorem Inv.step {a0 : Int} {a1 : Bool} {a2 : Int} {a3 : ByteArray} {w A B : World} (h : Inv a0 a1 a2 a3 w A) (hb : Below A.heap.size A B) : Inv a0 a1 a2 a3 w B :=
  ⟨(hb.block _ (blk_lt h.c)).trans h.c, (hb.block _ (blk_lt h.e)).trans h.e, h.b.trans (hb.mono h.b.size)⟩
theorem Inv.nots {a0 : Int} {a1 : Bool} {a2 : Int} {a3 : ByteArray} {w A : World} (h : Inv a0 a1 a2 a3 w A) : Not A (Value.pointer (some ⟨w.heap.size + 1, 0, none⟩)) := .inr ⟨_, rfl, (blk_cell h.c 0).trans rfl⟩
theorem Inv.cells {a0 : Int} {a1 : Bool} {a2 : Int} {a3 : ByteArray} {w W : World} (h : Inv a0 a1 a2 a3 w W) :
    W.cell? ⟨w.heap.size, 0, none⟩ = some (.int .i64 a0) ∧ W.cell? ⟨w.heap.size, 1, none⟩ = some (.bool a1) ∧ W.cell? ⟨w.heap.size, 2, none⟩ = some (.int .u64 a2) ∧ W.cell? ⟨w.heap.size, 3, none⟩ = some (.string a3) :=
  ⟨(blk_cell h.e 0).trans rfl, (blk_cell h.e 1).trans rfl, (blk_cell h.e 2).trans rfl, (blk_cell h.e 3).trans rfl⟩
set_option maxRecDepth 100000 in
set_option maxHeartbeats 8000000 in
theorem zero_calls (a0 : Int) (a1 : Bool) (a2 : Int) (a3 : ByteArray) (w : World) : Calls Try.prog 5 #[.agg #[.int .i64 a0, .bool a1, .int .u64 a2, .string a3]] w fun e w' => e = .returned (.bool true) ∧ Below w.heap.size w w' := by
  have HI1 : Aside0 (Inv a0 a1 a2 a3 w ((w.alloc (.cells #[.int .i64 a0, .bool a1, .int .u64 a2, .string a3] 37)).alloc (.cells #[.bool false, .slice none 0 0, .bool false, .int .i64 0, .bool false, .int .u64 0, .string ⟨#[]⟩, .slice none 0 0, .int .i64 0, .int .i64 0] 42))) :=
    ⟨by rw [← World.size_alloc w (.cells #[.int .i64 a0, .bool a1, .int .u64 a2, .string a3] 37)]; exact blk_new _ _, blk_alloc (blk_new w _) _, below_alloc (below_alloc (Below.refl _ _) _) _⟩
  go_enter Try.func5, Try.ntmps5
  go_wp2_with (first
    | (go_at_call 17; with_reducible refine (value_calls (.pointer none) _ (not_nil _)).mono ?_; rintro e1 W2 ⟨rfl, hb⟩; have HI2 := Aside0.mk (HI1.out.step hb); clear hb)
    | (go_at_call 17; with_reducible refine (value_calls (Value.pointer (some ⟨w.heap.size + 1, 0, none⟩)) _ (HI2.out.step (below_alloc (Below.refl _ _) (.cells #[.int .i64 0, .bool false, .int .u64 0, .string ⟨#[]⟩, .slice none 0 0] 25))).nots).mono ?_; rintro e1 W3 ⟨rfl, hb⟩; have HI3 := Aside0.mk (((HI2.out.step (below_alloc (Below.refl _ _) (.cells #[.int .i64 0, .bool false, .int .u64 0, .string ⟨#[]⟩, .slice none 0 0] 25))).step hb).step (below_alloc (Below.refl _ _) (.cells #[.int .i64 0, .bool false, .int .u64 0, .string ⟨#[]⟩, .slice none 0 0] 25))); obtain ⟨d0, d1, d2, d3⟩ := HI3.out.cells; clear hb)
    | (go_at_call 18; with_reducible refine (put_calls (.pointer none) a0 a1 a2 a3 _ (not_nil _)).mono ?_; rintro e1 W4 ⟨rfl, hb⟩; have HI4 := Aside0.mk (HI3.out.step hb); obtain ⟨d0, d1, d2, d3⟩ := HI4.out.cells; clear hb)
    | (go_at_call 18; with_reducible refine (put_calls (Value.pointer (some ⟨w.heap.size + 1, 0, none⟩)) a0 a1 a2 a3 _ HI4.out.nots).mono ?_; rintro e1 W5 ⟨rfl, hb⟩; have HI5 := Aside0.mk (HI4.out.step hb); clear hb)
    | (go_at_call 19; with_reducible refine (done_calls (.pointer none) _ (not_nil _)).mono ?_; rintro e1 W6 ⟨rfl, hb⟩; have HI6 := Aside0.mk (HI5.out.step hb); clear hb)
    | (go_at_call 19; with_reducible refine (done_calls (Value.pointer (some ⟨w.heap.size + 1, 0, none⟩)) _ HI6.out.nots).mono ?_; rintro e1 W7 ⟨rfl, hb⟩; have HI7 := Aside0.mk (HI6.out.step hb); clear hb)
    | (go_at_call 20; with_reducible refine (depth_calls (.pointer none) _ (not_nil _)).mono ?_; rintro e1 W8 ⟨rfl, hb⟩; have HI8 := Aside0.mk (HI7.out.step hb); clear hb)
    | (go_at_call 21; with_reducible refine (count_calls (Value.pointer (some ⟨w.heap.size + 1, 0, none⟩)) _ HI8.out.nots).mono ?_; rintro e1 W9 ⟨rfl, hb⟩; have HI9 := Aside0.mk (HI8.out.step hb); clear hb))
  go_ret
  exact ⟨rfl, HI9.out.b⟩
end Go.Proofs.Ytcgpfclmcajekaa.Zero
