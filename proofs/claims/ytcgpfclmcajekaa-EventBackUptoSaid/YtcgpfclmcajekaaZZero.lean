-- Out of texts of this seat by a program of this session: what the claim does not reach is struck
import Derived.Test.YtcgpfclmcajekaaZUtf
namespace Go.Proofs.Ytcgpfclmcajekaa.Zero
open Go Go.RowKit Go.Proofs.YtcgpfclmcajekaaW.PrintWords Go.Proofs.YtcgpfclmcajekaaW.PrintLast
set_option linter.unusedVariables false
set_option linter.unusedSimpArgs false
def Not (W : World) (p : Value) : Prop := p = .pointer none ∨ ∃ g, p = .pointer (some ⟨g, 0, none⟩) ∧ W.cell? ⟨g, 0, none⟩ = some (.bool false)
theorem Not.below {W W' : World} {p : Value} (h : Not W p) (hb : Below W.heap.size W W') : Not W' p := by
  rcases h with rfl | ⟨g, rfl, h⟩
  · exact .inl rfl
  · exact .inr ⟨g, rfl, (hb.cell (World.block_lt_of_cell? _ _ h)).trans h⟩
theorem Not.alloc {W : World} {p : Value} (h : Not W p) (o : Obj) : Not (W.alloc o) p := h.below (below_alloc (Below.refl _ _) o)
set_option maxRecDepth 100000 in
set_option maxHeartbeats 4000000 in
theorem none_calls (p : Value) (w : World) (h : Not w p) : Calls Try.prog 34 #[p] w fun e w' => e = .returned (.bool true) ∧ Below w.heap.size w w' := by
  rcases h with rfl | ⟨g, rfl, h⟩
  · go_enter Try.func34, Try.ntmps34
    go_wp2
    go_ret
    exact ⟨rfl, Below.refl _ _⟩
  · go_enter Try.func34, Try.ntmps34
    go_wp2
    go_ret
    exact ⟨rfl, Below.refl _ _⟩
set_option maxRecDepth 100000 in
set_option maxHeartbeats 4000000 in
theorem put_calls (p : Value) (a0 : Int) (a1 : Bool) (a2 : Int) (a3 : ByteArray) (w : World) (h : Not w p) : Calls Try.prog 18 #[p, .agg #[.int .i64 a0, .bool a1, .int .u64 a2, .string a3]] w fun e w' => e = .returned (.int .i64 7) ∧ Below w.heap.size w w' := by
  have hN := h
  rcases h with rfl | ⟨g, rfl, h⟩
  · have hz : (w.alloc (.cells #[.pointer none] 39)).heap[w.heap.size]? = some (.cells #[.pointer none] 39 (0, 0)) := blk_new w _
    have hz1 := (blk_cell hz 0).trans (rfl : _ = some (Value.pointer none))
    have hz2 : ((w.alloc (.cells #[.pointer none] 39)).alloc (.cells #[.int .i64 a0, .bool a1, .int .u64 a2, .string a3] 37)).cell? ⟨w.heap.size, 0, none⟩ = some (Value.pointer none) := (blk_cell (blk_alloc hz _) 0).trans rfl
    have hb2 : Below w.heap.size w ((w.alloc (.cells #[.pointer none] 39)).alloc (.cells #[.int .i64 a0, .bool a1, .int .u64 a2, .string a3] 37)) := below_alloc (below_alloc (Below.refl _ _) _) _
    have HN := Aside0.mk (hN.below hb2)
    have HB := Aside0.mk hb2
    clear hz hb2 hN
    go_enter Try.func18, Try.ntmps18
    go_wp2_with (go_at_call 34; refine (none_calls (Value.pointer none) _ HN.out).mono ?_; rintro e W2 ⟨rfl, hb⟩)
    go_ret
    exact ⟨rfl, HB.out.trans (hb.mono HB.out.size)⟩
  · clear h
    have hz : (w.alloc (.cells #[.pointer (some ⟨g, 0, none⟩)] 39)).heap[w.heap.size]? = some (.cells #[.pointer (some ⟨g, 0, none⟩)] 39 (0, 0)) := blk_new w _
    have hz1 := (blk_cell hz 0).trans (rfl : _ = some (Value.pointer (some ⟨g, 0, none⟩)))
    have hz2 : ((w.alloc (.cells #[.pointer (some ⟨g, 0, none⟩)] 39)).alloc (.cells #[.int .i64 a0, .bool a1, .int .u64 a2, .string a3] 37)).cell? ⟨w.heap.size, 0, none⟩ = some (Value.pointer (some ⟨g, 0, none⟩)) := (blk_cell (blk_alloc hz _) 0).trans rfl
    have hb2 : Below w.heap.size w ((w.alloc (.cells #[.pointer (some ⟨g, 0, none⟩)] 39)).alloc (.cells #[.int .i64 a0, .bool a1, .int .u64 a2, .string a3] 37)) := below_alloc (below_alloc (Below.refl _ _) _) _
    have HN := Aside0.mk (hN.below hb2)
    have HB := Aside0.mk hb2
    clear hz hb2 hN
    go_enter Try.func18, Try.ntmps18
    go_wp2_with (go_at_call 34; refine (none_calls (Value.pointer (some ⟨g, 0, none⟩)) _ HN.out).mono ?_; rintro e W2 ⟨rfl, hb⟩)
    go_ret
    exact ⟨rfl, HB.out.trans (hb.mono HB.out.size)⟩
set_option maxRecDepth 100000 in
set_option maxHeartbeats 4000000 in
theorem count_calls (p : Value) (w : World) (h : Not w p) : Calls Try.prog 21 #[p] w fun e w' => e = .returned (.int .i64 0) ∧ Below w.heap.size w w' := by
  go_enter Try.func21, Try.ntmps21
  go_wp2_with (go_at_call 34; refine (none_calls p _ h).mono ?_; rintro e W2 ⟨rfl, hb⟩)
  go_ret
  exact ⟨rfl, hb⟩
structure Inv (a0 : Int) (a1 : Bool) (a2 : Int) (a3 : ByteArray) (w W : World) : Prop where
  c : W.heap[w.heap.size + 1]? = some (.cells #[.bool false, .slice none 0 0, .bool false, .int .i64 0, .bool false, .int .u64 0, .string ⟨#[]⟩, .slice none 0 0, .int .i64 0, .int .i64 0] 42 (0, 0))
  e : W.heap[w.heap.size]? = some (.cells #[.int .i64 a0, .bool a1, .int .u64 a2, .string a3] 37 (0, 0))
  b : Below w.heap.size w W
theorem Inv.step {a0 : Int} {a1 : Bool} {a2 : Int} {a3 : ByteArray} {w A B : World} (h : Inv a0 a1 a2 a3 w A) (hb : Below A.heap.size A B) : Inv a0 a1 a2 a3 w B :=
  ⟨(hb.block _ (blk_lt h.c)).trans h.c, (hb.block _ (blk_lt h.e)).trans h.e, h.b.trans (hb.mono h.b.size)⟩
theorem Inv.cells {a0 : Int} {a1 : Bool} {a2 : Int} {a3 : ByteArray} {w W : World} (h : Inv a0 a1 a2 a3 w W) :
    W.cell? ⟨w.heap.size, 0, none⟩ = some (.int .i64 a0) ∧ W.cell? ⟨w.heap.size, 1, none⟩ = some (.bool a1) ∧ W.cell? ⟨w.heap.size, 2, none⟩ = some (.int .u64 a2) ∧ W.cell? ⟨w.heap.size, 3, none⟩ = some (.string a3) :=
  ⟨(blk_cell h.e 0).trans rfl, (blk_cell h.e 1).trans rfl, (blk_cell h.e 2).trans rfl, (blk_cell h.e 3).trans rfl⟩
end Go.Proofs.Ytcgpfclmcajekaa.Zero
