-- Out of texts of this seat by a program of this session: what the claim does not reach is struck
import Derived.Test.YtcgpfclmcajekaaZBc
namespace Go.Proofs.Ytcgpfclmcajekaa.Bld
open Go Go.RowKit Go.Shelf Go.Proofs.Ytcgpfclmcajekaa.Each Go.Proofs.YtcgpfclmcajekaaW.PrintWords Go.Proofs.YtcgpfclmcajekaaW.PrintLast
set_option linter.unusedVariables false
set_option linter.unusedSimpArgs false
section
variable {S : Type} (T : Mk S)
structure Bx (g n0 : Nat) (W W2 : World) (b : BS S) (a : Int) (ng : Bool) (c : Int) (d : ByteArray) : Prop where
  b2 : W2.heap[W.heap.size]? = some (.cells #[.pointer (some ⟨g, 0, none⟩)] 39 (0, 0))
  b3 : W2.heap[W.heap.size + 1]? = some (.cells #[.int .i64 a, .bool ng, .int .u64 c, .string d] 37 (0, 0))
  st : St T g n0 W2 b
  bel : Below W.heap.size W W2
theorem Bx.start (g n0 : Nat) (W : World) (b : BS S) (a : Int) (ng : Bool) (c : Int) (d : ByteArray) (hst : St T g n0 W b) :
    Bx T g n0 W ((W.alloc (.cells #[.pointer (some ⟨g, 0, none⟩)] 39)).alloc (.cells #[.int .i64 a, .bool ng, .int .u64 c, .string d] 37)) b a ng c d :=
  ⟨blk_alloc (blk_new _ _) _, by rw [← World.size_alloc W (.cells #[.pointer (some ⟨g, 0, none⟩)] 39)]; exact blk_new _ _, hst.below T (below_alloc (below_alloc (Below.refl _ _) _) _), below_alloc (below_alloc (Below.refl _ _) _) _⟩
theorem Bx.step {g n0 : Nat} {W A B : World} {b : BS S} {a : Int} {ng : Bool} {c : Int} {d : ByteArray} (h : Bx T g n0 W A b a ng c d) (hb : Below A.heap.size A B) : Bx T g n0 W B b a ng c d :=
  ⟨(hb.block _ (blk_lt h.b2)).trans h.b2, (hb.block _ (blk_lt h.b3)).trans h.b3, h.st.below T hb, h.bel.trans (hb.mono h.bel.size)⟩
theorem Bx.made {g n0 : Nat} {W A : World} {b : BS S} {a : Int} {ng : Bool} {c : Int} {d : ByteArray} (h : Bx T g n0 W A b a ng c d) :
    A.cell? ⟨g, 0, none⟩ = some (.bool true) ∧ A.cell? ⟨g, 2, none⟩ = some (.bool b.whole) ∧ A.cell? ⟨W.heap.size, 0, none⟩ = some (.pointer (some ⟨g, 0, none⟩)) ∧ A.cell? ⟨W.heap.size + 1, 0, none⟩ = some (.int .i64 a) ∧ A.cell? ⟨W.heap.size + 1, 1, none⟩ = some (.bool ng) ∧ A.cell? ⟨W.heap.size + 1, 2, none⟩ = some (.int .u64 c) ∧ A.cell? ⟨W.heap.size + 1, 3, none⟩ = some (.string d) := by
  obtain ⟨vo, v4, hblk, _, _⟩ := h.st.data
  exact ⟨(blk_cell hblk 0).trans rfl, (blk_cell hblk 2).trans rfl, (blk_cell h.b2 0).trans rfl, (blk_cell h.b3 0).trans rfl, (blk_cell h.b3 1).trans rfl, (blk_cell h.b3 2).trans rfl, (blk_cell h.b3 3).trans rfl⟩
set_option maxRecDepth 100000 in
set_option maxHeartbeats 4000000 in
theorem put_whole (g n0 : Nat) (W : World) (b : BS S) (a : Int) (ng : Bool) (c : Int) (d : ByteArray) (hst : St T g n0 W b) (hw : b.whole = true) :
    Calls Try.prog 18 #[.pointer (some ⟨g, 0, none⟩), .agg #[.int .i64 a, .bool ng, .int .u64 c, .string d]] W fun e W' => e = .returned (.int .i64 4) ∧ Below W.heap.size W W' := by
  have h0 := Bx.start T g n0 W b a ng c d hst
  obtain ⟨q0, q1, q2, q3, q4, q5, q6⟩ := h0.made
  have H0 := Aside0.mk h0
  clear h0 hst
  go_enter Try.func18, Try.ntmps18
  go_wp2_with (go_at_call 34; refine (none_calls g _ q0).mono ?_; rintro e W2 ⟨rfl, hb⟩; have h2 := H0.out.step T hb; obtain ⟨r0, r1, r2, r3, r4, r5, r6⟩ := h2.made; rw [hw] at r1; have H2 := Aside0.mk h2; clear hb h2)
  go_ret
  exact ⟨rfl, H2.out.bel⟩
set_option maxRecDepth 100000 in
set_option maxHeartbeats 4000000 in
theorem put_end (g n0 : Nat) (W : World) (b : BS S) (ng : Bool) (c : Int) (d : ByteArray) (hst : St T g n0 W b) (hw : b.whole = false) (R : Int → World → World → Prop)
    (hc : ∀ W1, St T g n0 W1 b → Calls Try.prog 35 #[.pointer (some ⟨g, 0, none⟩), .agg #[.int .i64 15, .bool ng, .int .u64 c, .string d]] W1 fun e W' => ∃ r, e = .returned (.int .i64 r) ∧ R r W1 W') :
    Calls Try.prog 18 #[.pointer (some ⟨g, 0, none⟩), .agg #[.int .i64 15, .bool ng, .int .u64 c, .string d]] W fun e W' => ∃ r W1, e = .returned (.int .i64 r) ∧ Below W.heap.size W W1 ∧ R r W1 W' := by
  have h0 := Bx.start T g n0 W b 15 ng c d hst
  obtain ⟨q0, q1, q2, q3, q4, q5, q6⟩ := h0.made
  have H0 := Aside0.mk h0
  have HC := Aside0.mk hc
  clear h0 hst hc
  go_enter Try.func18, Try.ntmps18
  go_wp2_with (first
    | (go_at_call 34; refine (none_calls g _ q0).mono ?_; rintro e W2 ⟨rfl, hb⟩; have h2 := H0.out.step T hb; obtain ⟨r0, r1, r2, r3, r4, r5, r6⟩ := h2.made; rw [hw] at r1; have H2 := Aside0.mk h2; clear hb h2)
    | (go_at_call 35; refine (HC.out _ H2.out.st).mono ?_; rintro e W3 ⟨r, rfl, hr⟩; have HR := Aside0.mk hr; clear hr))
  go_ret
  exact ⟨r, W2, rfl, H2.out.bel, HR.out⟩
set_option maxRecDepth 100000 in
set_option maxHeartbeats 4000000 in
theorem may_bad (one : S → Option Bool) (hone : ∀ x r, one x = some r → ∀ W cs, T.D.K W x cs → Calls Try.prog 32 #[.agg cs.toArray] W fun e W' => e = .returned (.bool r) ∧ Below W.heap.size W W')
    (g n0 : Nat) (W : World) (b : BS S) (a : Int) (ng : Bool) (c : Int) (d : ByteArray) (hst : St T g n0 W b) (hr : one (rightX T a ng c d) = some false) :
    Calls Try.prog 36 #[.pointer (some ⟨g, 0, none⟩), .agg #[.int .i64 a, .bool ng, .int .u64 c, .string d]] W fun e W' => e = .returned (.int .i64 4) ∧ Below W.heap.size W W' := by
  have h1 := hst.below T (below_alloc (Below.refl W.heap.size W) (.cells #[.int .i64 a, .bool ng, .int .u64 c, .string d] 37))
  have HS1 := Aside0.mk h1
  have HC := Aside0.mk (fun W => right_calls T one hone a ng c d false hr W)
  have HB := Aside0.mk (below_alloc (Below.refl W.heap.size W) (.cells #[.int .i64 a, .bool ng, .int .u64 c, .string d] 37))
  clear h1 hst hone hr
  go_enter Try.func36, Try.ntmps36
  go_wp2_with (go_at_call 37; refine (HC.out _).mono ?_; rintro e W2 ⟨rfl, hb⟩; have hs2 := (HS1.out.below T hb).below T (below_alloc (Below.refl W2.heap.size W2) (.cells #[.int .i64 a, .bool ng, .int .u64 c, .string d, .slice none 0 0] 25)); obtain ⟨vo, v4, hblk, hS, hbv⟩ := hs2.data; obtain ⟨A0, c0, hvo⟩ := Kd.S_slice hS; obtain ⟨N0, hN0⟩ : ∃ N0, b.open_.reverse.length = N0 := ⟨_, rfl⟩; rw [hN0] at hvo; subst hvo; have q1 := (blk_cell hblk 1).trans (rfl : _ = some (Value.slice A0 N0 c0)); have HB2 := Aside0.mk (HB.out.trans (hb.mono HB.out.size)); clear hb hs2 hblk hS hbv)
  go_ret
  exact ⟨rfl, below_alloc HB2.out _⟩
end
end Go.Proofs.Ytcgpfclmcajekaa.Bld
