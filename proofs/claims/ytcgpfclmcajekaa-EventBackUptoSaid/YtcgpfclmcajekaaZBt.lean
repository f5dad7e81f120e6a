-- Out of texts of this seat by a program of this session: what the claim does not reach is struck
import Derived.Test.YtcgpfclmcajekaaZBq
namespace Go.Proofs.Ytcgpfclmcajekaa.Bld
open Go Go.RowKit Go.Shelf Go.Proofs.Ytcgpfclmcajekaa.Each Go.Proofs.YtcgpfclmcajekaaW.PrintWords Go.Proofs.YtcgpfclmcajekaaW.PrintLast
set_option linter.unusedVariables false
set_option linter.unusedSimpArgs false
section
variable {S : Type} (T : Mk S)
set_option maxRecDepth 100000 in
set_option maxHeartbeats 4000000 in
theorem leaf_calls (a : Int) (ng : Bool) (c : Int) (d : ByteArray) (v4 : Value) (W : World) :
    Calls Try.prog 33 #[.agg #[.int .i64 a, .bool ng, .int .u64 c, .string d, v4]] W fun e W' => e = .returned (.bool (decide (a ≠ 11 ∧ a ≠ 12 ∧ a ≠ 13))) ∧ Below W.heap.size W W' := by
  by_cases h1 : a = 11
  · subst h1
    go_enter Try.func33, Try.ntmps33
    go_wp2
    go_ret
    exact ⟨rfl, below_alloc (Below.refl _ _) _⟩
  by_cases h2 : a = 12
  · subst h2
    go_enter Try.func33, Try.ntmps33
    go_wp2
    go_ret
    exact ⟨rfl, below_alloc (Below.refl _ _) _⟩
  by_cases h3 : a = 13
  · subst h3
    go_enter Try.func33, Try.ntmps33
    go_wp2
    go_ret
    exact ⟨rfl, below_alloc (Below.refl _ _) _⟩
  have q1 : (a == 11) = false := by simp [h1]
  have q2 : (a == 12) = false := by simp [h2]
  have q3 : (a == 13) = false := by simp [h3]
  go_enter Try.func33, Try.ntmps33
  go_wp2
  go_ret
  exact ⟨by simp [h1, h2, h3], below_alloc (Below.refl _ _) _⟩
structure By (g n0 : Nat) (W W2 : World) (b : BS S) (a : Int) (ng : Bool) (c : Int) (d : ByteArray) : Prop where
  b2 : W2.heap[W.heap.size]? = some (.cells #[.pointer (some ⟨g, 0, none⟩)] 39 (0, 0))
  b3 : W2.heap[W.heap.size + 1]? = some (.cells #[.int .i64 a, .bool ng, .int .u64 c, .string d] 37 (0, 0))
  st : St T g n0 W2 b
  ke : Ke n0 W W2
theorem By.step {g n0 : Nat} {W A B : World} {b : BS S} {a : Int} {ng : Bool} {c : Int} {d : ByteArray} (h : By T g n0 W A b a ng c d) (hb : Below A.heap.size A B) : By T g n0 W B b a ng c d :=
  ⟨(hb.block _ (blk_lt h.b2)).trans h.b2, (hb.block _ (blk_lt h.b3)).trans h.b3, h.st.below T hb, h.ke.trans (Ke.of_below h.st.size hb)⟩
theorem By.made {g n0 : Nat} {W A : World} {b : BS S} {a : Int} {ng : Bool} {c : Int} {d : ByteArray} (h : By T g n0 W A b a ng c d) :
    A.cell? ⟨g, 0, none⟩ = some (.bool true) ∧ A.cell? ⟨g, 2, none⟩ = some (.bool b.whole) ∧ A.cell? ⟨W.heap.size, 0, none⟩ = some (.pointer (some ⟨g, 0, none⟩)) ∧ A.cell? ⟨W.heap.size + 1, 0, none⟩ = some (.int .i64 a) ∧ A.cell? ⟨W.heap.size + 1, 1, none⟩ = some (.bool ng) ∧ A.cell? ⟨W.heap.size + 1, 2, none⟩ = some (.int .u64 c) ∧ A.cell? ⟨W.heap.size + 1, 3, none⟩ = some (.string d) := by
  obtain ⟨vo, v4, hblk, _, _⟩ := h.st.data
  exact ⟨(blk_cell hblk 0).trans rfl, (blk_cell hblk 2).trans rfl, (blk_cell h.b2 0).trans rfl, (blk_cell h.b3 0).trans rfl, (blk_cell h.b3 1).trans rfl, (blk_cell h.b3 2).trans rfl, (blk_cell h.b3 3).trans rfl⟩
theorem Bx.count {g n0 : Nat} {W A : World} {b : BS S} {a : Int} {ng : Bool} {c : Int} {d : ByteArray} (h : Bx T g n0 W A b a ng c d) (hg : g < W.heap.size) (hs : n0 ≤ W.heap.size) :
    A.cell? ⟨g, 8, none⟩ = some (.int .i64 b.count) ∧ A.frozen? ⟨g, 8, none⟩ = false ∧ By T g n0 W (A.setCell ⟨g, 8, none⟩ (.int .i64 (b.count + 1))) { b with count := b.count + 1 } a ng c d := by
  obtain ⟨vo, v4, hblk, hS, hR⟩ := h.st.data
  have hfar : ∀ k, k ≠ g → (A.setCell ⟨g, 8, none⟩ (.int .i64 (b.count + 1))).heap[k]? = A.heap[k]? := fun k hk => Below.heap_setCell A ⟨g, 8, none⟩ _ k hk
  refine ⟨(blk_cell hblk 8).trans rfl, blk_frozen hblk 8, (hfar _ (by omega)).trans h.b2, (hfar _ (by omega)).trans h.b3, ⟨⟨vo, v4, ?_, ?_, ?_⟩, h.st.base, ?_⟩, ?_⟩
  · rw [blk_set hblk 8 _]; simp [cells]
  · exact Kd.S_set hS hblk (o_no42 T 72 (by decide)) 8 _
  · exact Kd.R_set hR hblk (o_no42 T 25 (by decide)) 8 _
  · rw [World.size_setCell]; exact h.st.size
  · exact (Ke.of_below hs h.bel).trans (Ke.set hblk h.st.base 8 _)
set_option maxRecDepth 100000 in
set_option maxHeartbeats 4000000 in
theorem put_no (g n0 : Nat) (W : World) (b : BS S) (a : Int) (ng : Bool) (c : Int) (d : ByteArray) (hst : St T g n0 W b) (hw : b.whole = false) (ha : a ≠ 15) (r : Int) (hr : r ≠ 0)
    (hmay : ∀ W1, St T g n0 W1 b → Calls Try.prog 36 #[.pointer (some ⟨g, 0, none⟩), .agg #[.int .i64 a, .bool ng, .int .u64 c, .string d]] W1 fun e W' => e = .returned (.int .i64 r) ∧ Below W1.heap.size W1 W') :
    Calls Try.prog 18 #[.pointer (some ⟨g, 0, none⟩), .agg #[.int .i64 a, .bool ng, .int .u64 c, .string d]] W fun e W' => e = .returned (.int .i64 r) ∧ Below W.heap.size W W' := by
  have h0 := Bx.start T g n0 W b a ng c d hst
  obtain ⟨q0, q1, q2, q3, q4, q5, q6⟩ := h0.made
  have H0 := Aside0.mk h0
  have HC := Aside0.mk hmay
  have hq15 : (a == 15) = false := by simp [ha]
  have hqr : (r != 0) = true := by simp [hr]
  clear h0 hst hmay
  go_enter Try.func18, Try.ntmps18
  go_wp2_with (first
    | (go_at_call 34; refine (none_calls g _ q0).mono ?_; rintro e W2 ⟨rfl, hb⟩; have h2 := H0.out.step T hb; clear q0 q1 q2 q3 q4 q5 q6; obtain ⟨q0, q1, q2, q3, q4, q5, q6⟩ := h2.made; rw [hw] at q1; have H2 := Aside0.mk h2; clear hb h2)
    | (go_at_call 36; refine (HC.out _ H2.out.st).mono ?_; rintro e W3 ⟨rfl, hb⟩; have H3 := Aside0.mk (H2.out.step T hb); clear hb))
  go_ret
  exact ⟨rfl, H3.out.bel⟩
set_option maxRecDepth 100000 in
set_option maxHeartbeats 4000000 in
theorem put_add (g n0 : Nat) (W : World) (b : BS S) (a : Int) (ng : Bool) (c : Int) (d : ByteArray) (hst : St T g n0 W b) (hw : b.whole = false) (ha : a ≠ 15) (hlf : a ≠ 11 ∧ a ≠ 12 ∧ a ≠ 13) (hc0 : 0 ≤ b.count) (hc1 : b.count ≤ 65535)
    (hmay : ∀ W1, St T g n0 W1 b → Calls Try.prog 36 #[.pointer (some ⟨g, 0, none⟩), .agg #[.int .i64 a, .bool ng, .int .u64 c, .string d]] W1 fun e W' => e = .returned (.int .i64 0) ∧ Below W1.heap.size W1 W')
    (hright : ∀ W1, Calls Try.prog 37 #[.agg #[.int .i64 a, .bool ng, .int .u64 c, .string d]] W1 fun e W' => e = .returned (.tuple #[.agg #[.int .i64 a, .bool ng, .int .u64 c, .string d, .slice none 0 0], .bool true]) ∧ Below W1.heap.size W1 W')
    (hlim : ∀ x, x ∈ b.open_ → (T.kids x).length ≤ 1048576) (hlen : b.open_.length ≤ 1048576) :
    Calls Try.prog 18 #[.pointer (some ⟨g, 0, none⟩), .agg #[.int .i64 a, .bool ng, .int .u64 c, .string d]] W fun e W' => e = .returned (.int .i64 0) ∧ St T g n0 W' (addB T { b with count := b.count + 1 } (T.ev a ng c d)) ∧ Ke n0 W W' := by
  have h0 := Bx.start T g n0 W b a ng c d hst
  obtain ⟨q0, q1, q2, q3, q4, q5, q6⟩ := h0.made
  have hgl : g < W.heap.size := by obtain ⟨vo, v4, hblk, _, _⟩ := hst.data; exact blk_lt hblk
  have hs0 := hst.size
  have H0 := Aside0.mk h0
  have HC := Aside0.mk hmay
  have HR := Aside0.mk hright
  have HL := Aside0.mk hlim
  have HL2 := Aside0.mk hlen
  have hq15 : (a == 15) = false := by simp [ha]
  have hwc : IntKind.i64.wrap (b.count + 1) = b.count + 1 := by rw [i64_w]; unfold wrap64; omega
  have HLF := Aside0.mk (fun v4 W => leaf_calls a ng c d v4 W)
  rw [decide_eq_true hlf] at HLF
  clear h0 hst hmay hright hlf hlim hlen
  have hmf : ∀ (fn : Fn) (first cap : Array Value) (w : World), (Instr.makeFunc fn first cap).run Try.prog w = .ok (.func fn first cap) w := fun _ _ _ _ => rfl
  go_enter Try.func18, Try.ntmps18
  go_wp2_with (first
    | (go_at_call 34; refine (none_calls g _ q0).mono ?_; rintro e W2 ⟨rfl, hb⟩; have h2 := H0.out.step T hb; clear q0 q1 q2 q3 q4 q5 q6; obtain ⟨q0, q1, q2, q3, q4, q5, q6⟩ := h2.made; rw [hw] at q1; have H2 := Aside0.mk h2; clear hb h2)
    | (go_at_call 36; refine (HC.out _ H2.out.st).mono ?_; rintro e W3 ⟨rfl, hb⟩; have h3 := H2.out.step T hb; clear q0 q1 q2 q3 q4 q5 q6; obtain ⟨q0, q1, q2, q3, q4, q5, q6⟩ := h3.made; obtain ⟨q8, f8, hy⟩ := Bx.count T h3 hgl hs0; obtain ⟨k0, k1, k2, k3, k4, k5, k6⟩ := hy.made; have H4 := Aside0.mk hy; clear hb h3 hy)
    | (go_at_call 37; refine (HR.out _).mono ?_; rintro e W5 ⟨rfl, hb⟩; have h5 := H4.out.step T hb; have h6 := h5.step T (below_alloc (Below.refl W5.heap.size W5) (.cells #[.int .i64 a, .bool ng, .int .u64 c, .string d, .slice none 0 0] 25)); clear q0 q1 q2 q3 q4 q5 q6 q8 f8 k0 k1 k2 k3 k4 k5 k6; obtain ⟨q0, q1, q2, q3, q4, q5, q6⟩ := h6.made; have hx := blk_new W5 (.cells #[.int .i64 a, .bool ng, .int .u64 c, .string d, .slice none 0 0] 25); obtain ⟨z0, z1, z2, z3, z4⟩ := gcells5 hx; have HX := Aside0.mk hx; have H6 := Aside0.mk h6; clear hb h5 h6 hx)
    | (go_at_call 33; refine (HLF.out _ _).mono ?_; rintro e W7 ⟨rfl, hb⟩; have h7 := H6.out.step T hb; have hx := (hb.block _ (blk_lt HX.out)).trans HX.out; clear q0 q1 q2 q3 q4 q5 q6 z0 z1 z2 z3 z4; obtain ⟨q0, q1, q2, q3, q4, q5, q6⟩ := h7.made; obtain ⟨z0, z1, z2, z3, z4⟩ := gcells5 hx; have H7 := Aside0.mk h7; clear hb h7 hx)
    | (go_at_call 38; obtain ⟨vo, v4, hblk, hS, hR⟩ := H7.out.st.data; refine (add_calls T g n0 W7 { b with count := b.count + 1 } (T.ev a ng c d) [.int .i64 a, .bool ng, .int .u64 c, .string d, .slice none 0 0] (fun _ => False) vo v4 hw hblk hR (Kd.S_mono hS (fun _ _ => ⟨trivial, fun h => h⟩)) (ev_M T W7 n0 a ng c d) H7.out.st.base H7.out.st.size HL.out HL2.out).mono ?_; rintro e W8 ⟨rfl, hs8, hk8⟩; have HS8 := Aside0.mk hs8; have HK8 := Aside0.mk hk8; clear hblk hS hR hs8 hk8))
  go_ret
  exact ⟨rfl, HS8.out, H7.out.ke.trans HK8.out⟩
set_option maxRecDepth 100000 in
set_option maxHeartbeats 4000000 in
theorem put_open (g n0 : Nat) (W : World) (b : BS S) (a : Int) (ng : Bool) (c : Int) (d : ByteArray) (hst : St T g n0 W b) (hw : b.whole = false) (ha : a ≠ 15) (hlf : ¬ (a ≠ 11 ∧ a ≠ 12 ∧ a ≠ 13)) (hc0 : 0 ≤ b.count) (hc1 : b.count ≤ 65535)
    (hmay : ∀ W1, St T g n0 W1 b → Calls Try.prog 36 #[.pointer (some ⟨g, 0, none⟩), .agg #[.int .i64 a, .bool ng, .int .u64 c, .string d]] W1 fun e W' => e = .returned (.int .i64 0) ∧ Below W1.heap.size W1 W')
    (hright : ∀ W1, Calls Try.prog 37 #[.agg #[.int .i64 a, .bool ng, .int .u64 c, .string d]] W1 fun e W' => e = .returned (.tuple #[.agg #[.int .i64 a, .bool ng, .int .u64 c, .string d, .slice none 0 0], .bool true]) ∧ Below W1.heap.size W1 W')
    (hlen : b.open_.length ≤ 1048576) :
    Calls Try.prog 18 #[.pointer (some ⟨g, 0, none⟩), .agg #[.int .i64 a, .bool ng, .int .u64 c, .string d]] W fun e W' => e = .returned (.int .i64 0) ∧ St T g n0 W' { b with count := b.count + 1, open_ := T.ev a ng c d :: b.open_ } ∧ Ke n0 W W' := by
  have h0 := Bx.start T g n0 W b a ng c d hst
  obtain ⟨q0, q1, q2, q3, q4, q5, q6⟩ := h0.made
  have hgl : g < W.heap.size := by obtain ⟨vo, v4, hblk, _, _⟩ := hst.data; exact blk_lt hblk
  have hs0 := hst.size
  have H0 := Aside0.mk h0
  have HC := Aside0.mk hmay
  have HR := Aside0.mk hright
  have HL2 := Aside0.mk hlen
  have hq15 : (a == 15) = false := by simp [ha]
  have hwc : IntKind.i64.wrap (b.count + 1) = b.count + 1 := by rw [i64_w]; unfold wrap64; omega
  have HLF := Aside0.mk (fun v4 W => leaf_calls a ng c d v4 W)
  rw [decide_eq_false hlf] at HLF
  clear h0 hst hmay hright hlf hlen
  have hmf : ∀ (fn : Fn) (first cap : Array Value) (w : World), (Instr.makeFunc fn first cap).run Try.prog w = .ok (.func fn first cap) w := fun _ _ _ _ => rfl
  go_enter Try.func18, Try.ntmps18
  go_wp2_with (first
    | (go_at_call 34; refine (none_calls g _ q0).mono ?_; rintro e W2 ⟨rfl, hb⟩; have h2 := H0.out.step T hb; clear q0 q1 q2 q3 q4 q5 q6; obtain ⟨q0, q1, q2, q3, q4, q5, q6⟩ := h2.made; rw [hw] at q1; have H2 := Aside0.mk h2; clear hb h2)
    | (go_at_call 36; refine (HC.out _ H2.out.st).mono ?_; rintro e W3 ⟨rfl, hb⟩; have h3 := H2.out.step T hb; clear q0 q1 q2 q3 q4 q5 q6; obtain ⟨q0, q1, q2, q3, q4, q5, q6⟩ := h3.made; obtain ⟨q8, f8, hy⟩ := Bx.count T h3 hgl hs0; obtain ⟨k0, k1, k2, k3, k4, k5, k6⟩ := hy.made; have H4 := Aside0.mk hy; clear hb h3 hy)
    | (go_at_call 37; refine (HR.out _).mono ?_; rintro e W5 ⟨rfl, hb⟩; have h5 := H4.out.step T hb; have h6 := h5.step T (below_alloc (Below.refl W5.heap.size W5) (.cells #[.int .i64 a, .bool ng, .int .u64 c, .string d, .slice none 0 0] 25)); clear q0 q1 q2 q3 q4 q5 q6 q8 f8 k0 k1 k2 k3 k4 k5 k6; obtain ⟨q0, q1, q2, q3, q4, q5, q6⟩ := h6.made; have hx := blk_new W5 (.cells #[.int .i64 a, .bool ng, .int .u64 c, .string d, .slice none 0 0] 25); obtain ⟨z0, z1, z2, z3, z4⟩ := gcells5 hx; have HX := Aside0.mk hx; have H6 := Aside0.mk h6; clear hb h5 h6 hx)
    | (go_at_call 33; refine (HLF.out _ _).mono ?_; rintro e W7 ⟨rfl, hb⟩; have h7 := H6.out.step T hb; have hx := (hb.block _ (blk_lt HX.out)).trans HX.out; clear q0 q1 q2 q3 q4 q5 q6 z0 z1 z2 z3 z4; obtain ⟨q0, q1, q2, q3, q4, q5, q6⟩ := h7.made; obtain ⟨z0, z1, z2, z3, z4⟩ := gcells5 hx; have H7 := Aside0.mk h7; clear hb h7 hx)
    | (go_at_call 39; refine (open_calls T g n0 W.heap.size W7 { b with count := b.count + 1 } a ng c d H7.out.st hw HL2.out H7.out.b2).mono ?_; rintro e W8 ⟨rfl, hs8, hk8⟩; have HS8 := Aside0.mk hs8; have HK8 := Aside0.mk hk8; clear hs8 hk8))
  go_ret
  exact ⟨rfl, HS8.out, H7.out.ke.trans HK8.out⟩
end
end Go.Proofs.Ytcgpfclmcajekaa.Bld
