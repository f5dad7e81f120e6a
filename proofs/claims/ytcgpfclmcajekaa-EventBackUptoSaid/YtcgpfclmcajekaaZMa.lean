-- Out of texts of this seat by a program of this session: what the claim does not reach is struck
import Derived.Test.YtcgpfclmcajekaaZBq
namespace Go.Proofs.Ytcgpfclmcajekaa.Bld
open Go Go.RowKit Go.Shelf Go.Proofs.Ytcgpfclmcajekaa.Each Go.Proofs.YtcgpfclmcajekaaW.PrintWords Go.Proofs.YtcgpfclmcajekaaW.PrintLast
set_option linter.unusedVariables false
set_option linter.unusedSimpArgs false
section
variable {S : Type} (T : Mk S)
set_option maxRecDepth 100000 in
set_option maxHeartbeats 4000000 in
theorem may_root_d (one : S → Option Bool) (hone : ∀ x r, one x = some r → ∀ W cs, T.D.K W x cs → Calls Try.prog 32 #[.agg cs.toArray] W fun e W' => e = .returned (.bool r) ∧ Below W.heap.size W W')
    (dep : S → Option Int) (hdep : ∀ x m, dep x = some m → ∀ W cs, T.D.K W x cs → Calls Try.prog 16 #[.agg cs.toArray] W fun e W' => e = .returned (.int .i64 m) ∧ Below W.heap.size W W')
    (g n0 : Nat) (W : World) (b : BS S) (a : Int) (ng : Bool) (c : Int) (d : ByteArray) (m : Int) (hst : St T g n0 W b) (hr : one (rightX T a ng c d) = some true) (hm : dep (T.ev a ng c d) = some m) (hm0 : 0 ≤ m) (hm1 : m ≤ 1048576) (ho : b.open_ = []) (hA : b.depth < m) :
    Calls Try.prog 36 #[.pointer (some ⟨g, 0, none⟩), .agg #[.int .i64 a, .bool ng, .int .u64 c, .string d]] W fun e W' => e = .returned (.int .i64 8) ∧ Below W.heap.size W W' := by
  have h1 := hst.below T (below_alloc (Below.refl W.heap.size W) (.cells #[.int .i64 a, .bool ng, .int .u64 c, .string d] 37))
  have HS1 := Aside0.mk h1
  have HC := Aside0.mk (fun W => right_calls T one hone a ng c d true hr W)
  have HD := Aside0.mk (fun W => hdep _ _ hm W _ (T.D.K_of_M (ev_M T W 0 a ng c d)))
  have HB := Aside0.mk (below_alloc (Below.refl W.heap.size W) (.cells #[.int .i64 a, .bool ng, .int .u64 c, .string d] 37))
  have hw0 : IntKind.i64.wrap (0 + m) = m := by rw [i64_w]; unfold wrap64; omega
  have hw1 : IntKind.i64.wrap m = m := by rw [i64_w]; unfold wrap64; omega
  have hA2 : decide (b.depth < m) = true := decide_eq_true hA
  clear h1 hst hone hdep hr hm
  go_enter Try.func36, Try.ntmps36
  go_wp2_with (first | (go_at_call 16; refine (HD.out _).mono ?_; rintro e W9 ⟨rfl, hb⟩) | (go_at_call 37; refine (HC.out _).mono ?_; rintro e W2 ⟨rfl, hb⟩; have hs2 := (HS1.out.below T hb).below T (below_alloc (Below.refl W2.heap.size W2) (.cells #[.int .i64 a, .bool ng, .int .u64 c, .string d, .slice none 0 0] 25)); obtain ⟨vo, v4, hblk, hS, hbv⟩ := hs2.data; obtain ⟨A0, c0, hvo⟩ := Kd.S_slice hS; rw [ho, List.reverse_nil, List.length_nil] at hvo; subst hvo; have q1 := (blk_cell hblk 1).trans (rfl : _ = some (Value.slice A0 0 c0)); have q8 := (blk_cell hblk 8).trans (rfl : _ = some (Value.int .i64 b.count)); have q9 := (blk_cell hblk 9).trans (rfl : _ = some (Value.int .i64 b.depth)); have hx := blk_new W2 (.cells #[.int .i64 a, .bool ng, .int .u64 c, .string d, .slice none 0 0] 25); obtain ⟨z0, z1, z2, z3, z4⟩ := gcells5 hx; have HBK3 := Aside0.mk (blk_drew hblk); have HB3 := Aside0.mk (HB.out.trans (hb.mono HB.out.size)); clear hb hs2 hblk hS hbv hx))
  first
  | go_region_law (refine call_ 16 #[.agg #[.int .i64 a, .bool ng, .int .u64 c, .string d, .slice none 0 0]] rfl (by simp [Region.wanted]) (by
                     have he := fun args (w : World) => enters_ (P := Try.prog) Try.func16 (by kernel_rfl) rfl args w
                     unfold execOp
                     simp [resolve, Deferred.ofValue, invoke, Act.eval, Act.put, he]) ((HD.out _).mono ?_)
                   rintro e W9 ⟨rfl, hb⟩
                   have hbk := (hb.block _ (blk_lt HBK3.out)).trans HBK3.out
                   have y8 := (blk_cell hbk 8).trans (rfl : _ = some (Value.int .i64 b.count))
                   have y9 := (blk_cell hbk 9).trans (rfl : _ = some (Value.int .i64 b.depth))
                   have HB5 := Aside0.mk hb
                   clear hb hbk)
  | fail
  all_goals
    go_wp2
    go_ret
    have k1 := below_alloc HB3.out (.cells #[.int .i64 a, .bool ng, .int .u64 c, .string d, .slice none 0 0] 25)
    have k2 := k1.trans ((below_drew (Below.refl _ _)).mono k1.size)
    exact ⟨by simp [hA], k2.trans (HB5.out.mono k2.size)⟩
set_option maxRecDepth 100000 in
set_option maxHeartbeats 4000000 in
theorem may_root_c (one : S → Option Bool) (hone : ∀ x r, one x = some r → ∀ W cs, T.D.K W x cs → Calls Try.prog 32 #[.agg cs.toArray] W fun e W' => e = .returned (.bool r) ∧ Below W.heap.size W W')
    (dep : S → Option Int) (hdep : ∀ x m, dep x = some m → ∀ W cs, T.D.K W x cs → Calls Try.prog 16 #[.agg cs.toArray] W fun e W' => e = .returned (.int .i64 m) ∧ Below W.heap.size W W')
    (g n0 : Nat) (W : World) (b : BS S) (a : Int) (ng : Bool) (c : Int) (d : ByteArray) (m : Int) (hst : St T g n0 W b) (hr : one (rightX T a ng c d) = some true) (hm : dep (T.ev a ng c d) = some m) (hm0 : 0 ≤ m) (hm1 : m ≤ 1048576) (ho : b.open_ = []) (hA : ¬ b.depth < m) (hC : 65536 ≤ b.count) :
    Calls Try.prog 36 #[.pointer (some ⟨g, 0, none⟩), .agg #[.int .i64 a, .bool ng, .int .u64 c, .string d]] W fun e W' => e = .returned (.int .i64 8) ∧ Below W.heap.size W W' := by
  have h1 := hst.below T (below_alloc (Below.refl W.heap.size W) (.cells #[.int .i64 a, .bool ng, .int .u64 c, .string d] 37))
  have HS1 := Aside0.mk h1
  have HC := Aside0.mk (fun W => right_calls T one hone a ng c d true hr W)
  have HD := Aside0.mk (fun W => hdep _ _ hm W _ (T.D.K_of_M (ev_M T W 0 a ng c d)))
  have HB := Aside0.mk (below_alloc (Below.refl W.heap.size W) (.cells #[.int .i64 a, .bool ng, .int .u64 c, .string d] 37))
  have hw0 : IntKind.i64.wrap (0 + m) = m := by rw [i64_w]; unfold wrap64; omega
  have hw1 : IntKind.i64.wrap m = m := by rw [i64_w]; unfold wrap64; omega
  have hA2 : decide (b.depth < m) = false := decide_eq_false hA
  have hC2 : decide (65536 ≤ b.count) = true := decide_eq_true hC
  clear h1 hst hone hdep hr hm
  go_enter Try.func36, Try.ntmps36
  go_wp2_with (first | (go_at_call 16; refine (HD.out _).mono ?_; rintro e W9 ⟨rfl, hb⟩) | (go_at_call 37; refine (HC.out _).mono ?_; rintro e W2 ⟨rfl, hb⟩; have hs2 := (HS1.out.below T hb).below T (below_alloc (Below.refl W2.heap.size W2) (.cells #[.int .i64 a, .bool ng, .int .u64 c, .string d, .slice none 0 0] 25)); obtain ⟨vo, v4, hblk, hS, hbv⟩ := hs2.data; obtain ⟨A0, c0, hvo⟩ := Kd.S_slice hS; rw [ho, List.reverse_nil, List.length_nil] at hvo; subst hvo; have q1 := (blk_cell hblk 1).trans (rfl : _ = some (Value.slice A0 0 c0)); have q8 := (blk_cell hblk 8).trans (rfl : _ = some (Value.int .i64 b.count)); have q9 := (blk_cell hblk 9).trans (rfl : _ = some (Value.int .i64 b.depth)); have hx := blk_new W2 (.cells #[.int .i64 a, .bool ng, .int .u64 c, .string d, .slice none 0 0] 25); obtain ⟨z0, z1, z2, z3, z4⟩ := gcells5 hx; have HBK3 := Aside0.mk (blk_drew hblk); have HB3 := Aside0.mk (HB.out.trans (hb.mono HB.out.size)); clear hb hs2 hblk hS hbv hx))
  first
  | go_region_law (refine call_ 16 #[.agg #[.int .i64 a, .bool ng, .int .u64 c, .string d, .slice none 0 0]] rfl (by simp [Region.wanted]) (by
                     have he := fun args (w : World) => enters_ (P := Try.prog) Try.func16 (by kernel_rfl) rfl args w
                     unfold execOp
                     simp [resolve, Deferred.ofValue, invoke, Act.eval, Act.put, he]) ((HD.out _).mono ?_)
                   rintro e W9 ⟨rfl, hb⟩
                   have hbk := (hb.block _ (blk_lt HBK3.out)).trans HBK3.out
                   have y8 := (blk_cell hbk 8).trans (rfl : _ = some (Value.int .i64 b.count))
                   have y9 := (blk_cell hbk 9).trans (rfl : _ = some (Value.int .i64 b.depth))
                   have HB5 := Aside0.mk hb
                   clear hb hbk)
  | fail
  all_goals
    go_wp2
    go_ret
    have k1 := below_alloc HB3.out (.cells #[.int .i64 a, .bool ng, .int .u64 c, .string d, .slice none 0 0] 25)
    have k2 := k1.trans ((below_drew (Below.refl _ _)).mono k1.size)
    exact ⟨by simp [hA, hC], k2.trans (HB5.out.mono k2.size)⟩
set_option maxRecDepth 100000 in
set_option maxHeartbeats 4000000 in
theorem may_root_k (one : S → Option Bool) (hone : ∀ x r, one x = some r → ∀ W cs, T.D.K W x cs → Calls Try.prog 32 #[.agg cs.toArray] W fun e W' => e = .returned (.bool r) ∧ Below W.heap.size W W')
    (dep : S → Option Int) (hdep : ∀ x m, dep x = some m → ∀ W cs, T.D.K W x cs → Calls Try.prog 16 #[.agg cs.toArray] W fun e W' => e = .returned (.int .i64 m) ∧ Below W.heap.size W W')
    (g n0 : Nat) (W : World) (b : BS S) (a : Int) (ng : Bool) (c : Int) (d : ByteArray) (m : Int) (hst : St T g n0 W b) (hr : one (rightX T a ng c d) = some true) (hm : dep (T.ev a ng c d) = some m) (hm0 : 0 ≤ m) (hm1 : m ≤ 1048576) (ho : b.open_ = []) (hA : ¬ b.depth < m) (hC : ¬ 65536 ≤ b.count) :
    Calls Try.prog 36 #[.pointer (some ⟨g, 0, none⟩), .agg #[.int .i64 a, .bool ng, .int .u64 c, .string d]] W fun e W' => e = .returned (.int .i64 0) ∧ Below W.heap.size W W' := by
  have h1 := hst.below T (below_alloc (Below.refl W.heap.size W) (.cells #[.int .i64 a, .bool ng, .int .u64 c, .string d] 37))
  have HS1 := Aside0.mk h1
  have HC := Aside0.mk (fun W => right_calls T one hone a ng c d true hr W)
  have HD := Aside0.mk (fun W => hdep _ _ hm W _ (T.D.K_of_M (ev_M T W 0 a ng c d)))
  have HB := Aside0.mk (below_alloc (Below.refl W.heap.size W) (.cells #[.int .i64 a, .bool ng, .int .u64 c, .string d] 37))
  have hw0 : IntKind.i64.wrap (0 + m) = m := by rw [i64_w]; unfold wrap64; omega
  have hw1 : IntKind.i64.wrap m = m := by rw [i64_w]; unfold wrap64; omega
  have hA2 : decide (b.depth < m) = false := decide_eq_false hA
  have hC2 : decide (65536 ≤ b.count) = false := decide_eq_false hC
  clear h1 hst hone hdep hr hm
  go_enter Try.func36, Try.ntmps36
  go_wp2_with (first | (go_at_call 16; refine (HD.out _).mono ?_; rintro e W9 ⟨rfl, hb⟩) | (go_at_call 37; refine (HC.out _).mono ?_; rintro e W2 ⟨rfl, hb⟩; have hs2 := (HS1.out.below T hb).below T (below_alloc (Below.refl W2.heap.size W2) (.cells #[.int .i64 a, .bool ng, .int .u64 c, .string d, .slice none 0 0] 25)); obtain ⟨vo, v4, hblk, hS, hbv⟩ := hs2.data; obtain ⟨A0, c0, hvo⟩ := Kd.S_slice hS; rw [ho, List.reverse_nil, List.length_nil] at hvo; subst hvo; have q1 := (blk_cell hblk 1).trans (rfl : _ = some (Value.slice A0 0 c0)); have q8 := (blk_cell hblk 8).trans (rfl : _ = some (Value.int .i64 b.count)); have q9 := (blk_cell hblk 9).trans (rfl : _ = some (Value.int .i64 b.depth)); have hx := blk_new W2 (.cells #[.int .i64 a, .bool ng, .int .u64 c, .string d, .slice none 0 0] 25); obtain ⟨z0, z1, z2, z3, z4⟩ := gcells5 hx; have HBK3 := Aside0.mk (blk_drew hblk); have HB3 := Aside0.mk (HB.out.trans (hb.mono HB.out.size)); clear hb hs2 hblk hS hbv hx))
  first
  | go_region_law (refine call_ 16 #[.agg #[.int .i64 a, .bool ng, .int .u64 c, .string d, .slice none 0 0]] rfl (by simp [Region.wanted]) (by
                     have he := fun args (w : World) => enters_ (P := Try.prog) Try.func16 (by kernel_rfl) rfl args w
                     unfold execOp
                     simp [resolve, Deferred.ofValue, invoke, Act.eval, Act.put, he]) ((HD.out _).mono ?_)
                   rintro e W9 ⟨rfl, hb⟩
                   have hbk := (hb.block _ (blk_lt HBK3.out)).trans HBK3.out
                   have y8 := (blk_cell hbk 8).trans (rfl : _ = some (Value.int .i64 b.count))
                   have y9 := (blk_cell hbk 9).trans (rfl : _ = some (Value.int .i64 b.depth))
                   have HB5 := Aside0.mk hb
                   clear hb hbk)
  | fail
  all_goals
    go_wp2
    go_ret
    have k1 := below_alloc HB3.out (.cells #[.int .i64 a, .bool ng, .int .u64 c, .string d, .slice none 0 0] 25)
    have k2 := k1.trans ((below_drew (Below.refl _ _)).mono k1.size)
    exact ⟨by simp [hA, hC], k2.trans (HB5.out.mono k2.size)⟩
end
end Go.Proofs.Ytcgpfclmcajekaa.Bld
