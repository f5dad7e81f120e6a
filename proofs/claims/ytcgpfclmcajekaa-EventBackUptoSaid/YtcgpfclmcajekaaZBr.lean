-- Out of texts of this seat by a program of this session: what the claim does not reach is struck
import Derived.Test.YtcgpfclmcajekaaZBp
namespace Go.Proofs.Ytcgpfclmcajekaa.Bld
open Go Go.RowKit Go.Shelf Go.Proofs.Ytcgpfclmcajekaa.Each Go.Proofs.YtcgpfclmcajekaaW.PrintWords Go.Proofs.YtcgpfclmcajekaaW.PrintLast
set_option linter.unusedVariables false
set_option linter.unusedSimpArgs false
section
variable {S : Type} (T : Mk S)
theorem ev_M (w : World) (n0 : Nat) (a : Int) (b : Bool) (c : Int) (d : ByteArray) : T.D.M w n0 (fun _ => False) (T.ev a b c d) [.int .i64 a, .bool b, .int .u64 c, .string d, .slice none 0 0] := by
  have h := T.mkM w n0 (fun _ => False) (T.ev a b c d) (v4 := .slice none 0 0) (by rw [T.ev_kids]; exact Kd.R_nil _ _ _ _ _)
  rw [T.ev_k, T.ev_neg, T.ev_n, T.ev_s] at h
  exact h
theorem R_one {W : World} {n0 : Nat} {ok okp : Nat → Prop} {x : S} {cs : List Value} (hn : n0 ≤ W.heap.size) (hM : T.D.M W n0 okp x cs) (hokp : ∀ k, okp k → ok k ∧ k < W.heap.size) (hfresh : ok W.heap.size) :
    T.D.R 25 (W.alloc (.cells cs.toArray 25)) n0 ok (.slice (some ⟨W.heap.size, 0, none⟩) 1 1) [x] := by
  have hl : cs.length = 5 := (T.D.K_len (T.D.K_of_M hM)).trans T.size5
  have ho := World.ownsRow_lit (base := n0) (e := 25) (size := 5) W cs.toArray 1 hn (by decide) (by simp [hl])
  refine ⟨fun k hk => ?_, cs, ?_, ?_⟩
  · have : W.heap.size = k := by simpa [Value.ownBlock] using hk
    subst this; exact hfresh
  · rw [T.size5]; simpa using ho
  · refine ⟨by rw [T.size5, hl]; rfl, fun j p hj => ?_⟩
    rcases j with _ | j
    · have hp : p = x := by simpa using hj.symm
      subst hp
      rw [Nat.zero_mul, List.drop_zero, T.size5, List.take_of_length_le (by omega)]
      refine T.D.M_mono (fun k hk => ?_) (Kd.M_alloc hM _)
      refine ⟨(hokp k hk).1, fun e => ?_⟩
      have h2 := (hokp k hk).2
      have : k = W.heap.size := by simpa [Value.ownBlock] using e
      omega
    · simp at hj
theorem info25r : (Try.prog.info? 25).map (fun i => (i.zero, i.size, i.bytes)) = some (some (.agg #[.int .i64 0, .bool false, .int .u64 0, .string ⟨#[]⟩, .slice none 0 0]), 5, 64) := by kernel_rfl
theorem make_one (W : World) : (Instr.makeSlice 23 (.int .i64 1) (.int .i64 1)).run Try.prog W = .ok (.slice (some ⟨W.heap.size, 0, none⟩) 1 1) (W.alloc (.cells #[.int .i64 0, .bool false, .int .u64 0, .string ⟨#[]⟩, .slice none 0 0] 25)) := by
  obtain ⟨i0, hi, hzz⟩ := Option.map_eq_some_iff.1 info25r
  simp only [Prod.mk.injEq] at hzz
  obtain ⟨hz0, hz1, hz2⟩ := hzz
  have hr := run_make (P := Try.prog) W 23 25 i0 _ Try.underlying23 hi hz0 .i64 .i64 1 1 (by omega) (by omega) (by rw [hz2]; decide) (by omega)
  have hm : madeCells (Value.agg #[.int .i64 0, .bool false, .int .u64 0, .string ⟨#[]⟩, .slice none 0 0]).cells (Int.toNat 1 * 5) = #[.int .i64 0, .bool false, .int .u64 0, .string ⟨#[]⟩, .slice none 0 0] := by kernel_rfl
  rw [hr, hz1, hm]
  rfl
def rightX (a : Int) (b : Bool) (c : Int) (d : ByteArray) : S := if a = 13 then T.push (T.ev a b c d) T.z else T.ev a b c d
set_option maxRecDepth 100000 in
set_option maxHeartbeats 4000000 in
theorem right_calls (one : S → Option Bool) (hone : ∀ x r, one x = some r → ∀ W cs, T.D.K W x cs → Calls Try.prog 32 #[.agg cs.toArray] W fun e W' => e = .returned (.bool r) ∧ Below W.heap.size W W')
    (a : Int) (b : Bool) (c : Int) (d : ByteArray) (r : Bool) (hr : one (rightX T a b c d) = some r) (W : World) :
    Calls Try.prog 37 #[.agg #[.int .i64 a, .bool b, .int .u64 c, .string d]] W fun e W' => e = .returned (.tuple #[.agg #[.int .i64 a, .bool b, .int .u64 c, .string d, .slice none 0 0], .bool r]) ∧ Below W.heap.size W W' := by
  by_cases ha : a = 13
  · subst ha
    rw [rightX, if_pos rfl] at hr
    have km := make_one (((W.alloc (.cells #[.int .i64 13, .bool b, .int .u64 c, .string d] 37)).alloc (.cells #[.int .i64 0, .bool false, .int .u64 0, .string ⟨#[]⟩, .slice none 0 0] 25)).alloc (.cells #[.int .i64 13, .bool b, .int .u64 c, .string d, .slice none 0 0] 25))
    simp only [World.size_alloc] at km
    obtain ⟨W3, hW3⟩ : ∃ W3, ((W.alloc (.cells #[.int .i64 13, .bool b, .int .u64 c, .string d] 37)).alloc (.cells #[.int .i64 0, .bool false, .int .u64 0, .string ⟨#[]⟩, .slice none 0 0] 25)).alloc (.cells #[.int .i64 13, .bool b, .int .u64 c, .string d, .slice (some ⟨W.heap.size + 1 + 1 + 1, 0, none⟩) 1 1] 25) = W3 := ⟨_, rfl⟩
    have hs3 : W3.heap.size = W.heap.size + 1 + 1 + 1 := by rw [← hW3]; simp only [World.size_alloc]
    have hx2 : W3.heap[W.heap.size + 1 + 1]? = some (.cells #[.int .i64 13, .bool b, .int .u64 c, .string d, .slice (some ⟨W.heap.size + 1 + 1 + 1, 0, none⟩) 1 1] 25 (0, 0)) := by
      rw [← hW3, show W.heap.size + 1 + 1 = ((W.alloc (.cells #[.int .i64 13, .bool b, .int .u64 c, .string d] 37)).alloc (.cells #[.int .i64 0, .bool false, .int .u64 0, .string ⟨#[]⟩, .slice none 0 0] 25)).heap.size by simp only [World.size_alloc]]
      exact blk_new _ _
    have hx1 : W3.heap[W.heap.size + 1]? = some (.cells #[.int .i64 0, .bool false, .int .u64 0, .string ⟨#[]⟩, .slice none 0 0] 25 (0, 0)) := by
      rw [← hW3, show W.heap.size + 1 = (W.alloc (.cells #[.int .i64 13, .bool b, .int .u64 c, .string d] 37)).heap.size by simp only [World.size_alloc]]
      exact blk_alloc (blk_new _ _) _
    have hb3 : Below W.heap.size W W3 := by rw [← hW3]; exact below_alloc (below_alloc (below_alloc (Below.refl _ _) _) _) _
    have hR := R_one T (W := W3) (n0 := 0) (ok := fun k => k = W3.heap.size) (Nat.zero_le _) (T.zM W3 0) (fun _ h => h.elim) rfl
    have hy2 := blk_alloc hx2 (.cells #[.int .i64 0, .bool false, .int .u64 0, .string ⟨#[]⟩, .slice none 0 0] 25)
    have hy1 := blk_alloc hx1 (.cells #[.int .i64 0, .bool false, .int .u64 0, .string ⟨#[]⟩, .slice none 0 0] 25)
    have hm := T.mkM _ 0 _ (T.push (T.ev 13 b c d) T.z) (by rw [T.push_kids, T.ev_kids]; exact hR)
    rw [T.push_k, T.push_neg, T.push_n, T.push_s, T.ev_k, T.ev_neg, T.ev_n, T.ev_s] at hm
    have hc := hone _ _ hr _ _ (T.D.K_of_M hm)
    have hbb := below_alloc hb3 (.cells #[.int .i64 0, .bool false, .int .u64 0, .string ⟨#[]⟩, .slice none 0 0] 25)
    rw [hs3, ← hW3] at hc
    rw [← hW3] at hy1 hy2 hbb
    have HC := Aside0.mk hc
    have HX1 := Aside0.mk hy1
    have HX2 := Aside0.mk hy2
    have HB3 := Aside0.mk hbb
    clear hone hr hx1 hx2 hb3 hR hm hc hy2 hy1 hbb hs3 hW3 W3
    go_enter Try.func37, Try.ntmps37
    go_wp2_with (go_at_call 32; refine HC.out.mono ?_; rintro e W2 ⟨rfl, hb⟩; have hy1 := (hb.block _ (blk_lt HX1.out)).trans HX1.out; have hy2 := (hb.block _ (blk_lt HX2.out)).trans HX2.out; obtain ⟨c0, c1, c2, c3, c4⟩ := gcells5 hy1; obtain ⟨d0, d1, d2, d3, d4⟩ := gcells5 hy2; have f4' := blk_frozen hy2 4; have hz1 := (Below.heap_setCell W2 ⟨W.heap.size + 1 + 1, 4, none⟩ (.slice none 0 0) (W.heap.size + 1) (by show W.heap.size + 1 ≠ W.heap.size + 1 + 1; omega)).trans hy1; obtain ⟨q0, q1, q2, q3, q4⟩ := gcells5 hz1; have f0 := blk_frozen hz1 0; have f1 := blk_frozen hz1 1; have f2 := blk_frozen hz1 2; have f3 := blk_frozen hz1 3; have f4 := blk_frozen hz1 4; have HY1 := Aside0.mk hz1; have HB := Aside0.mk ((HB3.out.trans (hb.mono HB3.out.size)).setCell (p := ⟨W.heap.size + 1 + 1, 4, none⟩) (by show W.heap.size ≤ W.heap.size + 1 + 1; omega) (.slice none 0 0)); clear hb hy1 hy2 hz1)
    have h5 := blk_set (blk_set (blk_set (blk_set (blk_set HY1.out 0 (.int .i64 13)) 1 (.bool b)) 2 (.int .u64 c)) 3 (.string d)) 4 (.slice none 0 0)
    simp only [List.setIfInBounds_toArray, List.set_cons_zero, List.set_cons_succ] at h5
    refine bodyPost_ret (results_ct rfl _ _ (W.heap.size + 1) 25 _ (0, 0) _ rfl h5 Try.underlying25 rfl (by kernel_rfl)) rfl ⟨rfl, ?_⟩
    exact ((((HB.out.setCell (p := ⟨W.heap.size + 1, 0, none⟩) (Nat.le_succ _) _).setCell (p := ⟨W.heap.size + 1, 1, none⟩) (Nat.le_succ _) _).setCell (p := ⟨W.heap.size + 1, 2, none⟩) (Nat.le_succ _) _).setCell (p := ⟨W.heap.size + 1, 3, none⟩) (Nat.le_succ _) _).setCell (p := ⟨W.heap.size + 1, 4, none⟩) (Nat.le_succ _) _
  · have hq : (a != 13) = true := by simp [ha]
    rw [rightX, if_neg ha] at hr
    have HO := Aside0.mk (hone _ _ hr)
    obtain ⟨W3, hW3⟩ : ∃ W3, ((W.alloc (.cells #[.int .i64 a, .bool b, .int .u64 c, .string d] 37)).alloc (.cells #[.int .i64 0, .bool false, .int .u64 0, .string ⟨#[]⟩, .slice none 0 0] 25)).alloc (.cells #[.int .i64 a, .bool b, .int .u64 c, .string d, .slice none 0 0] 25) = W3 := ⟨_, rfl⟩
    have hx2 : W3.heap[W.heap.size + 1 + 1]? = some (.cells #[.int .i64 a, .bool b, .int .u64 c, .string d, .slice none 0 0] 25 (0, 0)) := by
      rw [← hW3, show W.heap.size + 1 + 1 = ((W.alloc (.cells #[.int .i64 a, .bool b, .int .u64 c, .string d] 37)).alloc (.cells #[.int .i64 0, .bool false, .int .u64 0, .string ⟨#[]⟩, .slice none 0 0] 25)).heap.size by simp only [World.size_alloc]]
      exact blk_new _ _
    have hx1 : W3.heap[W.heap.size + 1]? = some (.cells #[.int .i64 0, .bool false, .int .u64 0, .string ⟨#[]⟩, .slice none 0 0] 25 (0, 0)) := by
      rw [← hW3, show W.heap.size + 1 = (W.alloc (.cells #[.int .i64 a, .bool b, .int .u64 c, .string d] 37)).heap.size by simp only [World.size_alloc]]
      exact blk_alloc (blk_new _ _) _
    have hb3 : Below W.heap.size W W3 := by rw [← hW3]; exact below_alloc (below_alloc (below_alloc (Below.refl _ _) _) _) _
    obtain ⟨b0, b1, b2, b3, b4⟩ := gcells5 hx2
    have HB2 := Aside0.mk hx2
    have HC := Aside0.mk (HO.out W3.drew _ (T.D.K_of_M (ev_M T W3.drew 0 a b c d)))
    have HX1 := Aside0.mk (blk_drew hx1)
    have HX2 := Aside0.mk (blk_drew hx2)
    have HB3 := Aside0.mk (hb3.trans ((below_drew (Below.refl _ _)).mono hb3.size))
    have HW3 := Aside0.mk hW3
    clear hone hr HO hx1 hx2 hb3 hW3 b0 b1 b2 b3 b4
    go_enter Try.func37, Try.ntmps37
    go_wp2
    rw [HW3.out]
    obtain ⟨b0, b1, b2, b3, b4⟩ := gcells5 HB2.out
    go_region_law (refine call_ 32 #[.agg #[.int .i64 a, .bool b, .int .u64 c, .string d, .slice none 0 0]] rfl rfl (by
                have he := fun args (w : World) => enters_ (P := Try.prog) Try.func32 (by kernel_rfl) rfl args w
                unfold execOp
                simp [resolve, Deferred.ofValue, invoke, Act.eval, Act.put, he]) (HC.out.mono ?_)
                   rintro e W2 ⟨rfl, hb⟩
                   have hy1 := (hb.block _ (blk_lt HX1.out)).trans HX1.out
                   have hy2 := (hb.block _ (blk_lt HX2.out)).trans HX2.out
                   obtain ⟨c0, c1, c2, c3, c4⟩ := gcells5 hy1
                   obtain ⟨d0, d1, d2, d3, d4⟩ := gcells5 hy2
                   have f0 := blk_frozen hy1 0
                   have f1 := blk_frozen hy1 1
                   have f2 := blk_frozen hy1 2
                   have f3 := blk_frozen hy1 3
                   have f4 := blk_frozen hy1 4
                   have HY1 := Aside0.mk hy1
                   have HB := Aside0.mk (HB3.out.trans (hb.mono HB3.out.size))
                   clear hb hy1 hy2)
    all_goals
      go_wp2
      have h5 := blk_set (blk_set (blk_set (blk_set (blk_set HY1.out 0 (.int .i64 a)) 1 (.bool b)) 2 (.int .u64 c)) 3 (.string d)) 4 (.slice none 0 0)
      simp only [List.setIfInBounds_toArray, List.set_cons_zero, List.set_cons_succ] at h5
      refine bodyPost_ret (results_ct rfl _ _ (W.heap.size + 1) 25 _ (0, 0) _ rfl h5 Try.underlying25 rfl (by kernel_rfl)) rfl ⟨rfl, ?_⟩
      exact ((((HB.out.setCell (p := ⟨W.heap.size + 1, 0, none⟩) (Nat.le_succ _) _).setCell (p := ⟨W.heap.size + 1, 1, none⟩) (Nat.le_succ _) _).setCell (p := ⟨W.heap.size + 1, 2, none⟩) (Nat.le_succ _) _).setCell (p := ⟨W.heap.size + 1, 3, none⟩) (Nat.le_succ _) _).setCell (p := ⟨W.heap.size + 1, 4, none⟩) (Nat.le_succ _) _
end
end Go.Proofs.Ytcgpfclmcajekaa.Bld
