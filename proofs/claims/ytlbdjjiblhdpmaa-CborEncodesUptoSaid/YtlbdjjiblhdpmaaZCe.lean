-- Out of texts of this seat by a program of this session: what the claim does not reach is struck
import Derived.Test.YtlbdjjiblhdpmaaZCi
namespace Go.Proofs.Ytlbdjjiblhdpmaa.Cw
open Go Go.RowKit Go.Shelf Go.Proofs.Ytlbdjjiblhdpmaa.Each Go.Proofs.YtlbdjjiblhdpmaaW.PrintWords Go.Proofs.YtlbdjjiblhdpmaaW.PrintLast
set_option linter.unusedVariables false
set_option linter.unusedSimpArgs false
section
variable {S : Type} (T : Tree S) (o : Bool) (i : Int) (s : Bool)
set_option maxRecDepth 100000 in
set_option maxHeartbeats 8000000 in
theorem encode_calls (ok : S → Prop) (hok : ∀ x, ok x → (0 ≤ T.n x ∧ T.n x ≤ 18446744073709551615 ∧ (T.k x = 13 → 0 < (T.kids x).length)) ∧ ∀ y ∈ T.kids x, ok y)
    (x : S) (cs : List Value) (w : World) (m : Nat) (hm : T.sz x < m) (c : Int) (sb : Bool) (hx : c = 0 → sb = true → ok x) (hK : T.D.K w x cs) (hlen : (itmC T o m x).length ≤ 1099511627600)
    (hchk : ∀ W, T.D.K W x cs → Calls Try.prog 9 #[.agg cs.toArray] W fun e W' => e = .returned (.int .i64 c) ∧ Below W.heap.size W W')
    (hsay : c = 0 → ∀ W, T.D.K W x cs → Calls Try.prog 10 #[.agg cs.toArray] W fun e W' => e = .returned (.bool sb) ∧ Below W.heap.size W W') :
    Calls Try.prog 6 #[.agg cs.toArray, .agg #[.bool o, .int .i64 i, .bool s]] w fun e w' => ∃ v, e = .returned (.tuple #[v, .int .i64 (if c = 0 then (if sb = true then 0 else 10) else c)]) ∧ BR w' w.heap.size v (if c = 0 then (if sb = true then itmC T o m x else []) else []) ∧ Below w.heap.size w w' := by
  have hK' := hK
  obtain ⟨A4, c4, rfl, hc4, g4⟩ := T.openK hK
  obtain ⟨W0, hW0⟩ : ∃ W0, w.alloc (.cells #[.int .i64 (T.k x), .bool (T.neg x), .int .u64 (T.n x), .string (T.s x), .slice A4 (T.kids x).length c4] 25 (0, 0)) = W0 := ⟨_, rfl⟩
  have hb0 : Below w.heap.size w W0 := by rw [← hW0]; exact below_alloc (Below.refl _ _) _
  have hx0 : W0.heap[w.heap.size]? = some (.cells #[.int .i64 (T.k x), .bool (T.neg x), .int .u64 (T.n x), .string (T.s x), .slice A4 (T.kids x).length c4] 25 (0, 0)) := by rw [← hW0]; exact World.alloc_heap_new w _
  obtain ⟨W1, hW1⟩ : ∃ W1, W0.alloc (.cells #[.bool o, .int .i64 i, .bool s] 27 (0, 0)) = W1 := ⟨_, rfl⟩
  have hb1 : Below w.heap.size w W1 := by rw [← hW1]; exact below_alloc hb0 _
  have hx1 : W1.heap[w.heap.size]? = some (.cells #[.int .i64 (T.k x), .bool (T.neg x), .int .u64 (T.n x), .string (T.s x), .slice A4 (T.kids x).length c4] 25 (0, 0)) := by rw [← hW1]; exact blk_alloc hx0 _
  have ho1 : W1.heap[W0.heap.size]? = some (.cells #[.bool o, .int .i64 i, .bool s] 27 (0, 0)) := by rw [← hW1]; exact World.alloc_heap_new W0 _
  have hz0 : W0.heap.size = w.heap.size + 1 := by rw [← hW0, World.size_alloc]
  obtain ⟨b0, b1, b2, b3, b4⟩ := cells5 hx1
  have HCHK := Aside0.mk (hchk W1 (T.D.K_below hb1 hK'))
  have HX := Aside0.mk hx1
  have HO := Aside0.mk ho1
  have HB := Aside0.mk hb1
  have HK := Aside0.mk hK'
  have HLEN := Aside0.mk hlen
  have HOK := Aside0.mk hok
  clear hchk hx1 hb1 hK hK' g4 hlen hok hx0 hb0 ho1 hz0
  by_cases h0 : c = 0
  · subst h0
    have HSAY := Aside0.mk (hsay rfl)
    clear hsay
    rw [if_pos rfl, if_pos rfl]
    cases sb with
    | false =>
      rw [if_neg (by simp), if_neg (by simp)]
      clear hx
      go_enter Try.func6, Try.ntmps6
      go_wp2_with (first
        | (go_at_call 9; refine HCHK.out.mono ?_; rintro e W2 ⟨rfl, hb2⟩; have HB2 := Aside0.mk (HB.out.trans (hb2.mono HB.out.size)); obtain ⟨d0, d1, d2, d3, d4⟩ := cells5 ((hb2.block _ (blk_lt HX.out)).trans HX.out); clear hb2)
        | (go_at_call 10; refine (HSAY.out W2 (T.D.K_below HB2.out HK.out)).mono ?_; rintro e W3 ⟨rfl, hb3⟩; have HB3 := Aside0.mk (HB2.out.trans (hb3.mono HB2.out.size)); clear hb3))
      go_ret2
      exact ⟨_, rfl, Kd.R_nil _ _ _ _ _, HB3.out⟩
    | true =>
      have HXO := Aside0.mk (hx rfl rfl)
      clear hx
      rw [if_pos rfl, if_pos rfl]
      go_enter Try.func6, Try.ntmps6
      go_wp2_with (first
        | (go_at_call 9; refine HCHK.out.mono ?_; rintro e W2 ⟨rfl, hb2⟩; have HB2 := Aside0.mk (HB.out.trans (hb2.mono HB.out.size)); have HX2 := Aside0.mk ((hb2.block _ (blk_lt HX.out)).trans HX.out); have HO2 := Aside0.mk ((hb2.block _ (blk_lt HO.out)).trans HO.out); obtain ⟨d0, d1, d2, d3, d4⟩ := cells5 HX2.out; clear hb2)
        | (go_at_call 10; refine (HSAY.out W2 (T.D.K_below HB2.out HK.out)).mono ?_; rintro e W3 ⟨rfl, hb3⟩; have HB3 := Aside0.mk (HB2.out.trans (hb3.mono HB2.out.size)); have HX3 := Aside0.mk ((hb3.block _ (blk_lt HX2.out)).trans HX2.out); have ho3 := (hb3.block _ (blk_lt HO2.out)).trans HO2.out; have p0 := (blk_cell ho3 0).trans (rfl : _ = some (Value.bool o)); have p1 := (blk_cell ho3 1).trans (rfl : _ = some (Value.int .i64 i)); have p2 := (blk_cell ho3 2).trans (rfl : _ = some (Value.bool s)); obtain ⟨e0, e1, e2, e3, e4⟩ := cells5 (blk_alloc HX3.out (.cells (wb (.slice none 0 0) o i s) 43)); have HST := Aside0.mk (show St o i s W3.heap.size w.heap.size (W3.alloc (.cells (wb (.slice none 0 0) o i s) 43)) [] from ⟨⟨_, World.alloc_heap_new W3 _, Kd.R_nil _ _ _ _ _⟩, Nat.le_trans HB3.out.size (by rw [World.size_alloc]; omega)⟩); have HB4 := Aside0.mk (below_alloc HB3.out (.cells (wb (.slice none 0 0) o i s) 43)); clear hb3 ho3)
        | (go_at_call 11; go_loud (refine (item_calls T o i s W3.heap.size w.heap.size HB3.out.size w (Nat.le_refl _) ok HOK.out m x _ _ [] hm HXO.out (by simpa using HLEN.out) HK.out HB4.out HST.out).mono ?_); rintro e W5 ⟨rfl, hs5, hk5⟩; obtain ⟨v5, hv5, hr5⟩ := hs5.row; obtain ⟨A5, n5, c5, rfl⟩ := slice_of hr5; have hz5 := (blk_cell hv5 0).trans (rfl : _ = some (Value.slice A5 n5 c5)); have HR5 := Aside0.mk hr5; have HB5 := Aside0.mk (HB4.out.trans hk5.below); clear hs5 hk5 hv5 hr5))
      go_ret2
      refine ⟨_, rfl, ?_, HB5.out⟩
      have h9 := HR5.out
      simpa using h9
  · clear hsay hx
    rw [if_neg h0, if_neg h0]
    have hq : (c == 0) = false := beq_eq_false_iff_ne.mpr h0
    have hq' : (c != 0) = true := bne_iff_ne.mpr h0
    go_enter Try.func6, Try.ntmps6
    go_wp2_with (go_at_call 9; refine HCHK.out.mono ?_; rintro e W2 ⟨rfl, hb2⟩; have HB2 := Aside0.mk (HB.out.trans (hb2.mono HB.out.size)); clear hb2)
    go_ret2
    exact ⟨_, rfl, Kd.R_nil _ _ _ _ _, HB2.out⟩
end
end Go.Proofs.Ytlbdjjiblhdpmaa.Cw
