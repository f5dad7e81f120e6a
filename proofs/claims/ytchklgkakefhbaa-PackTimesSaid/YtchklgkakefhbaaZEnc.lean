-- Out of texts of this seat by a program of this session: what the claim does not reach is struck
import Derived.Test.YtchklgkakefhbaaZIt
namespace Go.Proofs.Ytchklgkakefhbaa.Wr
open Go Go.RowKit Go.Shelf Go.Proofs.Ytchklgkakefhbaa.Each Go.Proofs.YtchklgkakefhbaaW.PrintWords Go.Proofs.YtchklgkakefhbaaW.PrintLast
set_option linter.unusedVariables false
set_option linter.unusedSimpArgs false
section
variable {S : Type} (T : Tree S)
set_option maxRecDepth 100000 in
set_option maxHeartbeats 8000000 in
theorem encode_calls (ok : S → Prop) (hok : ∀ x, ok x → (0 ≤ T.n x ∧ T.n x ≤ 18446744073709551615 ∧ (T.s x).size ≤ 1099511627776) ∧ ∀ y ∈ T.kids x, ok y)
    (x : S) (cs : List Value) (w : World) (m : Nat) (hm : T.sz x < m) (hx : ok x) (hK : T.D.K w x cs) (c : Int) (sb : Bool) (hlen : (itm T m x).length ≤ 1099511627700)
    (hchk : ∀ W, T.D.K W x cs → Calls Try.prog 14 #[.agg cs.toArray] W fun e W' => e = .returned (.int .i64 c) ∧ Below W.heap.size W W')
    (hsay : c = 0 → ∀ W, T.D.K W x cs → Calls Try.prog 15 #[.agg cs.toArray] W fun e W' => e = .returned (.bool sb) ∧ Below W.heap.size W W') :
    Calls Try.prog 6 #[.agg cs.toArray] w fun e w' => ∃ v, e = .returned (.tuple #[v, .int .i64 (if c = 0 then (if sb = true then 0 else 10) else c)]) ∧ BR w' w.heap.size v (if c = 0 then (if sb = true then itm T m x else []) else []) ∧ Below w.heap.size w w' := by
  have hK' := hK
  obtain ⟨A4, c4, rfl, hc4, g4⟩ := T.openK hK
  obtain ⟨W1, hW1⟩ : ∃ W1, w.alloc (.cells #[.int .i64 (T.k x), .bool (T.neg x), .int .u64 (T.n x), .string (T.s x), .slice A4 (T.kids x).length c4] 25 (0, 0)) = W1 := ⟨_, rfl⟩
  have hb1 : Below w.heap.size w W1 := by rw [← hW1]; exact below_alloc (Below.refl _ _) _
  have hx1 : W1.heap[w.heap.size]? = some (.cells #[.int .i64 (T.k x), .bool (T.neg x), .int .u64 (T.n x), .string (T.s x), .slice A4 (T.kids x).length c4] 25 (0, 0)) := by rw [← hW1]; exact World.alloc_heap_new w _
  obtain ⟨b0, b1, b2, b3, b4⟩ := cells5 hx1
  have HCHK := Aside0.mk (hchk W1 (T.D.K_below hb1 hK'))
  have HX := Aside0.mk hx1
  have HB := Aside0.mk hb1
  have HK := Aside0.mk hK'
  have HLEN := Aside0.mk hlen
  have HOK := Aside0.mk hok
  clear hchk hx1 hb1 hK hK' g4 hlen hok
  by_cases h0 : c = 0
  · subst h0
    have HSAY := Aside0.mk (hsay rfl)
    clear hsay
    rw [if_pos rfl, if_pos rfl]
    cases sb with
    | false =>
      rw [if_neg (by simp), if_neg (by simp)]
      go_enter Try.func6, Try.ntmps6
      go_wp2_with (first
        | (go_at_call 14; refine HCHK.out.mono ?_; rintro e W2 ⟨rfl, hb2⟩; have HB2 := Aside0.mk (HB.out.trans (hb2.mono HB.out.size)); obtain ⟨d0, d1, d2, d3, d4⟩ := cells5 ((hb2.block _ (blk_lt HX.out)).trans HX.out); clear hb2)
        | (go_at_call 15; refine (HSAY.out W2 (T.D.K_below HB2.out HK.out)).mono ?_; rintro e W3 ⟨rfl, hb3⟩; have HB3 := Aside0.mk (HB2.out.trans (hb3.mono HB2.out.size)); clear hb3))
      go_ret2
      exact ⟨_, rfl, Kd.R_nil _ _ _ _ _, HB3.out⟩
    | true =>
      rw [if_pos rfl, if_pos rfl]
      go_enter Try.func6, Try.ntmps6
      go_wp2_with (first
        | (go_at_call 14; refine HCHK.out.mono ?_; rintro e W2 ⟨rfl, hb2⟩; have HB2 := Aside0.mk (HB.out.trans (hb2.mono HB.out.size)); have HX2 := Aside0.mk ((hb2.block _ (blk_lt HX.out)).trans HX.out); obtain ⟨d0, d1, d2, d3, d4⟩ := cells5 HX2.out; clear hb2)
        | (go_at_call 15; refine (HSAY.out W2 (T.D.K_below HB2.out HK.out)).mono ?_; rintro e W3 ⟨rfl, hb3⟩; have HB3 := Aside0.mk (HB2.out.trans (hb3.mono HB2.out.size)); have HX3 := Aside0.mk ((hb3.block _ (blk_lt HX2.out)).trans HX2.out); obtain ⟨e0, e1, e2, e3, e4⟩ := cells5 (blk_alloc HX3.out (.cells #[.slice none 0 0] 46)); have HST := Aside0.mk (show St W3.heap.size w.heap.size (W3.alloc (.cells #[.slice none 0 0] 46)) [] from ⟨⟨_, World.alloc_heap_new W3 _, Kd.R_nil _ _ _ _ _⟩, Nat.le_trans HB3.out.size (by rw [World.size_alloc]; omega)⟩); have HB4 := Aside0.mk (below_alloc HB3.out (.cells #[.slice none 0 0] 46)); clear hb3)
        | (go_at_call 16; refine (item_calls T W3.heap.size w.heap.size HB3.out.size w (Nat.le_refl _) ok HOK.out m x _ _ [] hm hx (by simpa using HLEN.out) HK.out HB4.out HST.out).mono ?_; rintro e W5 ⟨rfl, hs5, hk5⟩; obtain ⟨v5, hv5, hr5⟩ := hs5.row; obtain ⟨A5, n5, c5, rfl⟩ := slice_of hr5; have hz5 := (blk_cell hv5 0).trans (rfl : _ = some (Value.slice A5 n5 c5)); have HR5 := Aside0.mk hr5; have HB5 := Aside0.mk (HB4.out.trans hk5.below); clear hs5 hk5 hv5 hr5))
      go_ret2
      refine ⟨_, rfl, ?_, HB5.out⟩
      have h9 := HR5.out
      simpa using h9
  · clear hsay
    rw [if_neg h0, if_neg h0]
    have hq : (c == 0) = false := beq_eq_false_iff_ne.mpr h0
    have hq' : (c != 0) = true := bne_iff_ne.mpr h0
    go_enter Try.func6, Try.ntmps6
    go_wp2_with (go_at_call 14; refine HCHK.out.mono ?_; rintro e W2 ⟨rfl, hb2⟩; have HB2 := Aside0.mk (HB.out.trans (hb2.mono HB.out.size)); clear hb2)
    go_ret2
    exact ⟨_, rfl, Kd.R_nil _ _ _ _ _, HB2.out⟩
end
end Go.Proofs.Ytchklgkakefhbaa.Wr
