-- Written by a program of this session out of the kit's print (print.py, its switches or its text changed): not the kit's own print
import Derived.Test.YtjefhpbliihonaaDoorPFbitsWholex0
import Derived.Test.YtjefhpbliihonaaDoorPFbitsWholex1
import Derived.Test.YtjefhpbliihonaaDoorPFbitsWholex3
import Derived.Test.YtjefhpbliihonaaDoorPFbitsWholex5
namespace Go.Proofs.YtjefhpbliihonaaDoor.PFbitsWhole
open Go.RowKit Go.Proofs.YtjefhpbliihonaaDoorW.PrintWords Go.Proofs.YtjefhpbliihonaaDoorW.PrintLast Go.Proofs.YtjefhpbliihonaaDoorW.PrintMore
attribute [local go_sem] max2_int min2_int max_two min_two max_three min_three max_four min_four   -- for this text's walks alone
set_option linter.unusedVariables false
set_option linter.unusedSimpArgs false

/-! ### glossatorlaw05_awake: function 8 -/
def glossatorlaw05_awake.f (k : Nat)  : Option (Bool) := (fbits_Widen.f k 16 15360).bind fun bt227 => (if bt227.2 = 0 then (some (bt227.1 == 4607182418800017408)) else (some false))
theorem glossatorlaw05_awake.mono : ∀ k, LeO (glossatorlaw05_awake.f k ) (glossatorlaw05_awake.f (k + 1) ) := by
  intro  k
  unfold glossatorlaw05_awake.f
  repeat' first
      | (with_reducible exact fbits_Widen.mono _ _ _)
      | (with_reducible exact LeO.refl _)
      | (with_reducible exact LeO.none _)
      | (with_reducible refine LeO.ite ?_ ?_)
      | (with_reducible refine LeO.bind ?_ (fun _ => ?_))
      | exact fbits_Widen.mono _ _ _
      | exact LeO.none _
      | refine LeO.ite ?_ ?_
      | refine LeO.bind ?_ (fun _ => ?_)
set_option maxHeartbeats 8000000 in
set_option maxRecDepth 100000 in
theorem glossatorlaw05_awake.calls (k : Nat)  (r : Bool) (w : World) (h : glossatorlaw05_awake.f k  = some r) :
    Calls Tryd.prog 8 #[] w fun e w' => e = .returned (.bool r) ∧ Below w.heap.size w w' := by
  have HB := Aside0.mk (Below.refl w.heap.size w)
  have H : ((fbits_Widen.f k 16 15360).bind fun bt227 => (if bt227.2 = 0 then (some (bt227.1 == 4607182418800017408)) else (some false))) = some r := h
  clear h
  replace H := Option.bind_eq_some_iff.mp H
  obtain ⟨⟨t227, t228⟩, A10, H⟩ := H
  replace H : (if t228 = 0 then (some (t227 == 4607182418800017408)) else (some false)) = some r := H
  have A1 := Aside0.mk A10
  clear A10
  by_cases c2 : t228 = 0
  · rw [if_pos c2] at H
    have c2b0 : (t228 == 0) = true := beq_iff_eq.mpr c2
    have c2b1 : (t228 != 0) = false := bne_eq_false_iff_eq.mpr c2
    clear c2
    obtain rfl := Option.some.inj H
    go_enter Tryd.func8, Tryd.ntmps8
    go_wp2_with (first | ((with_reducible refine gate_callee (f := 9) rfl ?_); refine goesL_ (some 4) rfl rfl Tryd.func9 (by kernel_rfl) rfl #[.int .i64 16, .int .u64 15360] rfl (by (try simp only [List.map_toArray, List.map_cons, List.map_nil]); first | done | rfl | (simp only [List.length_drop, List.length_take]; rfl)) ?_; (with_reducible refine (fbits_Widen.calls k 16 15360 t227 t228 _ A1.out).mono ?_); rintro e w3 ⟨rfl, hb⟩; refine ⟨_, rfl, ?_⟩; have n0_ := Aside0.mk (below_step (by repeat (first | (with_reducible first | exact HB.out | apply below_alloc | apply pw_below_drewN | apply below_drew1) | exact HB.out)) hb); clear HB; have HB := n0_; clear n0_; (try clear hb); (try clear hb2); (try clear hk); (try clear hi)))
    go_ret
    exact ⟨by first | rfl | (simp [errW_none, errW_some] <;> rfl) | (simp [*, errW_none, errW_some] <;> rfl), by repeat (first | (with_reducible first | exact HB.out | apply below_alloc | apply pw_below_drewN | apply below_drew1) | exact HB.out)⟩
  · rw [if_neg c2] at H
    have c2b0 : (t228 == 0) = false := beq_eq_false_iff_ne.mpr c2
    have c2b1 : (t228 != 0) = true := bne_iff_ne.mpr c2
    obtain rfl := Option.some.inj H
    go_enter Tryd.func8, Tryd.ntmps8
    go_wp2_with (first | ((with_reducible refine gate_callee (f := 9) rfl ?_); refine goesL_ (some 4) rfl rfl Tryd.func9 (by kernel_rfl) rfl #[.int .i64 16, .int .u64 15360] rfl (by (try simp only [List.map_toArray, List.map_cons, List.map_nil]); first | done | rfl | (simp only [List.length_drop, List.length_take]; rfl)) ?_; (with_reducible refine (fbits_Widen.calls k 16 15360 t227 t228 _ A1.out).mono ?_); rintro e w4 ⟨rfl, hb⟩; refine ⟨_, rfl, ?_⟩; have n0_ := Aside0.mk (below_step (by repeat (first | (with_reducible first | exact HB.out | apply below_alloc | apply pw_below_drewN | apply below_drew1) | exact HB.out)) hb); clear HB; have HB := n0_; clear n0_; (try clear hb); (try clear hb2); (try clear hk); (try clear hi)))
    go_ret
    exact ⟨by first | rfl | (simp [errW_none, errW_some] <;> rfl) | (simp [*, errW_none, errW_some] <;> rfl), by repeat (first | (with_reducible first | exact HB.out | apply below_alloc | apply pw_below_drewN | apply below_drew1) | exact HB.out)⟩

/-! ### glossatorlaw05_FbitsWhole: function 3 -/
mutual
def glossatorlaw05_FbitsWhole.j0 : Nat → Bool → Int → Int → Int → Bool → Option (Bool)
  | 0, _, _, _, _, _ => none
  | k + 1, x0, x1, x8, x9, x41 => if x41 = true then (some false) else (if x0 = true then (glossatorlaw05_FbitsWhole.j1 k x8 x9 (IntKind.u64.wrap (x1 + 1))) else (glossatorlaw05_FbitsWhole.j1 k x8 x9 x1))
def glossatorlaw05_FbitsWhole.j1 : Nat → Int → Int → Int → Option (Bool)
  | 0, _, _, _ => none
  | k + 1, x8, x9, x11 => if x9 > 0 then (if 0 ≤ (mn x9 63) then (if x11 = (IntKind.u64.wrap (x8 * 2 ^ (mn x9 63).toNat)) then ((glossatorlaw05_awake.f k).bind fun t235 => (some t235)) else (some false)) else (none)) else (if 0 ≤ (mn (wrap64 (-x9)) 63) then (if x11 = (x8 / 2 ^ (mn (wrap64 (-x9)) 63).toNat) then (if x8 = (IntKind.u64.wrap (x11 * 2 ^ (mn (wrap64 (-x9)) 63).toNat)) then ((glossatorlaw05_awake.f k).bind fun t236 => (some t236)) else (some false)) else (some false)) else (none))
end
def glossatorlaw05_FbitsWhole.f (k : Nat) (a0 : Bool) (a1 : Int) : Option (Bool) := (fbits_FromInt.f k a0 (Go.bits .and .u64 a1 9007199254740991)).bind fun bt229 => ((fbits_Exact.f k bt229.1).bind fun bt231 => (if bt229.2 = true then (if bt231.2.2.2 = true then (if (bt231.1 != a0) = true then (glossatorlaw05_FbitsWhole.j0 k a0 (Go.bits .and .u64 a1 9007199254740991) bt231.2.1 bt231.2.2.1 ((Go.bits .and .u64 a1 9007199254740991) != 0)) else (glossatorlaw05_FbitsWhole.j0 k a0 (Go.bits .and .u64 a1 9007199254740991) bt231.2.1 bt231.2.2.1 false)) else (glossatorlaw05_FbitsWhole.j0 k a0 (Go.bits .and .u64 a1 9007199254740991) bt231.2.1 bt231.2.2.1 true)) else (glossatorlaw05_FbitsWhole.j0 k a0 (Go.bits .and .u64 a1 9007199254740991) bt231.2.1 bt231.2.2.1 true)))
theorem glossatorlaw05_FbitsWhole.mono_l : ∀ k, (∀ y0 y1 y2 y3 y4, LeO (glossatorlaw05_FbitsWhole.j0 k y0 y1 y2 y3 y4) (glossatorlaw05_FbitsWhole.j0 (k + 1) y0 y1 y2 y3 y4)) ∧ (∀ y0 y1 y2, LeO (glossatorlaw05_FbitsWhole.j1 k y0 y1 y2) (glossatorlaw05_FbitsWhole.j1 (k + 1) y0 y1 y2))
  | 0 => ⟨fun _ _ _ _ _ r h => by simp [glossatorlaw05_FbitsWhole.j0] at h, fun _ _ _ r h => by simp [glossatorlaw05_FbitsWhole.j1] at h⟩
  | k + 1 => by
    obtain ⟨ih0, ih1⟩ := glossatorlaw05_FbitsWhole.mono_l k
    refine ⟨?_, ?_⟩
    · intro y0 y1 y2 y3 y4
      unfold glossatorlaw05_FbitsWhole.j0
      repeat' first
      | (with_reducible exact ih0 _ _ _ _ _)
      | (with_reducible exact ih1 _ _ _)
      | (with_reducible exact fbits_Exact.mono _ _)
      | (with_reducible exact fbits_FromInt.mono _ _ _)
      | (with_reducible exact glossatorlaw05_awake.mono _)
      | (with_reducible exact LeO.refl _)
      | (with_reducible exact LeO.none _)
      | (with_reducible refine LeO.ite ?_ ?_)
      | (with_reducible refine LeO.bind ?_ (fun _ => ?_))
      | exact ih0 _ _ _ _ _
      | exact ih1 _ _ _
      | exact fbits_Exact.mono _ _
      | exact fbits_FromInt.mono _ _ _
      | exact glossatorlaw05_awake.mono _
      | exact LeO.none _
      | refine LeO.ite ?_ ?_
      | refine LeO.bind ?_ (fun _ => ?_)
    · intro y0 y1 y2
      unfold glossatorlaw05_FbitsWhole.j1
      repeat' first
      | (with_reducible exact ih0 _ _ _ _ _)
      | (with_reducible exact ih1 _ _ _)
      | (with_reducible exact fbits_Exact.mono _ _)
      | (with_reducible exact fbits_FromInt.mono _ _ _)
      | (with_reducible exact glossatorlaw05_awake.mono _)
      | (with_reducible exact LeO.refl _)
      | (with_reducible exact LeO.none _)
      | (with_reducible refine LeO.ite ?_ ?_)
      | (with_reducible refine LeO.bind ?_ (fun _ => ?_))
      | exact ih0 _ _ _ _ _
      | exact ih1 _ _ _
      | exact fbits_Exact.mono _ _
      | exact fbits_FromInt.mono _ _ _
      | exact glossatorlaw05_awake.mono _
      | exact LeO.none _
      | refine LeO.ite ?_ ?_
      | refine LeO.bind ?_ (fun _ => ?_)
theorem glossatorlaw05_FbitsWhole.mono : ∀ a0 a1 k, LeO (glossatorlaw05_FbitsWhole.f k a0 a1) (glossatorlaw05_FbitsWhole.f (k + 1) a0 a1) := by
  intro a0 a1 k
  obtain ⟨ih0, ih1⟩ := glossatorlaw05_FbitsWhole.mono_l k
  unfold glossatorlaw05_FbitsWhole.f
  repeat' first
      | (with_reducible exact ih0 _ _ _ _ _)
      | (with_reducible exact ih1 _ _ _)
      | (with_reducible exact fbits_Exact.mono _ _)
      | (with_reducible exact fbits_FromInt.mono _ _ _)
      | (with_reducible exact glossatorlaw05_awake.mono _)
      | (with_reducible exact LeO.refl _)
      | (with_reducible exact LeO.none _)
      | (with_reducible refine LeO.ite ?_ ?_)
      | (with_reducible refine LeO.bind ?_ (fun _ => ?_))
      | exact ih0 _ _ _ _ _
      | exact ih1 _ _ _
      | exact fbits_Exact.mono _ _
      | exact fbits_FromInt.mono _ _ _
      | exact glossatorlaw05_awake.mono _
      | exact LeO.none _
      | refine LeO.ite ?_ ?_
      | refine LeO.bind ?_ (fun _ => ?_)
set_option maxHeartbeats 8000000 in
set_option maxRecDepth 100000 in
theorem glossatorlaw05_FbitsWhole.calls (k : Nat) (a0 : Bool) (a1 : Int) (r : Bool) (w : World) (hT : TabAt 0 Lib.deBruijn64tab w) (h : glossatorlaw05_FbitsWhole.f k a0 a1 = some r) :
    Calls Tryd.prog 3 #[.bool a0, .int .u64 a1] w fun e w' => e = .returned (.bool r) ∧ Below w.heap.size w w' := by
  have HTT := Aside0.mk hT
  clear hT
  have HB := Aside0.mk (Below.refl w.heap.size w)
  have H : ((fbits_FromInt.f k a0 (Go.bits .and .u64 a1 9007199254740991)).bind fun bt229 => ((fbits_Exact.f k bt229.1).bind fun bt231 => (if bt229.2 = true then (if bt231.2.2.2 = true then (if (bt231.1 != a0) = true then (glossatorlaw05_FbitsWhole.j0 k a0 (Go.bits .and .u64 a1 9007199254740991) bt231.2.1 bt231.2.2.1 ((Go.bits .and .u64 a1 9007199254740991) != 0)) else (glossatorlaw05_FbitsWhole.j0 k a0 (Go.bits .and .u64 a1 9007199254740991) bt231.2.1 bt231.2.2.1 false)) else (glossatorlaw05_FbitsWhole.j0 k a0 (Go.bits .and .u64 a1 9007199254740991) bt231.2.1 bt231.2.2.1 true)) else (glossatorlaw05_FbitsWhole.j0 k a0 (Go.bits .and .u64 a1 9007199254740991) bt231.2.1 bt231.2.2.1 true)))) = some r := h
  clear h
  replace H := Option.bind_eq_some_iff.mp H
  obtain ⟨⟨t229, t230⟩, A30, H⟩ := H
  replace H : ((fbits_Exact.f k t229).bind fun bt231 => (if t230 = true then (if bt231.2.2.2 = true then (if (bt231.1 != a0) = true then (glossatorlaw05_FbitsWhole.j0 k a0 (Go.bits .and .u64 a1 9007199254740991) bt231.2.1 bt231.2.2.1 ((Go.bits .and .u64 a1 9007199254740991) != 0)) else (glossatorlaw05_FbitsWhole.j0 k a0 (Go.bits .and .u64 a1 9007199254740991) bt231.2.1 bt231.2.2.1 false)) else (glossatorlaw05_FbitsWhole.j0 k a0 (Go.bits .and .u64 a1 9007199254740991) bt231.2.1 bt231.2.2.1 true)) else (glossatorlaw05_FbitsWhole.j0 k a0 (Go.bits .and .u64 a1 9007199254740991) bt231.2.1 bt231.2.2.1 true))) = some r := H
  have A3 := Aside0.mk A30
  clear A30
  replace H := Option.bind_eq_some_iff.mp H
  obtain ⟨⟨t231, t232, t233, t234⟩, A40, H⟩ := H
  replace H : (if t230 = true then (if t234 = true then (if (t231 != a0) = true then (glossatorlaw05_FbitsWhole.j0 k a0 (Go.bits .and .u64 a1 9007199254740991) t232 t233 ((Go.bits .and .u64 a1 9007199254740991) != 0)) else (glossatorlaw05_FbitsWhole.j0 k a0 (Go.bits .and .u64 a1 9007199254740991) t232 t233 false)) else (glossatorlaw05_FbitsWhole.j0 k a0 (Go.bits .and .u64 a1 9007199254740991) t232 t233 true)) else (glossatorlaw05_FbitsWhole.j0 k a0 (Go.bits .and .u64 a1 9007199254740991) t232 t233 true)) = some r := H
  have A4 := Aside0.mk A40
  clear A40
  have HC5 := Aside0.mk H
  clear H
  go_enter Tryd.func3, Tryd.ntmps3
  go_upto_region 4 with (first | ((with_reducible refine gate_callee (f := 6) rfl ?_); refine goesL_ (some 17) rfl rfl Tryd.func6 (by kernel_rfl) rfl #[.bool a0, .int .u64 (Go.bits .and .u64 a1 9007199254740991)] rfl (by (try simp only [List.map_toArray, List.map_cons, List.map_nil]); first | done | rfl | (simp only [List.length_drop, List.length_take]; rfl)) ?_; (with_reducible refine (fbits_FromInt.calls k a0 (Go.bits .and .u64 a1 9007199254740991) t229 t230 _ ?side1 A3.out).mono ?_); (case side1 => exact Tz.tab_below HTT.out (by first | exact (by repeat (first | (with_reducible first | exact HB.out | apply below_alloc | apply pw_below_drewN | apply below_drew1) | exact HB.out)) | exact (by repeat (first | (with_reducible first | exact HB.out | apply below_alloc | apply pw_below_drewN | apply below_drew1) | exact HB.out | exact Below.refl _ _)))); rintro e w6 ⟨rfl, hb⟩; refine ⟨_, rfl, ?_⟩; have n0_ := Aside0.mk (below_step (by repeat (first | (with_reducible first | exact HB.out | apply below_alloc | apply pw_below_drewN | apply below_drew1) | exact HB.out)) hb); clear HB; have HB := n0_; clear n0_; (try clear hb); (try clear hb2); (try clear hk); (try clear hi)) | ((with_reducible refine gate_callee (f := 7) rfl ?_); refine goesL_ (some 22) rfl rfl Tryd.func7 (by kernel_rfl) rfl #[.int .u64 t229] rfl (by (try simp only [List.map_toArray, List.map_cons, List.map_nil]); first | done | rfl | (simp only [List.length_drop, List.length_take]; rfl)) ?_; (with_reducible refine (fbits_Exact.calls k t229 t231 t232 t233 t234 _ A4.out).mono ?_); rintro e w7 ⟨rfl, hb⟩; refine ⟨_, rfl, ?_⟩; have n0_ := Aside0.mk (below_step (by repeat (first | (with_reducible first | exact HB.out | apply below_alloc | apply pw_below_drewN | apply below_drew1) | exact HB.out)) hb); clear HB; have HB := n0_; clear n0_; (try clear hb); (try clear hb2); (try clear hk); (try clear hi)))
  (try simp only [Act.put, List.setIfInBounds_toArray, List.set_cons_zero, List.set_cons_succ])
  go_cut [41] (fun v41 wc => ∃ (kq : Nat) (x41_4 : Bool), v41 = .bool x41_4 ∧ Aside0 (glossatorlaw05_FbitsWhole.j0 kq a0 (Go.bits .and .u64 a1 9007199254740991) t232 t233 x41_4 = some r) ∧ Aside0 (kq ≤ k) ∧ Aside0 (Below w.heap.size w wc))
  case first =>
    have H := HC5.out
    clear HC5
    by_cases c8 : t230 = true
    · subst c8
      have H1 : (if t234 = true then (if (t231 != a0) = true then (glossatorlaw05_FbitsWhole.j0 k a0 (Go.bits .and .u64 a1 9007199254740991) t232 t233 ((Go.bits .and .u64 a1 9007199254740991) != 0)) else (glossatorlaw05_FbitsWhole.j0 k a0 (Go.bits .and .u64 a1 9007199254740991) t232 t233 false)) else (glossatorlaw05_FbitsWhole.j0 k a0 (Go.bits .and .u64 a1 9007199254740991) t232 t233 true)) = some r := by rw [if_pos rfl] at H; exact H
      clear H
      have H := H1
      clear H1
      by_cases c9 : t234 = true
      · subst c9
        have H1 : (if (t231 != a0) = true then (glossatorlaw05_FbitsWhole.j0 k a0 (Go.bits .and .u64 a1 9007199254740991) t232 t233 ((Go.bits .and .u64 a1 9007199254740991) != 0)) else (glossatorlaw05_FbitsWhole.j0 k a0 (Go.bits .and .u64 a1 9007199254740991) t232 t233 false)) = some r := by rw [if_pos rfl] at H; exact H
        clear H
        have H := H1
        clear H1
        by_cases c10 : (t231 != a0) = true
        · rw [if_pos c10] at H
          have c10b0 : (t231 != a0) = true := c10
          (try (have c10b1 : decide (t231 = a0) = false := by simpa using c10))
          (try (have c10b2 : (t231 == a0) = false := by simpa using c10))
          (try (have c10b3 : ¬ (t231 = a0) := by simpa using c10))
          clear c10
          (first | rw [c10b0] | (simp only [i64_w, i32_w]; rw [c10b0]) | skip)
          have H' := Aside0.mk H
          clear H
          go_wp2
          go_meet
          case rel => exact ⟨_, (((Go.bits .and .u64 a1 9007199254740991) != 0)), (by first | rfl | (simp; done) | (simp [*]; done) | (simp [*] <;> decide +kernel)), H', ⟨by first | omega | exact Nat.le_refl _⟩, ⟨by repeat (first | (with_reducible first | exact HB.out | apply below_alloc | apply pw_below_drewN | apply below_drew1) | exact HB.out)⟩⟩
        · rw [if_neg c10] at H
          have c10b0 : (t231 != a0) = false := by simpa using c10
          (try (have c10b1 : decide (t231 = a0) = true := by simpa using c10))
          (try (have c10b2 : (t231 == a0) = true := by simpa using c10))
          clear c10
          (first | rw [c10b0] | (simp only [i64_w, i32_w]; rw [c10b0]) | skip)
          have H' := Aside0.mk H
          clear H
          go_wp2
          go_meet
          case rel => exact ⟨_, (false), (by first | rfl | (simp; done) | (simp [*]; done) | (simp [*] <;> decide +kernel)), H', ⟨by first | omega | exact Nat.le_refl _⟩, ⟨by repeat (first | (with_reducible first | exact HB.out | apply below_alloc | apply pw_below_drewN | apply below_drew1) | exact HB.out)⟩⟩
      · replace c9 := Bool.eq_false_iff.mpr c9
        subst c9
        have H1 : (glossatorlaw05_FbitsWhole.j0 k a0 (Go.bits .and .u64 a1 9007199254740991) t232 t233 true) = some r := by rw [if_neg (show ¬ (false = true) by decide)] at H; exact H
        clear H
        have H := H1
        clear H1
        have H' := Aside0.mk H
        clear H
        go_wp2
        go_meet
        case rel => exact ⟨_, (true), (by first | rfl | (simp; done) | (simp [*]; done) | (simp [*] <;> decide +kernel)), H', ⟨by first | omega | exact Nat.le_refl _⟩, ⟨by repeat (first | (with_reducible first | exact HB.out | apply below_alloc | apply pw_below_drewN | apply below_drew1) | exact HB.out)⟩⟩
    · replace c8 := Bool.eq_false_iff.mpr c8
      subst c8
      have H1 : (glossatorlaw05_FbitsWhole.j0 k a0 (Go.bits .and .u64 a1 9007199254740991) t232 t233 true) = some r := by rw [if_neg (show ¬ (false = true) by decide)] at H; exact H
      clear H
      have H := H1
      clear H1
      have H' := Aside0.mk H
      clear H
      go_wp2
      go_meet
      case rel => exact ⟨_, (true), (by first | rfl | (simp; done) | (simp [*]; done) | (simp [*] <;> decide +kernel)), H', ⟨by first | omega | exact Nat.le_refl _⟩, ⟨by repeat (first | (with_reducible first | exact HB.out | apply below_alloc | apply pw_below_drewN | apply below_drew1) | exact HB.out)⟩⟩
  case rest =>
    clear HC5
    try clear c1
    try clear p2
    try clear c3
    try clear c6
    try clear c7
    try clear c8
    try clear c9
    try clear c10
    try clear c10b0
    try clear c10b1
    try clear c10b2
    obtain ⟨kq, x41_4, rfl, HA, HJ4, HB⟩ := hcut
    cases kq with
    | zero => exact absurd HA.out (by simp [glossatorlaw05_FbitsWhole.j0])
    | succ kj4 =>
      have H := HA.out
      clear HA
      simp only [glossatorlaw05_FbitsWhole.j0] at H
      by_cases c11 : x41_4 = true
      · subst c11
        have H1 : (some false) = some r := by rw [if_pos rfl] at H; exact H
        clear H
        have H := H1
        clear H1
        obtain rfl := Option.some.inj H
        go_wp2
        go_ret
        exact ⟨by first | rfl | (simp [errW_none, errW_some] <;> rfl) | (simp [*, errW_none, errW_some] <;> rfl), by repeat (first | (with_reducible first | exact HB.out | apply below_alloc | apply pw_below_drewN | apply below_drew1) | exact HB.out)⟩
      · replace c11 := Bool.eq_false_iff.mpr c11
        subst c11
        have H1 : (if a0 = true then (glossatorlaw05_FbitsWhole.j1 kj4 t232 t233 (IntKind.u64.wrap ((Go.bits .and .u64 a1 9007199254740991) + 1))) else (glossatorlaw05_FbitsWhole.j1 kj4 t232 t233 (Go.bits .and .u64 a1 9007199254740991))) = some r := by rw [if_neg (show ¬ (false = true) by decide)] at H; exact H
        clear H
        have H := H1
        clear H1
        have HC12 := Aside0.mk H
        clear H
        go_upto_if 43 with (fail)
        go_cut [11] (fun v11 wc => ∃ (kq : Nat) (x11_11 : Int), v11 = .int .u64 x11_11 ∧ Aside0 (glossatorlaw05_FbitsWhole.j1 kq t232 t233 x11_11 = some r) ∧ Aside0 (kq ≤ kj4) ∧ Aside0 (Below w.heap.size w wc))
        case first =>
          have H := HC12.out
          clear HC12
          by_cases c13 : a0 = true
          · subst c13
            have H1 : (glossatorlaw05_FbitsWhole.j1 kj4 t232 t233 (IntKind.u64.wrap ((Go.bits .and .u64 a1 9007199254740991) + 1))) = some r := by rw [if_pos rfl] at H; exact H
            clear H
            have H := H1
            clear H1
            have H' := Aside0.mk H
            clear H
            go_wp2
            go_meet
            case rel => exact ⟨_, (IntKind.u64.wrap ((Go.bits .and .u64 a1 9007199254740991) + 1)), (by first | rfl | (simp; done) | (simp [*]; done) | (simp [*] <;> decide +kernel)), H', ⟨by have := HJ4.out; first | omega | exact Nat.le_refl _⟩, ⟨by repeat (first | (with_reducible first | exact HB.out | apply below_alloc | apply pw_below_drewN | apply below_drew1) | exact HB.out)⟩⟩
          · replace c13 := Bool.eq_false_iff.mpr c13
            subst c13
            have H1 : (glossatorlaw05_FbitsWhole.j1 kj4 t232 t233 (Go.bits .and .u64 a1 9007199254740991)) = some r := by rw [if_neg (show ¬ (false = true) by decide)] at H; exact H
            clear H
            have H := H1
            clear H1
            have H' := Aside0.mk H
            clear H
            go_wp2
            go_meet
            case rel => exact ⟨_, ((Go.bits .and .u64 a1 9007199254740991)), (by first | rfl | (simp; done) | (simp [*]; done) | (simp [*] <;> decide +kernel)), H', ⟨by have := HJ4.out; first | omega | exact Nat.le_refl _⟩, ⟨by repeat (first | (with_reducible first | exact HB.out | apply below_alloc | apply pw_below_drewN | apply below_drew1) | exact HB.out)⟩⟩
        case rest =>
          clear HC12
          try clear c1
          try clear p2
          try clear c3
          try clear c6
          try clear c7
          try clear c8
          try clear c9
          try clear c10
          try clear c10b0
          try clear c10b1
          try clear c10b2
          try clear c11
          try clear c13
          try clear p2
          obtain ⟨kq, x11_11, rfl, HA, HJ11, HB⟩ := hcut
          cases kq with
          | zero => exact absurd HA.out (by simp [glossatorlaw05_FbitsWhole.j1])
          | succ kj11 =>
            have H := HA.out
            clear HA
            simp only [glossatorlaw05_FbitsWhole.j1] at H
            by_cases c14 : t233 > 0
            · rw [if_pos c14] at H
              have c14b0 : decide (0 < t233) = true := decide_eq_true c14
              clear c14
              obtain ⟨ji15, hji15⟩ : ∃ j_ : Int, (mn t233 63) = j_ := ⟨_, rfl⟩
              replace H : (if 0 ≤ (ji15) then (if x11_11 = (IntKind.u64.wrap (t232 * 2 ^ (ji15).toNat)) then ((glossatorlaw05_awake.f kj11).bind fun t235 => (some t235)) else (some false)) else (none)) = some r := by first | (rw [hji15] at H; exact H) | (simp only [hji15] at H ⊢; exact H)
              (try (have hji15h : ji15 ≤ 63 := by (rw [← hji15]; unfold mn; (repeat' split) <;> omega)))
              (try (have hji15g : ji15 ≤ 64 := by omega))
              have hji15_ : (if 63 < t233 then 63 else t233) = ji15 := hji15
              try (have hji15n_ := hji15_; simp only [Int.ofNat_lt] at hji15n_)
              by_cases c16 : 0 ≤ (ji15)
              · rw [if_pos c16] at H
                have c16b0 := eq_true c16
                have c16b1 : decide (0 ≤ (ji15)) = true := decide_eq_true c16
                clear c16
                by_cases c17 : x11_11 = (IntKind.u64.wrap (t232 * 2 ^ (ji15).toNat))
                · rw [if_pos c17] at H
                  have c17b0 : (x11_11 == (IntKind.u64.wrap (t232 * 2 ^ (ji15).toNat))) = true := beq_iff_eq.mpr c17
                  have c17b1 : (x11_11 != (IntKind.u64.wrap (t232 * 2 ^ (ji15).toNat))) = false := bne_eq_false_iff_eq.mpr c17
                  clear c17
                  replace H := Option.bind_eq_some_iff.mp H
                  obtain ⟨t235, A180, H⟩ := H
                  replace H : (some t235) = some r := H
                  have A18 := Aside0.mk A180
                  clear A180
                  obtain rfl := Option.some.inj H
                  go_wp2_with (first | (go_at_call 8; (with_reducible refine (glossatorlaw05_awake.calls kj11  t235 _ A18.out).mono ?_); rintro e w19 ⟨rfl, hb⟩; have n0_ := Aside0.mk (below_step (by repeat (first | (with_reducible first | exact HB.out | apply below_alloc | apply pw_below_drewN | apply below_drew1) | exact HB.out)) hb); clear HB; have HB := n0_; clear n0_; (try clear hb); (try clear hb2); (try clear hk); (try clear hi)))
                  go_ret
                  exact ⟨by first | rfl | (simp [errW_none, errW_some] <;> rfl) | (simp only [← hji15]; first | rfl | (simp [errW_none, errW_some] <;> rfl)) | (simp [*, errW_none, errW_some] <;> rfl), by repeat (first | (with_reducible first | exact HB.out | apply below_alloc | apply pw_below_drewN | apply below_drew1) | exact HB.out)⟩
                · rw [if_neg c17] at H
                  have c17b0 : (x11_11 == (IntKind.u64.wrap (t232 * 2 ^ (ji15).toNat))) = false := beq_eq_false_iff_ne.mpr c17
                  have c17b1 : (x11_11 != (IntKind.u64.wrap (t232 * 2 ^ (ji15).toNat))) = true := bne_iff_ne.mpr c17
                  obtain rfl := Option.some.inj H
                  go_wp2
                  go_ret
                  exact ⟨by first | rfl | (simp [errW_none, errW_some] <;> rfl) | (simp only [← hji15]; first | rfl | (simp [errW_none, errW_some] <;> rfl)) | (simp [*, errW_none, errW_some] <;> rfl), by repeat (first | (with_reducible first | exact HB.out | apply below_alloc | apply pw_below_drewN | apply below_drew1) | exact HB.out)⟩
              · rw [if_neg c16] at H
                exact absurd H (by simp)
            · rw [if_neg c14] at H
              have c14b0 : decide (0 < t233) = false := decide_eq_false c14
              clear c14
              obtain ⟨ji20, hji20⟩ : ∃ j_ : Int, (mn (wrap64 (-t233)) 63) = j_ := ⟨_, rfl⟩
              replace H : (if 0 ≤ (ji20) then (if x11_11 = (t232 / 2 ^ (ji20).toNat) then (if t232 = (IntKind.u64.wrap (x11_11 * 2 ^ (ji20).toNat)) then ((glossatorlaw05_awake.f kj11).bind fun t236 => (some t236)) else (some false)) else (some false)) else (none)) = some r := by first | (rw [hji20] at H; exact H) | (simp only [hji20] at H ⊢; exact H)
              (try (have hji20h : ji20 ≤ 63 := by (rw [← hji20]; unfold mn; (repeat' split) <;> omega)))
              (try (have hji20g : ji20 ≤ 64 := by omega))
              have hji20_ : (if 63 < (wrap64 (-t233)) then 63 else (wrap64 (-t233))) = ji20 := hji20
              try (have hji20n_ := hji20_; simp only [Int.ofNat_lt] at hji20n_)
              by_cases c21 : 0 ≤ (ji20)
              · rw [if_pos c21] at H
                have c21b0 := eq_true c21
                have c21b1 : decide (0 ≤ (ji20)) = true := decide_eq_true c21
                clear c21
                by_cases c22 : x11_11 = (t232 / 2 ^ (ji20).toNat)
                · rw [if_pos c22] at H
                  have c22b0 : (x11_11 == (t232 / 2 ^ (ji20).toNat)) = true := beq_iff_eq.mpr c22
                  have c22b1 : (x11_11 != (t232 / 2 ^ (ji20).toNat)) = false := bne_eq_false_iff_eq.mpr c22
                  clear c22
                  have c23b0 := eq_true (of_decide_eq_true (by first | (with_reducible assumption) | assumption) : 0 ≤ (ji20))
                  by_cases c24 : t232 = (IntKind.u64.wrap (x11_11 * 2 ^ (ji20).toNat))
                  · rw [if_pos c24] at H
                    have c24b0 : (t232 == (IntKind.u64.wrap (x11_11 * 2 ^ (ji20).toNat))) = true := beq_iff_eq.mpr c24
                    have c24b1 : (t232 != (IntKind.u64.wrap (x11_11 * 2 ^ (ji20).toNat))) = false := bne_eq_false_iff_eq.mpr c24
                    clear c24
                    replace H := Option.bind_eq_some_iff.mp H
                    obtain ⟨t236, A250, H⟩ := H
                    replace H : (some t236) = some r := H
                    have A25 := Aside0.mk A250
                    clear A250
                    obtain rfl := Option.some.inj H
                    go_wp2_with (first | (go_at_call 8; (with_reducible refine (glossatorlaw05_awake.calls kj11  t236 _ A25.out).mono ?_); rintro e w26 ⟨rfl, hb⟩; have n0_ := Aside0.mk (below_step (by repeat (first | (with_reducible first | exact HB.out | apply below_alloc | apply pw_below_drewN | apply below_drew1) | exact HB.out)) hb); clear HB; have HB := n0_; clear n0_; (try clear hb); (try clear hb2); (try clear hk); (try clear hi)))
                    go_ret
                    exact ⟨by first | rfl | (simp [errW_none, errW_some] <;> rfl) | (simp only [← hji20]; first | rfl | (simp [errW_none, errW_some] <;> rfl)) | (simp [*, errW_none, errW_some] <;> rfl), by repeat (first | (with_reducible first | exact HB.out | apply below_alloc | apply pw_below_drewN | apply below_drew1) | exact HB.out)⟩
                  · rw [if_neg c24] at H
                    have c24b0 : (t232 == (IntKind.u64.wrap (x11_11 * 2 ^ (ji20).toNat))) = false := beq_eq_false_iff_ne.mpr c24
                    have c24b1 : (t232 != (IntKind.u64.wrap (x11_11 * 2 ^ (ji20).toNat))) = true := bne_iff_ne.mpr c24
                    obtain rfl := Option.some.inj H
                    go_wp2
                    go_ret
                    exact ⟨by first | rfl | (simp [errW_none, errW_some] <;> rfl) | (simp only [← hji20]; first | rfl | (simp [errW_none, errW_some] <;> rfl)) | (simp [*, errW_none, errW_some] <;> rfl), by repeat (first | (with_reducible first | exact HB.out | apply below_alloc | apply pw_below_drewN | apply below_drew1) | exact HB.out)⟩
                · rw [if_neg c22] at H
                  have c22b0 : (x11_11 == (t232 / 2 ^ (ji20).toNat)) = false := beq_eq_false_iff_ne.mpr c22
                  have c22b1 : (x11_11 != (t232 / 2 ^ (ji20).toNat)) = true := bne_iff_ne.mpr c22
                  obtain rfl := Option.some.inj H
                  go_wp2
                  go_ret
                  exact ⟨by first | rfl | (simp [errW_none, errW_some] <;> rfl) | (simp only [← hji20]; first | rfl | (simp [errW_none, errW_some] <;> rfl)) | (simp [*, errW_none, errW_some] <;> rfl), by repeat (first | (with_reducible first | exact HB.out | apply below_alloc | apply pw_below_drewN | apply below_drew1) | exact HB.out)⟩
              · rw [if_neg c21] at H
                exact absurd H (by simp)

/-- THE ONE PURE STATEMENT of glossatorlaw05_FbitsWhole: yours. -/
def glossatorlaw05_FbitsWhole.Pure : Prop := ∀ (a0 : Bool) (a1 : Int), (Lit.int .u64 a1).wf = true → ∃ k, glossatorlaw05_FbitsWhole.f k a0 a1 = some true
theorem glossatorlaw05_FbitsWhole.walk (P : glossatorlaw05_FbitsWhole.Pure) (a0 : Bool) (a1 : Int) (w : World) (hT : TabAt 0 Lib.deBruijn64tab w) (w1 : (Lit.int .u64 a1).wf = true) :
    Calls Tryd.prog 3 #[.bool a0, .int .u64 a1] w fun e w' => e = .returned (.bool true) ∧ Below w.heap.size w w' := by
  obtain ⟨k, h⟩ := P a0 a1 w1
  refine (glossatorlaw05_FbitsWhole.calls k a0 a1 true w hT h).mono ?_
  rintro e w' ⟨rfl, hd⟩
  exact ⟨rfl, hd⟩

end Go.Proofs.YtjefhpbliihonaaDoor.PFbitsWhole
