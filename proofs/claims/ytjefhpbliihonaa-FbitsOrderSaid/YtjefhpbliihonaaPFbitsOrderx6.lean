-- Written by a program of this session out of the kit's print (print.py, its switches or its text changed): not the kit's own print
import Derived.Test.YtjefhpbliihonaaPFbitsOrderx0
import Derived.Test.YtjefhpbliihonaaPFbitsOrderx5
namespace Go.Proofs.Ytjefhpbliihonaa.PFbitsOrder
open Go.RowKit Go.Proofs.YtjefhpbliihonaaW.PrintWords Go.Proofs.YtjefhpbliihonaaW.PrintLast Go.Proofs.YtjefhpbliihonaaW.PrintMore
attribute [local go_sem] max2_int min2_int max_two min_two max_three min_three max_four min_four   -- for this text's walks alone
set_option linter.unusedVariables false
set_option linter.unusedSimpArgs false

/-! ### glossatorlaw05_awake: function 8 -/
def glossatorlaw05_awake.f (k : Nat)  : Option (Bool) := (fbits_Widen.f k 16 15360).bind fun bt189 => (if bt189.2 = 0 then (some (bt189.1 == 4607182418800017408)) else (some false))
theorem glossatorlaw05_awake.mono : ∀ k, LeO (glossatorlaw05_awake.f k ) (glossatorlaw05_awake.f (k + 1) ) := by
  intro  k
  unfold glossatorlaw05_awake.f
  repeat' first
      | (with_reducible exact fbits_Widen.mono _ _ _)
      | (with_reducible exact LeO.refl _)
      | (with_reducible exact LeO.none _)
      | (with_reducible refine LeO.ite ?_ ?_)
      | (with_reducible refine LeO.bind ?_ (fun _ => ?_))
      | exact fbits_Widen.mono _ _ _
      | exact LeO.none _
      | refine LeO.ite ?_ ?_
      | refine LeO.bind ?_ (fun _ => ?_)
set_option maxHeartbeats 8000000 in
set_option maxRecDepth 100000 in
theorem glossatorlaw05_awake.calls (k : Nat)  (r : Bool) (w : World) (h : glossatorlaw05_awake.f k  = some r) :
    Calls Try.prog 8 #[] w fun e w' => e = .returned (.bool r) ∧ Below w.heap.size w w' := by
  have HB := Aside0.mk (Below.refl w.heap.size w)
  have H : ((fbits_Widen.f k 16 15360).bind fun bt189 => (if bt189.2 = 0 then (some (bt189.1 == 4607182418800017408)) else (some false))) = some r := h
  clear h
  replace H := Option.bind_eq_some_iff.mp H
  obtain ⟨⟨t189, t190⟩, A10, H⟩ := H
  replace H : (if t190 = 0 then (some (t189 == 4607182418800017408)) else (some false)) = some r := H
  have A1 := Aside0.mk A10
  clear A10
  by_cases c2 : t190 = 0
  · rw [if_pos c2] at H
    have c2b0 : (t190 == 0) = true := beq_iff_eq.mpr c2
    have c2b1 : (t190 != 0) = false := bne_eq_false_iff_eq.mpr c2
    clear c2
    obtain rfl := Option.some.inj H
    go_enter Try.func8, Try.ntmps8
    go_wp2_with (first | ((with_reducible refine gate_callee (f := 7) rfl ?_); refine goesL_ (some 4) rfl rfl Try.func7 (by kernel_rfl) rfl #[.int .i64 16, .int .u64 15360] rfl (by (try simp only [List.map_toArray, List.map_cons, List.map_nil]); first | done | rfl | (simp only [List.length_drop, List.length_take]; rfl)) ?_; (with_reducible refine (fbits_Widen.calls k 16 15360 t189 t190 _ A1.out).mono ?_); rintro e w3 ⟨rfl, hb⟩; refine ⟨_, rfl, ?_⟩; have n0_ := Aside0.mk (below_step (by repeat (first | (with_reducible first | exact HB.out | apply below_alloc | apply pw_below_drewN | apply below_drew1) | exact HB.out)) hb); clear HB; have HB := n0_; clear n0_; (try clear hb); (try clear hb2); (try clear hk); (try clear hi)))
    go_ret
    exact ⟨by first | rfl | (simp [errW_none, errW_some] <;> rfl) | (simp [*, errW_none, errW_some] <;> rfl), by repeat (first | (with_reducible first | exact HB.out | apply below_alloc | apply pw_below_drewN | apply below_drew1) | exact HB.out)⟩
  · rw [if_neg c2] at H
    have c2b0 : (t190 == 0) = false := beq_eq_false_iff_ne.mpr c2
    have c2b1 : (t190 != 0) = true := bne_iff_ne.mpr c2
    obtain rfl := Option.some.inj H
    go_enter Try.func8, Try.ntmps8
    go_wp2_with (first | ((with_reducible refine gate_callee (f := 7) rfl ?_); refine goesL_ (some 4) rfl rfl Try.func7 (by kernel_rfl) rfl #[.int .i64 16, .int .u64 15360] rfl (by (try simp only [List.map_toArray, List.map_cons, List.map_nil]); first | done | rfl | (simp only [List.length_drop, List.length_take]; rfl)) ?_; (with_reducible refine (fbits_Widen.calls k 16 15360 t189 t190 _ A1.out).mono ?_); rintro e w4 ⟨rfl, hb⟩; refine ⟨_, rfl, ?_⟩; have n0_ := Aside0.mk (below_step (by repeat (first | (with_reducible first | exact HB.out | apply below_alloc | apply pw_below_drewN | apply below_drew1) | exact HB.out)) hb); clear HB; have HB := n0_; clear n0_; (try clear hb); (try clear hb2); (try clear hk); (try clear hi)))
    go_ret
    exact ⟨by first | rfl | (simp [errW_none, errW_some] <;> rfl) | (simp [*, errW_none, errW_some] <;> rfl), by repeat (first | (with_reducible first | exact HB.out | apply below_alloc | apply pw_below_drewN | apply below_drew1) | exact HB.out)⟩

/-! ### glossatorlaw05_FbitsOrder: function 3 -/
def glossatorlaw05_FbitsOrder.f (k : Nat) (a0 : Int) (a1 : Int) (a2 : Int) : Option (Bool) := if 0 ≤ (Int.tmod a0 2) then (if (shl .i64 16 (Int.tmod a0 2)) = 32 then ((fbits_Widen.f k (shl .i64 16 (Int.tmod a0 2)) (mn (IntKind.u64.wrap ((IntKind.u64.wrap (a1)) * 32768)) 2139095040)).bind fun bt191 => ((fbits_Widen.f k (shl .i64 16 (Int.tmod a0 2)) (mn (IntKind.u64.wrap ((IntKind.u64.wrap (a2)) * 32768)) 2139095040)).bind fun bt193 => (if bt191.2 = 0 then (if bt193.2 = 0 then (if ((decide ((mn (IntKind.u64.wrap ((IntKind.u64.wrap (a1)) * 32768)) 2139095040) < (mn (IntKind.u64.wrap ((IntKind.u64.wrap (a2)) * 32768)) 2139095040))) == (decide (bt191.1 < bt193.1))) = true then (if (((mn (IntKind.u64.wrap ((IntKind.u64.wrap (a1)) * 32768)) 2139095040) == (mn (IntKind.u64.wrap ((IntKind.u64.wrap (a2)) * 32768)) 2139095040)) == (bt191.1 == bt193.1)) = true then ((glossatorlaw05_awake.f k).bind fun t195 => (some t195)) else (some false)) else (some false)) else (some false)) else (some false)))) else ((fbits_Widen.f k (shl .i64 16 (Int.tmod a0 2)) (mn (Go.bits .and .u64 (IntKind.u64.wrap (a1)) 32767) 31744)).bind fun bt196 => ((fbits_Widen.f k (shl .i64 16 (Int.tmod a0 2)) (mn (Go.bits .and .u64 (IntKind.u64.wrap (a2)) 32767) 31744)).bind fun bt198 => (if bt196.2 = 0 then (if bt198.2 = 0 then (if ((decide ((mn (Go.bits .and .u64 (IntKind.u64.wrap (a1)) 32767) 31744) < (mn (Go.bits .and .u64 (IntKind.u64.wrap (a2)) 32767) 31744))) == (decide (bt196.1 < bt198.1))) = true then (if (((mn (Go.bits .and .u64 (IntKind.u64.wrap (a1)) 32767) 31744) == (mn (Go.bits .and .u64 (IntKind.u64.wrap (a2)) 32767) 31744)) == (bt196.1 == bt198.1)) = true then ((glossatorlaw05_awake.f k).bind fun t200 => (some t200)) else (some false)) else (some false)) else (some false)) else (some false))))) else (none)
theorem glossatorlaw05_FbitsOrder.mono : ∀ a0 a1 a2 k, LeO (glossatorlaw05_FbitsOrder.f k a0 a1 a2) (glossatorlaw05_FbitsOrder.f (k + 1) a0 a1 a2) := by
  intro a0 a1 a2 k
  unfold glossatorlaw05_FbitsOrder.f
  repeat' first
      | (with_reducible exact fbits_Widen.mono _ _ _)
      | (with_reducible exact glossatorlaw05_awake.mono _)
      | (with_reducible exact LeO.refl _)
      | (with_reducible exact LeO.none _)
      | (with_reducible refine LeO.ite ?_ ?_)
      | (with_reducible refine LeO.bind ?_ (fun _ => ?_))
      | exact fbits_Widen.mono _ _ _
      | exact glossatorlaw05_awake.mono _
      | exact LeO.none _
      | refine LeO.ite ?_ ?_
      | refine LeO.bind ?_ (fun _ => ?_)
set_option maxHeartbeats 8000000 in
set_option maxRecDepth 100000 in
theorem glossatorlaw05_FbitsOrder.calls (k : Nat) (a0 : Int) (a1 : Int) (a2 : Int) (r : Bool) (w : World) (h : glossatorlaw05_FbitsOrder.f k a0 a1 a2 = some r) :
    Calls Try.prog 3 #[.int .u8 a0, .int .u16 a1, .int .u16 a2] w fun e w' => e = .returned (.bool r) ∧ Below w.heap.size w w' := by
  have HB := Aside0.mk (Below.refl w.heap.size w)
  have H : (if 0 ≤ (Int.tmod a0 2) then (if (shl .i64 16 (Int.tmod a0 2)) = 32 then ((fbits_Widen.f k (shl .i64 16 (Int.tmod a0 2)) (mn (IntKind.u64.wrap ((IntKind.u64.wrap (a1)) * 32768)) 2139095040)).bind fun bt191 => ((fbits_Widen.f k (shl .i64 16 (Int.tmod a0 2)) (mn (IntKind.u64.wrap ((IntKind.u64.wrap (a2)) * 32768)) 2139095040)).bind fun bt193 => (if bt191.2 = 0 then (if bt193.2 = 0 then (if ((decide ((mn (IntKind.u64.wrap ((IntKind.u64.wrap (a1)) * 32768)) 2139095040) < (mn (IntKind.u64.wrap ((IntKind.u64.wrap (a2)) * 32768)) 2139095040))) == (decide (bt191.1 < bt193.1))) = true then (if (((mn (IntKind.u64.wrap ((IntKind.u64.wrap (a1)) * 32768)) 2139095040) == (mn (IntKind.u64.wrap ((IntKind.u64.wrap (a2)) * 32768)) 2139095040)) == (bt191.1 == bt193.1)) = true then ((glossatorlaw05_awake.f k).bind fun t195 => (some t195)) else (some false)) else (some false)) else (some false)) else (some false)))) else ((fbits_Widen.f k (shl .i64 16 (Int.tmod a0 2)) (mn (Go.bits .and .u64 (IntKind.u64.wrap (a1)) 32767) 31744)).bind fun bt196 => ((fbits_Widen.f k (shl .i64 16 (Int.tmod a0 2)) (mn (Go.bits .and .u64 (IntKind.u64.wrap (a2)) 32767) 31744)).bind fun bt198 => (if bt196.2 = 0 then (if bt198.2 = 0 then (if ((decide ((mn (Go.bits .and .u64 (IntKind.u64.wrap (a1)) 32767) 31744) < (mn (Go.bits .and .u64 (IntKind.u64.wrap (a2)) 32767) 31744))) == (decide (bt196.1 < bt198.1))) = true then (if (((mn (Go.bits .and .u64 (IntKind.u64.wrap (a1)) 32767) 31744) == (mn (Go.bits .and .u64 (IntKind.u64.wrap (a2)) 32767) 31744)) == (bt196.1 == bt198.1)) = true then ((glossatorlaw05_awake.f k).bind fun t200 => (some t200)) else (some false)) else (some false)) else (some false)) else (some false))))) else (none)) = some r := h
  clear h
  obtain ⟨ji4, hji4⟩ : ∃ j_ : Int, (Int.tmod a0 2) = j_ := ⟨_, rfl⟩
  replace H : (if 0 ≤ (ji4) then (if (shl .i64 16 (ji4)) = 32 then ((fbits_Widen.f k (shl .i64 16 (ji4)) (mn (IntKind.u64.wrap ((IntKind.u64.wrap (a1)) * 32768)) 2139095040)).bind fun bt191 => ((fbits_Widen.f k (shl .i64 16 (ji4)) (mn (IntKind.u64.wrap ((IntKind.u64.wrap (a2)) * 32768)) 2139095040)).bind fun bt193 => (if bt191.2 = 0 then (if bt193.2 = 0 then (if ((decide ((mn (IntKind.u64.wrap ((IntKind.u64.wrap (a1)) * 32768)) 2139095040) < (mn (IntKind.u64.wrap ((IntKind.u64.wrap (a2)) * 32768)) 2139095040))) == (decide (bt191.1 < bt193.1))) = true then (if (((mn (IntKind.u64.wrap ((IntKind.u64.wrap (a1)) * 32768)) 2139095040) == (mn (IntKind.u64.wrap ((IntKind.u64.wrap (a2)) * 32768)) 2139095040)) == (bt191.1 == bt193.1)) = true then ((glossatorlaw05_awake.f k).bind fun t195 => (some t195)) else (some false)) else (some false)) else (some false)) else (some false)))) else ((fbits_Widen.f k (shl .i64 16 (ji4)) (mn (Go.bits .and .u64 (IntKind.u64.wrap (a1)) 32767) 31744)).bind fun bt196 => ((fbits_Widen.f k (shl .i64 16 (ji4)) (mn (Go.bits .and .u64 (IntKind.u64.wrap (a2)) 32767) 31744)).bind fun bt198 => (if bt196.2 = 0 then (if bt198.2 = 0 then (if ((decide ((mn (Go.bits .and .u64 (IntKind.u64.wrap (a1)) 32767) 31744) < (mn (Go.bits .and .u64 (IntKind.u64.wrap (a2)) 32767) 31744))) == (decide (bt196.1 < bt198.1))) = true then (if (((mn (Go.bits .and .u64 (IntKind.u64.wrap (a1)) 32767) 31744) == (mn (Go.bits .and .u64 (IntKind.u64.wrap (a2)) 32767) 31744)) == (bt196.1 == bt198.1)) = true then ((glossatorlaw05_awake.f k).bind fun t200 => (some t200)) else (some false)) else (some false)) else (some false)) else (some false))))) else (none)) = some r := by first | (rw [hji4] at H; exact H) | (simp only [hji4] at H ⊢; exact H)
  by_cases c5 : 0 ≤ (ji4)
  · rw [if_pos c5] at H
    have c5b0 := eq_true c5
    have c5b1 : decide (0 ≤ (ji4)) = true := decide_eq_true c5
    clear c5
    obtain ⟨ji6, hji6⟩ : ∃ j_ : Int, (shl .i64 16 (ji4)) = j_ := ⟨_, rfl⟩
    replace H : (if (ji6) = 32 then ((fbits_Widen.f k (ji6) (mn (IntKind.u64.wrap ((IntKind.u64.wrap (a1)) * 32768)) 2139095040)).bind fun bt191 => ((fbits_Widen.f k (ji6) (mn (IntKind.u64.wrap ((IntKind.u64.wrap (a2)) * 32768)) 2139095040)).bind fun bt193 => (if bt191.2 = 0 then (if bt193.2 = 0 then (if ((decide ((mn (IntKind.u64.wrap ((IntKind.u64.wrap (a1)) * 32768)) 2139095040) < (mn (IntKind.u64.wrap ((IntKind.u64.wrap (a2)) * 32768)) 2139095040))) == (decide (bt191.1 < bt193.1))) = true then (if (((mn (IntKind.u64.wrap ((IntKind.u64.wrap (a1)) * 32768)) 2139095040) == (mn (IntKind.u64.wrap ((IntKind.u64.wrap (a2)) * 32768)) 2139095040)) == (bt191.1 == bt193.1)) = true then ((glossatorlaw05_awake.f k).bind fun t195 => (some t195)) else (some false)) else (some false)) else (some false)) else (some false)))) else ((fbits_Widen.f k (ji6) (mn (Go.bits .and .u64 (IntKind.u64.wrap (a1)) 32767) 31744)).bind fun bt196 => ((fbits_Widen.f k (ji6) (mn (Go.bits .and .u64 (IntKind.u64.wrap (a2)) 32767) 31744)).bind fun bt198 => (if bt196.2 = 0 then (if bt198.2 = 0 then (if ((decide ((mn (Go.bits .and .u64 (IntKind.u64.wrap (a1)) 32767) 31744) < (mn (Go.bits .and .u64 (IntKind.u64.wrap (a2)) 32767) 31744))) == (decide (bt196.1 < bt198.1))) = true then (if (((mn (Go.bits .and .u64 (IntKind.u64.wrap (a1)) 32767) 31744) == (mn (Go.bits .and .u64 (IntKind.u64.wrap (a2)) 32767) 31744)) == (bt196.1 == bt198.1)) = true then ((glossatorlaw05_awake.f k).bind fun t200 => (some t200)) else (some false)) else (some false)) else (some false)) else (some false))))) = some r := by first | (rw [hji6] at H; exact H) | (simp only [hji6] at H ⊢; exact H)
    have hji6_ : (IntKind.i64.wrap (16 * 2 ^ min (ji4).toNat 64)) = ji6 := hji6
    have hji6z : (ji4) ≤ 64 → (IntKind.i64.wrap (16 * 2 ^ (ji4).toNat)) = ji6 := shl_small hji6
    have hji6y : (wrap64 (16 * 2 ^ min (ji4).toNat 64)) = ji6 := (i64_w _).symm.trans hji6_
    have hji6x : (ji4) ≤ 64 → (wrap64 (16 * 2 ^ (ji4).toNat)) = ji6 := fun h_ => (i64_w _).symm.trans (hji6z h_)
    (try have hji6tz := hji6z (by simp only [beq_iff_eq, decide_eq_true_eq] at *; omega))
    (try have hji6tx := hji6x (by simp only [beq_iff_eq, decide_eq_true_eq] at *; omega))
    obtain ⟨ji7, hji7⟩ : ∃ j_ : Int, (mn (Go.bits .and .u64 (IntKind.u64.wrap (a1)) 32767) 31744) = j_ := ⟨_, rfl⟩
    replace H : (if (ji6) = 32 then ((fbits_Widen.f k (ji6) (mn (IntKind.u64.wrap ((IntKind.u64.wrap (a1)) * 32768)) 2139095040)).bind fun bt191 => ((fbits_Widen.f k (ji6) (mn (IntKind.u64.wrap ((IntKind.u64.wrap (a2)) * 32768)) 2139095040)).bind fun bt193 => (if bt191.2 = 0 then (if bt193.2 = 0 then (if ((decide ((mn (IntKind.u64.wrap ((IntKind.u64.wrap (a1)) * 32768)) 2139095040) < (mn (IntKind.u64.wrap ((IntKind.u64.wrap (a2)) * 32768)) 2139095040))) == (decide (bt191.1 < bt193.1))) = true then (if (((mn (IntKind.u64.wrap ((IntKind.u64.wrap (a1)) * 32768)) 2139095040) == (mn (IntKind.u64.wrap ((IntKind.u64.wrap (a2)) * 32768)) 2139095040)) == (bt191.1 == bt193.1)) = true then ((glossatorlaw05_awake.f k).bind fun t195 => (some t195)) else (some false)) else (some false)) else (some false)) else (some false)))) else ((fbits_Widen.f k (ji6) (ji7)).bind fun bt196 => ((fbits_Widen.f k (ji6) (mn (Go.bits .and .u64 (IntKind.u64.wrap (a2)) 32767) 31744)).bind fun bt198 => (if bt196.2 = 0 then (if bt198.2 = 0 then (if ((decide ((ji7) < (mn (Go.bits .and .u64 (IntKind.u64.wrap (a2)) 32767) 31744))) == (decide (bt196.1 < bt198.1))) = true then (if (((ji7) == (mn (Go.bits .and .u64 (IntKind.u64.wrap (a2)) 32767) 31744)) == (bt196.1 == bt198.1)) = true then ((glossatorlaw05_awake.f k).bind fun t200 => (some t200)) else (some false)) else (some false)) else (some false)) else (some false))))) = some r := by first | (rw [hji7] at H; exact H) | (simp only [hji7] at H ⊢; exact H)
    (try (have hji7h : ji7 ≤ 31744 := by (rw [← hji7]; unfold mn; (repeat' split) <;> omega)))
    (try (have hji7g : ji7 ≤ 64 := by omega))
    have hji7_ : (if 31744 < (Go.bits .and .u64 (IntKind.u64.wrap (a1)) 32767) then 31744 else (Go.bits .and .u64 (IntKind.u64.wrap (a1)) 32767)) = ji7 := hji7
    try (have hji7n_ := hji7_; simp only [Int.ofNat_lt] at hji7n_)
    obtain ⟨ji8, hji8⟩ : ∃ j_ : Int, (mn (Go.bits .and .u64 (IntKind.u64.wrap (a2)) 32767) 31744) = j_ := ⟨_, rfl⟩
    replace H : (if (ji6) = 32 then ((fbits_Widen.f k (ji6) (mn (IntKind.u64.wrap ((IntKind.u64.wrap (a1)) * 32768)) 2139095040)).bind fun bt191 => ((fbits_Widen.f k (ji6) (mn (IntKind.u64.wrap ((IntKind.u64.wrap (a2)) * 32768)) 2139095040)).bind fun bt193 => (if bt191.2 = 0 then (if bt193.2 = 0 then (if ((decide ((mn (IntKind.u64.wrap ((IntKind.u64.wrap (a1)) * 32768)) 2139095040) < (mn (IntKind.u64.wrap ((IntKind.u64.wrap (a2)) * 32768)) 2139095040))) == (decide (bt191.1 < bt193.1))) = true then (if (((mn (IntKind.u64.wrap ((IntKind.u64.wrap (a1)) * 32768)) 2139095040) == (mn (IntKind.u64.wrap ((IntKind.u64.wrap (a2)) * 32768)) 2139095040)) == (bt191.1 == bt193.1)) = true then ((glossatorlaw05_awake.f k).bind fun t195 => (some t195)) else (some false)) else (some false)) else (some false)) else (some false)))) else ((fbits_Widen.f k (ji6) (ji7)).bind fun bt196 => ((fbits_Widen.f k (ji6) (ji8)).bind fun bt198 => (if bt196.2 = 0 then (if bt198.2 = 0 then (if ((decide ((ji7) < (ji8))) == (decide (bt196.1 < bt198.1))) = true then (if (((ji7) == (ji8)) == (bt196.1 == bt198.1)) = true then ((glossatorlaw05_awake.f k).bind fun t200 => (some t200)) else (some false)) else (some false)) else (some false)) else (some false))))) = some r := by first | (rw [hji8] at H; exact H) | (simp only [hji8] at H ⊢; exact H)
    (try (have hji8h : ji8 ≤ 31744 := by (rw [← hji8]; unfold mn; (repeat' split) <;> omega)))
    (try (have hji8g : ji8 ≤ 64 := by omega))
    have hji8_ : (if 31744 < (Go.bits .and .u64 (IntKind.u64.wrap (a2)) 32767) then 31744 else (Go.bits .and .u64 (IntKind.u64.wrap (a2)) 32767)) = ji8 := hji8
    try (have hji8n_ := hji8_; simp only [Int.ofNat_lt] at hji8n_)
    by_cases c9 : (ji6) = 32
    · rw [if_pos c9] at H
      have c9b0 : ((ji6) == 32) = true := beq_iff_eq.mpr c9
      have c9b1 : ((ji6) != 32) = false := bne_eq_false_iff_eq.mpr c9
      clear c9
      obtain ⟨ji10, hji10⟩ : ∃ j_ : Int, (mn (IntKind.u64.wrap ((IntKind.u64.wrap (a1)) * 32768)) 2139095040) = j_ := ⟨_, rfl⟩
      replace H : ((fbits_Widen.f k (ji6) (ji10)).bind fun bt191 => ((fbits_Widen.f k (ji6) (mn (IntKind.u64.wrap ((IntKind.u64.wrap (a2)) * 32768)) 2139095040)).bind fun bt193 => (if bt191.2 = 0 then (if bt193.2 = 0 then (if ((decide ((ji10) < (mn (IntKind.u64.wrap ((IntKind.u64.wrap (a2)) * 32768)) 2139095040))) == (decide (bt191.1 < bt193.1))) = true then (if (((ji10) == (mn (IntKind.u64.wrap ((IntKind.u64.wrap (a2)) * 32768)) 2139095040)) == (bt191.1 == bt193.1)) = true then ((glossatorlaw05_awake.f k).bind fun t195 => (some t195)) else (some false)) else (some false)) else (some false)) else (some false)))) = some r := by first | (rw [hji10] at H; exact H) | (simp only [hji10] at H ⊢; exact H)
      (try (have hji10h : ji10 ≤ 2139095040 := by (rw [← hji10]; unfold mn; (repeat' split) <;> omega)))
      (try (have hji10g : ji10 ≤ 64 := by omega))
      have hji10_ : (if 2139095040 < (IntKind.u64.wrap ((IntKind.u64.wrap (a1)) * 32768)) then 2139095040 else (IntKind.u64.wrap ((IntKind.u64.wrap (a1)) * 32768))) = ji10 := hji10
      try (have hji10n_ := hji10_; simp only [Int.ofNat_lt] at hji10n_)
      obtain ⟨ji11, hji11⟩ : ∃ j_ : Int, (mn (IntKind.u64.wrap ((IntKind.u64.wrap (a2)) * 32768)) 2139095040) = j_ := ⟨_, rfl⟩
      replace H : ((fbits_Widen.f k (ji6) (ji10)).bind fun bt191 => ((fbits_Widen.f k (ji6) (ji11)).bind fun bt193 => (if bt191.2 = 0 then (if bt193.2 = 0 then (if ((decide ((ji10) < (ji11))) == (decide (bt191.1 < bt193.1))) = true then (if (((ji10) == (ji11)) == (bt191.1 == bt193.1)) = true then ((glossatorlaw05_awake.f k).bind fun t195 => (some t195)) else (some false)) else (some false)) else (some false)) else (some false)))) = some r := by first | (rw [hji11] at H; exact H) | (simp only [hji11] at H ⊢; exact H)
      (try (have hji11h : ji11 ≤ 2139095040 := by (rw [← hji11]; unfold mn; (repeat' split) <;> omega)))
      (try (have hji11g : ji11 ≤ 64 := by omega))
      have hji11_ : (if 2139095040 < (IntKind.u64.wrap ((IntKind.u64.wrap (a2)) * 32768)) then 2139095040 else (IntKind.u64.wrap ((IntKind.u64.wrap (a2)) * 32768))) = ji11 := hji11
      try (have hji11n_ := hji11_; simp only [Int.ofNat_lt] at hji11n_)
      replace H := Option.bind_eq_some_iff.mp H
      obtain ⟨⟨t191, t192⟩, A120, H⟩ := H
      replace H : ((fbits_Widen.f k (ji6) (ji11)).bind fun bt193 => (if t192 = 0 then (if bt193.2 = 0 then (if ((decide ((ji10) < (ji11))) == (decide (t191 < bt193.1))) = true then (if (((ji10) == (ji11)) == (t191 == bt193.1)) = true then ((glossatorlaw05_awake.f k).bind fun t195 => (some t195)) else (some false)) else (some false)) else (some false)) else (some false))) = some r := H
      have A12 := Aside0.mk A120
      clear A120
      replace H := Option.bind_eq_some_iff.mp H
      obtain ⟨⟨t193, t194⟩, A130, H⟩ := H
      replace H : (if t192 = 0 then (if t194 = 0 then (if ((decide ((ji10) < (ji11))) == (decide (t191 < t193))) = true then (if (((ji10) == (ji11)) == (t191 == t193)) = true then ((glossatorlaw05_awake.f k).bind fun t195 => (some t195)) else (some false)) else (some false)) else (some false)) else (some false)) = some r := H
      have A13 := Aside0.mk A130
      clear A130
      by_cases c14 : t192 = 0
      · rw [if_pos c14] at H
        have c14b0 : (t192 == 0) = true := beq_iff_eq.mpr c14
        have c14b1 : (t192 != 0) = false := bne_eq_false_iff_eq.mpr c14
        clear c14
        by_cases c15 : t194 = 0
        · rw [if_pos c15] at H
          have c15b0 : (t194 == 0) = true := beq_iff_eq.mpr c15
          have c15b1 : (t194 != 0) = false := bne_eq_false_iff_eq.mpr c15
          clear c15
          by_cases c16 : ((decide ((ji10) < (ji11))) == (decide (t191 < t193))) = true
          · rw [if_pos c16] at H
            have c16b0 : ((decide ((ji10) < (ji11))) == (decide (t191 < t193))) = true := c16
            (try (have c16b1 : decide ((decide ((ji10) < (ji11))) = (decide (t191 < t193))) = true := by simpa using c16))
            (try (have c16b2 : ((decide ((ji10) < (ji11))) == (decide (t191 < t193))) = true := by simpa using c16))
            clear c16
            by_cases c17 : (((ji10) == (ji11)) == (t191 == t193)) = true
            · rw [if_pos c17] at H
              have c17b0 : (((ji10) == (ji11)) == (t191 == t193)) = true := c17
              (try (have c17b1 : decide (((ji10) == (ji11)) = (t191 == t193)) = true := by simpa using c17))
              (try (have c17b2 : (((ji10) == (ji11)) == (t191 == t193)) = true := by simpa using c17))
              clear c17
              replace H := Option.bind_eq_some_iff.mp H
              obtain ⟨t195, A180, H⟩ := H
              replace H : (some t195) = some r := H
              have A18 := Aside0.mk A180
              clear A180
              obtain rfl := Option.some.inj H
              go_enter Try.func3, Try.ntmps3
              go_wp2_with (first | ((with_reducible refine gate_callee (f := 7) rfl ?_); refine goesL_ (some 38) rfl rfl Try.func7 (by kernel_rfl) rfl #[.int .i64 ji6, .int .u64 ji10] rfl (by (try simp only [List.map_toArray, List.map_cons, List.map_nil]); first | done | (simp only [hji10, hji6]; rfl) | rfl | (simp only [List.length_drop, List.length_take]; rfl)) ?_; (with_reducible refine (fbits_Widen.calls k ji6 ji10 t191 t192 _ A12.out).mono ?_); rintro e w19 ⟨rfl, hb⟩; refine ⟨_, rfl, ?_⟩; have n0_ := Aside0.mk (below_step (by repeat (first | (with_reducible first | exact HB.out | apply below_alloc | apply pw_below_drewN | apply below_drew1) | exact HB.out)) hb); clear HB; have HB := n0_; clear n0_; (try clear hb); (try clear hb2); (try clear hk); (try clear hi)) | ((with_reducible refine gate_callee (f := 7) rfl ?_); refine goesL_ (some 44) rfl rfl Try.func7 (by kernel_rfl) rfl #[.int .i64 ji6, .int .u64 ji11] rfl (by (try simp only [List.map_toArray, List.map_cons, List.map_nil]); first | done | (simp only [hji11, hji6]; rfl) | rfl | (simp only [List.length_drop, List.length_take]; rfl)) ?_; (with_reducible refine (fbits_Widen.calls k ji6 ji11 t193 t194 _ A13.out).mono ?_); rintro e w20 ⟨rfl, hb⟩; refine ⟨_, rfl, ?_⟩; have n0_ := Aside0.mk (below_step (by repeat (first | (with_reducible first | exact HB.out | apply below_alloc | apply pw_below_drewN | apply below_drew1) | exact HB.out)) hb); clear HB; have HB := n0_; clear n0_; (try clear hb); (try clear hb2); (try clear hk); (try clear hi)) | (go_at_call 8; (with_reducible refine (glossatorlaw05_awake.calls k  t195 _ A18.out).mono ?_); rintro e w21 ⟨rfl, hb⟩; have n0_ := Aside0.mk (below_step (by repeat (first | (with_reducible first | exact HB.out | apply below_alloc | apply pw_below_drewN | apply below_drew1) | exact HB.out)) hb); clear HB; have HB := n0_; clear n0_; (try clear hb); (try clear hb2); (try clear hk); (try clear hi)))
              go_ret
              exact ⟨by first | rfl | (simp [errW_none, errW_some] <;> rfl) | (simp only [← hji4, ← hji6, ← hji7, ← hji8, ← hji10, ← hji11]; first | rfl | (simp [errW_none, errW_some] <;> rfl)) | (simp [*, errW_none, errW_some] <;> rfl), by repeat (first | (with_reducible first | exact HB.out | apply below_alloc | apply pw_below_drewN | apply below_drew1) | exact HB.out)⟩
            · rw [if_neg c17] at H
              have c17b0 : (((ji10) == (ji11)) == (t191 == t193)) = false := by simpa using c17
              (try (have c17b1 : decide (((ji10) == (ji11)) = (t191 == t193)) = false := by simpa using c17))
              (try (have c17b2 : (((ji10) == (ji11)) == (t191 == t193)) = false := by simpa using c17))
              (try (have c17b3 : ¬ (((ji10) == (ji11)) = (t191 == t193)) := by simpa using c17))
              clear c17
              obtain rfl := Option.some.inj H
              go_enter Try.func3, Try.ntmps3
              go_wp2_with (first | ((with_reducible refine gate_callee (f := 7) rfl ?_); refine goesL_ (some 38) rfl rfl Try.func7 (by kernel_rfl) rfl #[.int .i64 ji6, .int .u64 ji10] rfl (by (try simp only [List.map_toArray, List.map_cons, List.map_nil]); first | done | (simp only [hji10, hji6]; rfl) | rfl | (simp only [List.length_drop, List.length_take]; rfl)) ?_; (with_reducible refine (fbits_Widen.calls k ji6 ji10 t191 t192 _ A12.out).mono ?_); rintro e w22 ⟨rfl, hb⟩; refine ⟨_, rfl, ?_⟩; have n0_ := Aside0.mk (below_step (by repeat (first | (with_reducible first | exact HB.out | apply below_alloc | apply pw_below_drewN | apply below_drew1) | exact HB.out)) hb); clear HB; have HB := n0_; clear n0_; (try clear hb); (try clear hb2); (try clear hk); (try clear hi)) | ((with_reducible refine gate_callee (f := 7) rfl ?_); refine goesL_ (some 44) rfl rfl Try.func7 (by kernel_rfl) rfl #[.int .i64 ji6, .int .u64 ji11] rfl (by (try simp only [List.map_toArray, List.map_cons, List.map_nil]); first | done | (simp only [hji11, hji6]; rfl) | rfl | (simp only [List.length_drop, List.length_take]; rfl)) ?_; (with_reducible refine (fbits_Widen.calls k ji6 ji11 t193 t194 _ A13.out).mono ?_); rintro e w23 ⟨rfl, hb⟩; refine ⟨_, rfl, ?_⟩; have n0_ := Aside0.mk (below_step (by repeat (first | (with_reducible first | exact HB.out | apply below_alloc | apply pw_below_drewN | apply below_drew1) | exact HB.out)) hb); clear HB; have HB := n0_; clear n0_; (try clear hb); (try clear hb2); (try clear hk); (try clear hi)))
              go_ret
              exact ⟨by first | rfl | (simp [errW_none, errW_some] <;> rfl) | (simp only [← hji4, ← hji6, ← hji7, ← hji8, ← hji10, ← hji11]; first | rfl | (simp [errW_none, errW_some] <;> rfl)) | (simp [*, errW_none, errW_some] <;> rfl), by repeat (first | (with_reducible first | exact HB.out | apply below_alloc | apply pw_below_drewN | apply below_drew1) | exact HB.out)⟩
          · rw [if_neg c16] at H
            have c16b0 : ((decide ((ji10) < (ji11))) == (decide (t191 < t193))) = false := by simpa using c16
            (try (have c16b1 : decide ((decide ((ji10) < (ji11))) = (decide (t191 < t193))) = false := by simpa using c16))
            (try (have c16b2 : ((decide ((ji10) < (ji11))) == (decide (t191 < t193))) = false := by simpa using c16))
            (try (have c16b3 : ¬ ((decide ((ji10) < (ji11))) = (decide (t191 < t193))) := by simpa using c16))
            clear c16
            obtain rfl := Option.some.inj H
            go_enter Try.func3, Try.ntmps3
            go_wp2_with (first | ((with_reducible refine gate_callee (f := 7) rfl ?_); refine goesL_ (some 38) rfl rfl Try.func7 (by kernel_rfl) rfl #[.int .i64 ji6, .int .u64 ji10] rfl (by (try simp only [List.map_toArray, List.map_cons, List.map_nil]); first | done | (simp only [hji10, hji6]; rfl) | rfl | (simp only [List.length_drop, List.length_take]; rfl)) ?_; (with_reducible refine (fbits_Widen.calls k ji6 ji10 t191 t192 _ A12.out).mono ?_); rintro e w24 ⟨rfl, hb⟩; refine ⟨_, rfl, ?_⟩; have n0_ := Aside0.mk (below_step (by repeat (first | (with_reducible first | exact HB.out | apply below_alloc | apply pw_below_drewN | apply below_drew1) | exact HB.out)) hb); clear HB; have HB := n0_; clear n0_; (try clear hb); (try clear hb2); (try clear hk); (try clear hi)) | ((with_reducible refine gate_callee (f := 7) rfl ?_); refine goesL_ (some 44) rfl rfl Try.func7 (by kernel_rfl) rfl #[.int .i64 ji6, .int .u64 ji11] rfl (by (try simp only [List.map_toArray, List.map_cons, List.map_nil]); first | done | (simp only [hji11, hji6]; rfl) | rfl | (simp only [List.length_drop, List.length_take]; rfl)) ?_; (with_reducible refine (fbits_Widen.calls k ji6 ji11 t193 t194 _ A13.out).mono ?_); rintro e w25 ⟨rfl, hb⟩; refine ⟨_, rfl, ?_⟩; have n0_ := Aside0.mk (below_step (by repeat (first | (with_reducible first | exact HB.out | apply below_alloc | apply pw_below_drewN | apply below_drew1) | exact HB.out)) hb); clear HB; have HB := n0_; clear n0_; (try clear hb); (try clear hb2); (try clear hk); (try clear hi)))
            go_ret
            exact ⟨by first | rfl | (simp [errW_none, errW_some] <;> rfl) | (simp only [← hji4, ← hji6, ← hji7, ← hji8, ← hji10, ← hji11]; first | rfl | (simp [errW_none, errW_some] <;> rfl)) | (simp [*, errW_none, errW_some] <;> rfl), by repeat (first | (with_reducible first | exact HB.out | apply below_alloc | apply pw_below_drewN | apply below_drew1) | exact HB.out)⟩
        · rw [if_neg c15] at H
          have c15b0 : (t194 == 0) = false := beq_eq_false_iff_ne.mpr c15
          have c15b1 : (t194 != 0) = true := bne_iff_ne.mpr c15
          obtain rfl := Option.some.inj H
          go_enter Try.func3, Try.ntmps3
          go_wp2_with (first | ((with_reducible refine gate_callee (f := 7) rfl ?_); refine goesL_ (some 38) rfl rfl Try.func7 (by kernel_rfl) rfl #[.int .i64 ji6, .int .u64 ji10] rfl (by (try simp only [List.map_toArray, List.map_cons, List.map_nil]); first | done | (simp only [hji10, hji6]; rfl) | rfl | (simp only [List.length_drop, List.length_take]; rfl)) ?_; (with_reducible refine (fbits_Widen.calls k ji6 ji10 t191 t192 _ A12.out).mono ?_); rintro e w26 ⟨rfl, hb⟩; refine ⟨_, rfl, ?_⟩; have n0_ := Aside0.mk (below_step (by repeat (first | (with_reducible first | exact HB.out | apply below_alloc | apply pw_below_drewN | apply below_drew1) | exact HB.out)) hb); clear HB; have HB := n0_; clear n0_; (try clear hb); (try clear hb2); (try clear hk); (try clear hi)) | ((with_reducible refine gate_callee (f := 7) rfl ?_); refine goesL_ (some 44) rfl rfl Try.func7 (by kernel_rfl) rfl #[.int .i64 ji6, .int .u64 ji11] rfl (by (try simp only [List.map_toArray, List.map_cons, List.map_nil]); first | done | (simp only [hji11, hji6]; rfl) | rfl | (simp only [List.length_drop, List.length_take]; rfl)) ?_; (with_reducible refine (fbits_Widen.calls k ji6 ji11 t193 t194 _ A13.out).mono ?_); rintro e w27 ⟨rfl, hb⟩; refine ⟨_, rfl, ?_⟩; have n0_ := Aside0.mk (below_step (by repeat (first | (with_reducible first | exact HB.out | apply below_alloc | apply pw_below_drewN | apply below_drew1) | exact HB.out)) hb); clear HB; have HB := n0_; clear n0_; (try clear hb); (try clear hb2); (try clear hk); (try clear hi)))
          go_ret
          exact ⟨by first | rfl | (simp [errW_none, errW_some] <;> rfl) | (simp only [← hji4, ← hji6, ← hji7, ← hji8, ← hji10, ← hji11]; first | rfl | (simp [errW_none, errW_some] <;> rfl)) | (simp [*, errW_none, errW_some] <;> rfl), by repeat (first | (with_reducible first | exact HB.out | apply below_alloc | apply pw_below_drewN | apply below_drew1) | exact HB.out)⟩
      · rw [if_neg c14] at H
        have c14b0 : (t192 == 0) = false := beq_eq_false_iff_ne.mpr c14
        have c14b1 : (t192 != 0) = true := bne_iff_ne.mpr c14
        obtain rfl := Option.some.inj H
        go_enter Try.func3, Try.ntmps3
        go_wp2_with (first | ((with_reducible refine gate_callee (f := 7) rfl ?_); refine goesL_ (some 38) rfl rfl Try.func7 (by kernel_rfl) rfl #[.int .i64 ji6, .int .u64 ji10] rfl (by (try simp only [List.map_toArray, List.map_cons, List.map_nil]); first | done | (simp only [hji10, hji6]; rfl) | rfl | (simp only [List.length_drop, List.length_take]; rfl)) ?_; (with_reducible refine (fbits_Widen.calls k ji6 ji10 t191 t192 _ A12.out).mono ?_); rintro e w28 ⟨rfl, hb⟩; refine ⟨_, rfl, ?_⟩; have n0_ := Aside0.mk (below_step (by repeat (first | (with_reducible first | exact HB.out | apply below_alloc | apply pw_below_drewN | apply below_drew1) | exact HB.out)) hb); clear HB; have HB := n0_; clear n0_; (try clear hb); (try clear hb2); (try clear hk); (try clear hi)) | ((with_reducible refine gate_callee (f := 7) rfl ?_); refine goesL_ (some 44) rfl rfl Try.func7 (by kernel_rfl) rfl #[.int .i64 ji6, .int .u64 ji11] rfl (by (try simp only [List.map_toArray, List.map_cons, List.map_nil]); first | done | (simp only [hji11, hji6]; rfl) | rfl | (simp only [List.length_drop, List.length_take]; rfl)) ?_; (with_reducible refine (fbits_Widen.calls k ji6 ji11 t193 t194 _ A13.out).mono ?_); rintro e w29 ⟨rfl, hb⟩; refine ⟨_, rfl, ?_⟩; have n0_ := Aside0.mk (below_step (by repeat (first | (with_reducible first | exact HB.out | apply below_alloc | apply pw_below_drewN | apply below_drew1) | exact HB.out)) hb); clear HB; have HB := n0_; clear n0_; (try clear hb); (try clear hb2); (try clear hk); (try clear hi)))
        go_ret
        exact ⟨by first | rfl | (simp [errW_none, errW_some] <;> rfl) | (simp only [← hji4, ← hji6, ← hji7, ← hji8, ← hji10, ← hji11]; first | rfl | (simp [errW_none, errW_some] <;> rfl)) | (simp [*, errW_none, errW_some] <;> rfl), by repeat (first | (with_reducible first | exact HB.out | apply below_alloc | apply pw_below_drewN | apply below_drew1) | exact HB.out)⟩
    · rw [if_neg c9] at H
      have c9b0 : ((ji6) == 32) = false := beq_eq_false_iff_ne.mpr c9
      have c9b1 : ((ji6) != 32) = true := bne_iff_ne.mpr c9
      replace H := Option.bind_eq_some_iff.mp H
      obtain ⟨⟨t196, t197⟩, A300, H⟩ := H
      replace H : ((fbits_Widen.f k (ji6) (ji8)).bind fun bt198 => (if t197 = 0 then (if bt198.2 = 0 then (if ((decide ((ji7) < (ji8))) == (decide (t196 < bt198.1))) = true then (if (((ji7) == (ji8)) == (t196 == bt198.1)) = true then ((glossatorlaw05_awake.f k).bind fun t200 => (some t200)) else (some false)) else (some false)) else (some false)) else (some false))) = some r := H
      have A30 := Aside0.mk A300
      clear A300
      replace H := Option.bind_eq_some_iff.mp H
      obtain ⟨⟨t198, t199⟩, A310, H⟩ := H
      replace H : (if t197 = 0 then (if t199 = 0 then (if ((decide ((ji7) < (ji8))) == (decide (t196 < t198))) = true then (if (((ji7) == (ji8)) == (t196 == t198)) = true then ((glossatorlaw05_awake.f k).bind fun t200 => (some t200)) else (some false)) else (some false)) else (some false)) else (some false)) = some r := H
      have A31 := Aside0.mk A310
      clear A310
      by_cases c32 : t197 = 0
      · rw [if_pos c32] at H
        have c32b0 : (t197 == 0) = true := beq_iff_eq.mpr c32
        have c32b1 : (t197 != 0) = false := bne_eq_false_iff_eq.mpr c32
        clear c32
        by_cases c33 : t199 = 0
        · rw [if_pos c33] at H
          have c33b0 : (t199 == 0) = true := beq_iff_eq.mpr c33
          have c33b1 : (t199 != 0) = false := bne_eq_false_iff_eq.mpr c33
          clear c33
          by_cases c34 : ((decide ((ji7) < (ji8))) == (decide (t196 < t198))) = true
          · rw [if_pos c34] at H
            have c34b0 : ((decide ((ji7) < (ji8))) == (decide (t196 < t198))) = true := c34
            (try (have c34b1 : decide ((decide ((ji7) < (ji8))) = (decide (t196 < t198))) = true := by simpa using c34))
            (try (have c34b2 : ((decide ((ji7) < (ji8))) == (decide (t196 < t198))) = true := by simpa using c34))
            clear c34
            by_cases c35 : (((ji7) == (ji8)) == (t196 == t198)) = true
            · rw [if_pos c35] at H
              have c35b0 : (((ji7) == (ji8)) == (t196 == t198)) = true := c35
              (try (have c35b1 : decide (((ji7) == (ji8)) = (t196 == t198)) = true := by simpa using c35))
              (try (have c35b2 : (((ji7) == (ji8)) == (t196 == t198)) = true := by simpa using c35))
              clear c35
              replace H := Option.bind_eq_some_iff.mp H
              obtain ⟨t200, A360, H⟩ := H
              replace H : (some t200) = some r := H
              have A36 := Aside0.mk A360
              clear A360
              obtain rfl := Option.some.inj H
              go_enter Try.func3, Try.ntmps3
              go_wp2_with (first | ((with_reducible refine gate_callee (f := 7) rfl ?_); refine goesL_ (some 38) rfl rfl Try.func7 (by kernel_rfl) rfl #[.int .i64 ji6, .int .u64 ji7] rfl (by (try simp only [List.map_toArray, List.map_cons, List.map_nil]); first | done | (simp only [hji6, hji7]; rfl) | rfl | (simp only [List.length_drop, List.length_take]; rfl)) ?_; (with_reducible refine (fbits_Widen.calls k ji6 ji7 t196 t197 _ A30.out).mono ?_); rintro e w37 ⟨rfl, hb⟩; refine ⟨_, rfl, ?_⟩; have n0_ := Aside0.mk (below_step (by repeat (first | (with_reducible first | exact HB.out | apply below_alloc | apply pw_below_drewN | apply below_drew1) | exact HB.out)) hb); clear HB; have HB := n0_; clear n0_; (try clear hb); (try clear hb2); (try clear hk); (try clear hi)) | ((with_reducible refine gate_callee (f := 7) rfl ?_); refine goesL_ (some 44) rfl rfl Try.func7 (by kernel_rfl) rfl #[.int .i64 ji6, .int .u64 ji8] rfl (by (try simp only [List.map_toArray, List.map_cons, List.map_nil]); first | done | (simp only [hji6, hji8]; rfl) | rfl | (simp only [List.length_drop, List.length_take]; rfl)) ?_; (with_reducible refine (fbits_Widen.calls k ji6 ji8 t198 t199 _ A31.out).mono ?_); rintro e w38 ⟨rfl, hb⟩; refine ⟨_, rfl, ?_⟩; have n0_ := Aside0.mk (below_step (by repeat (first | (with_reducible first | exact HB.out | apply below_alloc | apply pw_below_drewN | apply below_drew1) | exact HB.out)) hb); clear HB; have HB := n0_; clear n0_; (try clear hb); (try clear hb2); (try clear hk); (try clear hi)) | (go_at_call 8; (with_reducible refine (glossatorlaw05_awake.calls k  t200 _ A36.out).mono ?_); rintro e w39 ⟨rfl, hb⟩; have n0_ := Aside0.mk (below_step (by repeat (first | (with_reducible first | exact HB.out | apply below_alloc | apply pw_below_drewN | apply below_drew1) | exact HB.out)) hb); clear HB; have HB := n0_; clear n0_; (try clear hb); (try clear hb2); (try clear hk); (try clear hi)))
              go_ret
              exact ⟨by first | rfl | (simp [errW_none, errW_some] <;> rfl) | (simp only [← hji4, ← hji6, ← hji7, ← hji8]; first | rfl | (simp [errW_none, errW_some] <;> rfl)) | (simp [*, errW_none, errW_some] <;> rfl), by repeat (first | (with_reducible first | exact HB.out | apply below_alloc | apply pw_below_drewN | apply below_drew1) | exact HB.out)⟩
            · rw [if_neg c35] at H
              have c35b0 : (((ji7) == (ji8)) == (t196 == t198)) = false := by simpa using c35
              (try (have c35b1 : decide (((ji7) == (ji8)) = (t196 == t198)) = false := by simpa using c35))
              (try (have c35b2 : (((ji7) == (ji8)) == (t196 == t198)) = false := by simpa using c35))
              (try (have c35b3 : ¬ (((ji7) == (ji8)) = (t196 == t198)) := by simpa using c35))
              clear c35
              obtain rfl := Option.some.inj H
              go_enter Try.func3, Try.ntmps3
              go_wp2_with (first | ((with_reducible refine gate_callee (f := 7) rfl ?_); refine goesL_ (some 38) rfl rfl Try.func7 (by kernel_rfl) rfl #[.int .i64 ji6, .int .u64 ji7] rfl (by (try simp only [List.map_toArray, List.map_cons, List.map_nil]); first | done | (simp only [hji6, hji7]; rfl) | rfl | (simp only [List.length_drop, List.length_take]; rfl)) ?_; (with_reducible refine (fbits_Widen.calls k ji6 ji7 t196 t197 _ A30.out).mono ?_); rintro e w40 ⟨rfl, hb⟩; refine ⟨_, rfl, ?_⟩; have n0_ := Aside0.mk (below_step (by repeat (first | (with_reducible first | exact HB.out | apply below_alloc | apply pw_below_drewN | apply below_drew1) | exact HB.out)) hb); clear HB; have HB := n0_; clear n0_; (try clear hb); (try clear hb2); (try clear hk); (try clear hi)) | ((with_reducible refine gate_callee (f := 7) rfl ?_); refine goesL_ (some 44) rfl rfl Try.func7 (by kernel_rfl) rfl #[.int .i64 ji6, .int .u64 ji8] rfl (by (try simp only [List.map_toArray, List.map_cons, List.map_nil]); first | done | (simp only [hji6, hji8]; rfl) | rfl | (simp only [List.length_drop, List.length_take]; rfl)) ?_; (with_reducible refine (fbits_Widen.calls k ji6 ji8 t198 t199 _ A31.out).mono ?_); rintro e w41 ⟨rfl, hb⟩; refine ⟨_, rfl, ?_⟩; have n0_ := Aside0.mk (below_step (by repeat (first | (with_reducible first | exact HB.out | apply below_alloc | apply pw_below_drewN | apply below_drew1) | exact HB.out)) hb); clear HB; have HB := n0_; clear n0_; (try clear hb); (try clear hb2); (try clear hk); (try clear hi)))
              go_ret
              exact ⟨by first | rfl | (simp [errW_none, errW_some] <;> rfl) | (simp only [← hji4, ← hji6, ← hji7, ← hji8]; first | rfl | (simp [errW_none, errW_some] <;> rfl)) | (simp [*, errW_none, errW_some] <;> rfl), by repeat (first | (with_reducible first | exact HB.out | apply below_alloc | apply pw_below_drewN | apply below_drew1) | exact HB.out)⟩
          · rw [if_neg c34] at H
            have c34b0 : ((decide ((ji7) < (ji8))) == (decide (t196 < t198))) = false := by simpa using c34
            (try (have c34b1 : decide ((decide ((ji7) < (ji8))) = (decide (t196 < t198))) = false := by simpa using c34))
            (try (have c34b2 : ((decide ((ji7) < (ji8))) == (decide (t196 < t198))) = false := by simpa using c34))
            (try (have c34b3 : ¬ ((decide ((ji7) < (ji8))) = (decide (t196 < t198))) := by simpa using c34))
            clear c34
            obtain rfl := Option.some.inj H
            go_enter Try.func3, Try.ntmps3
            go_wp2_with (first | ((with_reducible refine gate_callee (f := 7) rfl ?_); refine goesL_ (some 38) rfl rfl Try.func7 (by kernel_rfl) rfl #[.int .i64 ji6, .int .u64 ji7] rfl (by (try simp only [List.map_toArray, List.map_cons, List.map_nil]); first | done | (simp only [hji6, hji7]; rfl) | rfl | (simp only [List.length_drop, List.length_take]; rfl)) ?_; (with_reducible refine (fbits_Widen.calls k ji6 ji7 t196 t197 _ A30.out).mono ?_); rintro e w42 ⟨rfl, hb⟩; refine ⟨_, rfl, ?_⟩; have n0_ := Aside0.mk (below_step (by repeat (first | (with_reducible first | exact HB.out | apply below_alloc | apply pw_below_drewN | apply below_drew1) | exact HB.out)) hb); clear HB; have HB := n0_; clear n0_; (try clear hb); (try clear hb2); (try clear hk); (try clear hi)) | ((with_reducible refine gate_callee (f := 7) rfl ?_); refine goesL_ (some 44) rfl rfl Try.func7 (by kernel_rfl) rfl #[.int .i64 ji6, .int .u64 ji8] rfl (by (try simp only [List.map_toArray, List.map_cons, List.map_nil]); first | done | (simp only [hji6, hji8]; rfl) | rfl | (simp only [List.length_drop, List.length_take]; rfl)) ?_; (with_reducible refine (fbits_Widen.calls k ji6 ji8 t198 t199 _ A31.out).mono ?_); rintro e w43 ⟨rfl, hb⟩; refine ⟨_, rfl, ?_⟩; have n0_ := Aside0.mk (below_step (by repeat (first | (with_reducible first | exact HB.out | apply below_alloc | apply pw_below_drewN | apply below_drew1) | exact HB.out)) hb); clear HB; have HB := n0_; clear n0_; (try clear hb); (try clear hb2); (try clear hk); (try clear hi)))
            go_ret
            exact ⟨by first | rfl | (simp [errW_none, errW_some] <;> rfl) | (simp only [← hji4, ← hji6, ← hji7, ← hji8]; first | rfl | (simp [errW_none, errW_some] <;> rfl)) | (simp [*, errW_none, errW_some] <;> rfl), by repeat (first | (with_reducible first | exact HB.out | apply below_alloc | apply pw_below_drewN | apply below_drew1) | exact HB.out)⟩
        · rw [if_neg c33] at H
          have c33b0 : (t199 == 0) = false := beq_eq_false_iff_ne.mpr c33
          have c33b1 : (t199 != 0) = true := bne_iff_ne.mpr c33
          obtain rfl := Option.some.inj H
          go_enter Try.func3, Try.ntmps3
          go_wp2_with (first | ((with_reducible refine gate_callee (f := 7) rfl ?_); refine goesL_ (some 38) rfl rfl Try.func7 (by kernel_rfl) rfl #[.int .i64 ji6, .int .u64 ji7] rfl (by (try simp only [List.map_toArray, List.map_cons, List.map_nil]); first | done | (simp only [hji6, hji7]; rfl) | rfl | (simp only [List.length_drop, List.length_take]; rfl)) ?_; (with_reducible refine (fbits_Widen.calls k ji6 ji7 t196 t197 _ A30.out).mono ?_); rintro e w44 ⟨rfl, hb⟩; refine ⟨_, rfl, ?_⟩; have n0_ := Aside0.mk (below_step (by repeat (first | (with_reducible first | exact HB.out | apply below_alloc | apply pw_below_drewN | apply below_drew1) | exact HB.out)) hb); clear HB; have HB := n0_; clear n0_; (try clear hb); (try clear hb2); (try clear hk); (try clear hi)) | ((with_reducible refine gate_callee (f := 7) rfl ?_); refine goesL_ (some 44) rfl rfl Try.func7 (by kernel_rfl) rfl #[.int .i64 ji6, .int .u64 ji8] rfl (by (try simp only [List.map_toArray, List.map_cons, List.map_nil]); first | done | (simp only [hji6, hji8]; rfl) | rfl | (simp only [List.length_drop, List.length_take]; rfl)) ?_; (with_reducible refine (fbits_Widen.calls k ji6 ji8 t198 t199 _ A31.out).mono ?_); rintro e w45 ⟨rfl, hb⟩; refine ⟨_, rfl, ?_⟩; have n0_ := Aside0.mk (below_step (by repeat (first | (with_reducible first | exact HB.out | apply below_alloc | apply pw_below_drewN | apply below_drew1) | exact HB.out)) hb); clear HB; have HB := n0_; clear n0_; (try clear hb); (try clear hb2); (try clear hk); (try clear hi)))
          go_ret
          exact ⟨by first | rfl | (simp [errW_none, errW_some] <;> rfl) | (simp only [← hji4, ← hji6, ← hji7, ← hji8]; first | rfl | (simp [errW_none, errW_some] <;> rfl)) | (simp [*, errW_none, errW_some] <;> rfl), by repeat (first | (with_reducible first | exact HB.out | apply below_alloc | apply pw_below_drewN | apply below_drew1) | exact HB.out)⟩
      · rw [if_neg c32] at H
        have c32b0 : (t197 == 0) = false := beq_eq_false_iff_ne.mpr c32
        have c32b1 : (t197 != 0) = true := bne_iff_ne.mpr c32
        obtain rfl := Option.some.inj H
        go_enter Try.func3, Try.ntmps3
        go_wp2_with (first | ((with_reducible refine gate_callee (f := 7) rfl ?_); refine goesL_ (some 38) rfl rfl Try.func7 (by kernel_rfl) rfl #[.int .i64 ji6, .int .u64 ji7] rfl (by (try simp only [List.map_toArray, List.map_cons, List.map_nil]); first | done | (simp only [hji6, hji7]; rfl) | rfl | (simp only [List.length_drop, List.length_take]; rfl)) ?_; (with_reducible refine (fbits_Widen.calls k ji6 ji7 t196 t197 _ A30.out).mono ?_); rintro e w46 ⟨rfl, hb⟩; refine ⟨_, rfl, ?_⟩; have n0_ := Aside0.mk (below_step (by repeat (first | (with_reducible first | exact HB.out | apply below_alloc | apply pw_below_drewN | apply below_drew1) | exact HB.out)) hb); clear HB; have HB := n0_; clear n0_; (try clear hb); (try clear hb2); (try clear hk); (try clear hi)) | ((with_reducible refine gate_callee (f := 7) rfl ?_); refine goesL_ (some 44) rfl rfl Try.func7 (by kernel_rfl) rfl #[.int .i64 ji6, .int .u64 ji8] rfl (by (try simp only [List.map_toArray, List.map_cons, List.map_nil]); first | done | (simp only [hji6, hji8]; rfl) | rfl | (simp only [List.length_drop, List.length_take]; rfl)) ?_; (with_reducible refine (fbits_Widen.calls k ji6 ji8 t198 t199 _ A31.out).mono ?_); rintro e w47 ⟨rfl, hb⟩; refine ⟨_, rfl, ?_⟩; have n0_ := Aside0.mk (below_step (by repeat (first | (with_reducible first | exact HB.out | apply below_alloc | apply pw_below_drewN | apply below_drew1) | exact HB.out)) hb); clear HB; have HB := n0_; clear n0_; (try clear hb); (try clear hb2); (try clear hk); (try clear hi)))
        go_ret
        exact ⟨by first | rfl | (simp [errW_none, errW_some] <;> rfl) | (simp only [← hji4, ← hji6, ← hji7, ← hji8]; first | rfl | (simp [errW_none, errW_some] <;> rfl)) | (simp [*, errW_none, errW_some] <;> rfl), by repeat (first | (with_reducible first | exact HB.out | apply below_alloc | apply pw_below_drewN | apply below_drew1) | exact HB.out)⟩
  · rw [if_neg c5] at H
    exact absurd H (by simp)

/-- THE ONE PURE STATEMENT of glossatorlaw05_FbitsOrder: yours. -/
def glossatorlaw05_FbitsOrder.Pure : Prop := ∀ (a0 : Int) (a1 : Int) (a2 : Int), (Lit.int .u8 a0).wf = true → (Lit.int .u16 a1).wf = true → (Lit.int .u16 a2).wf = true → ∃ k, glossatorlaw05_FbitsOrder.f k a0 a1 a2 = some true
theorem glossatorlaw05_FbitsOrder.walk (P : glossatorlaw05_FbitsOrder.Pure) (a0 : Int) (a1 : Int) (a2 : Int) (w : World) (w0 : (Lit.int .u8 a0).wf = true) (w1 : (Lit.int .u16 a1).wf = true) (w2 : (Lit.int .u16 a2).wf = true) :
    Calls Try.prog 3 #[.int .u8 a0, .int .u16 a1, .int .u16 a2] w fun e w' => e = .returned (.bool true) ∧ Below w.heap.size w w' := by
  obtain ⟨k, h⟩ := P a0 a1 a2 w0 w1 w2
  refine (glossatorlaw05_FbitsOrder.calls k a0 a1 a2 true w h).mono ?_
  rintro e w' ⟨rfl, hd⟩
  exact ⟨rfl, hd⟩

end Go.Proofs.Ytjefhpbliihonaa.PFbitsOrder
