-- Written by a program of this session out of the kit's print (print.py, its switches or its text changed): not the kit's own print
import Derived.Test.YtjefhpbliihonaaPFbitsTurnsx0
import Derived.Test.YtjefhpbliihonaaPFbitsTurnsx5
namespace Go.Proofs.Ytjefhpbliihonaa.PFbitsTurns
open Go.RowKit Go.Proofs.YtjefhpbliihonaaW.PrintWords Go.Proofs.YtjefhpbliihonaaW.PrintLast Go.Proofs.YtjefhpbliihonaaW.PrintMore
attribute [local go_sem] max2_int min2_int max_two min_two max_three min_three max_four min_four   -- for this text's walks alone
set_option linter.unusedVariables false
set_option linter.unusedSimpArgs false

/-! ### glossatorlaw05_awake: function 8 -/
def glossatorlaw05_awake.f (k : Nat)  : Option (Bool) := (fbits_Widen.f k 16 15360).bind fun bt189 => (if bt189.2 = 0 then (some (bt189.1 == 4607182418800017408)) else (some false))
theorem glossatorlaw05_awake.mono : ∀ k, LeO (glossatorlaw05_awake.f k ) (glossatorlaw05_awake.f (k + 1) ) := by
  intro  k
  unfold glossatorlaw05_awake.f
  repeat' first
      | (with_reducible exact fbits_Widen.mono _ _ _)
      | (with_reducible exact LeO.refl _)
      | (with_reducible exact LeO.none _)
      | (with_reducible refine LeO.ite ?_ ?_)
      | (with_reducible refine LeO.bind ?_ (fun _ => ?_))
      | exact fbits_Widen.mono _ _ _
      | exact LeO.none _
      | refine LeO.ite ?_ ?_
      | refine LeO.bind ?_ (fun _ => ?_)
set_option maxHeartbeats 8000000 in
set_option maxRecDepth 100000 in
theorem glossatorlaw05_awake.calls (k : Nat)  (r : Bool) (w : World) (h : glossatorlaw05_awake.f k  = some r) :
    Calls Try.prog 8 #[] w fun e w' => e = .returned (.bool r) ∧ Below w.heap.size w w' := by
  have HB := Aside0.mk (Below.refl w.heap.size w)
  have H : ((fbits_Widen.f k 16 15360).bind fun bt189 => (if bt189.2 = 0 then (some (bt189.1 == 4607182418800017408)) else (some false))) = some r := h
  clear h
  replace H := Option.bind_eq_some_iff.mp H
  obtain ⟨⟨t189, t190⟩, A10, H⟩ := H
  replace H : (if t190 = 0 then (some (t189 == 4607182418800017408)) else (some false)) = some r := H
  have A1 := Aside0.mk A10
  clear A10
  by_cases c2 : t190 = 0
  · rw [if_pos c2] at H
    have c2b0 : (t190 == 0) = true := beq_iff_eq.mpr c2
    have c2b1 : (t190 != 0) = false := bne_eq_false_iff_eq.mpr c2
    clear c2
    obtain rfl := Option.some.inj H
    go_enter Try.func8, Try.ntmps8
    go_wp2_with (first | ((with_reducible refine gate_callee (f := 7) rfl ?_); refine goesL_ (some 4) rfl rfl Try.func7 (by kernel_rfl) rfl #[.int .i64 16, .int .u64 15360] rfl (by (try simp only [List.map_toArray, List.map_cons, List.map_nil]); first | done | rfl | (simp only [List.length_drop, List.length_take]; rfl)) ?_; (with_reducible refine (fbits_Widen.calls k 16 15360 t189 t190 _ A1.out).mono ?_); rintro e w3 ⟨rfl, hb⟩; refine ⟨_, rfl, ?_⟩; have n0_ := Aside0.mk (below_step (by repeat (first | (with_reducible first | exact HB.out | apply below_alloc | apply pw_below_drewN | apply below_drew1) | exact HB.out)) hb); clear HB; have HB := n0_; clear n0_; (try clear hb); (try clear hb2); (try clear hk); (try clear hi)))
    go_ret
    exact ⟨by first | rfl | (simp [errW_none, errW_some] <;> rfl) | (simp [*, errW_none, errW_some] <;> rfl), by repeat (first | (with_reducible first | exact HB.out | apply below_alloc | apply pw_below_drewN | apply below_drew1) | exact HB.out)⟩
  · rw [if_neg c2] at H
    have c2b0 : (t190 == 0) = false := beq_eq_false_iff_ne.mpr c2
    have c2b1 : (t190 != 0) = true := bne_iff_ne.mpr c2
    obtain rfl := Option.some.inj H
    go_enter Try.func8, Try.ntmps8
    go_wp2_with (first | ((with_reducible refine gate_callee (f := 7) rfl ?_); refine goesL_ (some 4) rfl rfl Try.func7 (by kernel_rfl) rfl #[.int .i64 16, .int .u64 15360] rfl (by (try simp only [List.map_toArray, List.map_cons, List.map_nil]); first | done | rfl | (simp only [List.length_drop, List.length_take]; rfl)) ?_; (with_reducible refine (fbits_Widen.calls k 16 15360 t189 t190 _ A1.out).mono ?_); rintro e w4 ⟨rfl, hb⟩; refine ⟨_, rfl, ?_⟩; have n0_ := Aside0.mk (below_step (by repeat (first | (with_reducible first | exact HB.out | apply below_alloc | apply pw_below_drewN | apply below_drew1) | exact HB.out)) hb); clear HB; have HB := n0_; clear n0_; (try clear hb); (try clear hb2); (try clear hk); (try clear hi)))
    go_ret
    exact ⟨by first | rfl | (simp [errW_none, errW_some] <;> rfl) | (simp [*, errW_none, errW_some] <;> rfl), by repeat (first | (with_reducible first | exact HB.out | apply below_alloc | apply pw_below_drewN | apply below_drew1) | exact HB.out)⟩

/-! ### glossatorref05_widths: function 24 -/
def glossatorref05_widths.f (a0 : Int) : Option (Int × Int) := if a0 = 16 then (some (5, 10)) else (if a0 = 32 then (some (8, 23)) else (if a0 = 64 then (some (11, 52)) else (some (0, 0))))
set_option maxHeartbeats 8000000 in
set_option maxRecDepth 100000 in
theorem glossatorref05_widths.calls (a0 : Int) (r1 : Int) (r2 : Int) (w : World) (h : glossatorref05_widths.f a0 = some (r1, r2)) :
    Calls Try.prog 24 #[.int .i64 a0] w fun e w' => e = .returned (.tuple #[.int .i64 r1, .int .i64 r2]) ∧ Drawn0 w w' := by
  have H : (if a0 = 16 then (some (5, 10)) else (if a0 = 32 then (some (8, 23)) else (if a0 = 64 then (some (11, 52)) else (some (0, 0))))) = some (r1, r2) := h
  clear h
  by_cases c2 : a0 = 16
  · rw [if_pos c2] at H
    have c2b0 : (a0 == 16) = true := beq_iff_eq.mpr c2
    have c2b1 : (a0 != 16) = false := bne_eq_false_iff_eq.mpr c2
    clear c2
    simp only [Option.some.injEq, Prod.mk.injEq] at H
    obtain ⟨rfl, rfl⟩ := H
    go_enter Try.func24, Try.ntmps24
    go_wp2
    go_ret2
    exact ⟨by first | rfl | (simp; done) | (simp [*]; done), by repeat (first | exact Drawn0.refl _ | apply Drawn0.step)⟩
  · rw [if_neg c2] at H
    have c2b0 : (a0 == 16) = false := beq_eq_false_iff_ne.mpr c2
    have c2b1 : (a0 != 16) = true := bne_iff_ne.mpr c2
    by_cases c3 : a0 = 32
    · rw [if_pos c3] at H
      have c3b0 : (a0 == 32) = true := beq_iff_eq.mpr c3
      have c3b1 : (a0 != 32) = false := bne_eq_false_iff_eq.mpr c3
      clear c3
      simp only [Option.some.injEq, Prod.mk.injEq] at H
      obtain ⟨rfl, rfl⟩ := H
      go_enter Try.func24, Try.ntmps24
      go_wp2
      go_ret2
      exact ⟨by first | rfl | (simp; done) | (simp [*]; done), by repeat (first | exact Drawn0.refl _ | apply Drawn0.step)⟩
    · rw [if_neg c3] at H
      have c3b0 : (a0 == 32) = false := beq_eq_false_iff_ne.mpr c3
      have c3b1 : (a0 != 32) = true := bne_iff_ne.mpr c3
      by_cases c4 : a0 = 64
      · rw [if_pos c4] at H
        have c4b0 : (a0 == 64) = true := beq_iff_eq.mpr c4
        have c4b1 : (a0 != 64) = false := bne_eq_false_iff_eq.mpr c4
        clear c4
        simp only [Option.some.injEq, Prod.mk.injEq] at H
        obtain ⟨rfl, rfl⟩ := H
        go_enter Try.func24, Try.ntmps24
        go_wp2
        go_ret2
        exact ⟨by first | rfl | (simp; done) | (simp [*]; done), by repeat (first | exact Drawn0.refl _ | apply Drawn0.step)⟩
      · rw [if_neg c4] at H
        have c4b0 : (a0 == 64) = false := beq_eq_false_iff_ne.mpr c4
        have c4b1 : (a0 != 64) = true := bne_iff_ne.mpr c4
        simp only [Option.some.injEq, Prod.mk.injEq] at H
        obtain ⟨rfl, rfl⟩ := H
        go_enter Try.func24, Try.ntmps24
        go_wp2
        go_ret2
        exact ⟨by first | rfl | (simp; done) | (simp [*]; done), by repeat (first | exact Drawn0.refl _ | apply Drawn0.step)⟩

/-! ### glossatorref05_Parts: function 12 -/
def glossatorref05_Parts.f (a0 : Int) (a1 : Int) : Option (Bool × Int × Int × Int) := (glossatorref05_widths.f a0).bind fun bt191 => (if bt191.1 = 0 then (some (false, 0, 0, 1)) else (if a0 < 64 then (if 0 ≤ a0 then (if (shr .u64 a1 a0) = 0 then (if 0 ≤ (wrap64 (bt191.1 + bt191.2)) then (if 0 ≤ bt191.2 then (if 0 ≤ bt191.1 then (some (((shr .u64 a1 (wrap64 (bt191.1 + bt191.2))) == 1), Go.bits .and .i64 (wrap64 (shr .u64 a1 bt191.2)) (wrap64 ((shl .i64 1 bt191.1) - 1)), Go.bits .and .u64 a1 (IntKind.u64.wrap ((shl .u64 1 bt191.2) - 1)), 0)) else (none)) else (none)) else (none)) else (some (false, 0, 0, 1))) else (none)) else (if 0 ≤ (wrap64 (bt191.1 + bt191.2)) then (if 0 ≤ bt191.2 then (if 0 ≤ bt191.1 then (some (((shr .u64 a1 (wrap64 (bt191.1 + bt191.2))) == 1), Go.bits .and .i64 (wrap64 (shr .u64 a1 bt191.2)) (wrap64 ((shl .i64 1 bt191.1) - 1)), Go.bits .and .u64 a1 (IntKind.u64.wrap ((shl .u64 1 bt191.2) - 1)), 0)) else (none)) else (none)) else (none))))
set_option maxHeartbeats 8000000 in
set_option maxRecDepth 100000 in
theorem glossatorref05_Parts.calls (a0 : Int) (a1 : Int) (r1 : Bool) (r2 : Int) (r3 : Int) (r4 : Int) (w : World) (h : glossatorref05_Parts.f a0 a1 = some (r1, r2, r3, r4)) :
    Calls Try.prog 12 #[.int .i64 a0, .int .u64 a1] w fun e w' => e = .returned (.tuple #[.bool r1, .int .i64 r2, .int .u64 r3, .int .i64 r4]) ∧ Drawn0 w w' := by
  have H : ((glossatorref05_widths.f a0).bind fun bt191 => (if bt191.1 = 0 then (some (false, 0, 0, 1)) else (if a0 < 64 then (if 0 ≤ a0 then (if (shr .u64 a1 a0) = 0 then (if 0 ≤ (wrap64 (bt191.1 + bt191.2)) then (if 0 ≤ bt191.2 then (if 0 ≤ bt191.1 then (some (((shr .u64 a1 (wrap64 (bt191.1 + bt191.2))) == 1), Go.bits .and .i64 (wrap64 (shr .u64 a1 bt191.2)) (wrap64 ((shl .i64 1 bt191.1) - 1)), Go.bits .and .u64 a1 (IntKind.u64.wrap ((shl .u64 1 bt191.2) - 1)), 0)) else (none)) else (none)) else (none)) else (some (false, 0, 0, 1))) else (none)) else (if 0 ≤ (wrap64 (bt191.1 + bt191.2)) then (if 0 ≤ bt191.2 then (if 0 ≤ bt191.1 then (some (((shr .u64 a1 (wrap64 (bt191.1 + bt191.2))) == 1), Go.bits .and .i64 (wrap64 (shr .u64 a1 bt191.2)) (wrap64 ((shl .i64 1 bt191.1) - 1)), Go.bits .and .u64 a1 (IntKind.u64.wrap ((shl .u64 1 bt191.2) - 1)), 0)) else (none)) else (none)) else (none))))) = some (r1, r2, r3, r4) := h
  clear h
  replace H := Option.bind_eq_some_iff.mp H
  obtain ⟨⟨t191, t192⟩, A30, H⟩ := H
  replace H : (if t191 = 0 then (some (false, 0, 0, 1)) else (if a0 < 64 then (if 0 ≤ a0 then (if (shr .u64 a1 a0) = 0 then (if 0 ≤ (wrap64 (t191 + t192)) then (if 0 ≤ t192 then (if 0 ≤ t191 then (some (((shr .u64 a1 (wrap64 (t191 + t192))) == 1), Go.bits .and .i64 (wrap64 (shr .u64 a1 t192)) (wrap64 ((shl .i64 1 t191) - 1)), Go.bits .and .u64 a1 (IntKind.u64.wrap ((shl .u64 1 t192) - 1)), 0)) else (none)) else (none)) else (none)) else (some (false, 0, 0, 1))) else (none)) else (if 0 ≤ (wrap64 (t191 + t192)) then (if 0 ≤ t192 then (if 0 ≤ t191 then (some (((shr .u64 a1 (wrap64 (t191 + t192))) == 1), Go.bits .and .i64 (wrap64 (shr .u64 a1 t192)) (wrap64 ((shl .i64 1 t191) - 1)), Go.bits .and .u64 a1 (IntKind.u64.wrap ((shl .u64 1 t192) - 1)), 0)) else (none)) else (none)) else (none)))) = some (r1, r2, r3, r4) := H
  have A3 := Aside0.mk A30
  clear A30
  by_cases c4 : t191 = 0
  · rw [if_pos c4] at H
    have c4b0 : (t191 == 0) = true := beq_iff_eq.mpr c4
    have c4b1 : (t191 != 0) = false := bne_eq_false_iff_eq.mpr c4
    clear c4
    simp only [Option.some.injEq, Prod.mk.injEq] at H
    obtain ⟨rfl, rfl, rfl, rfl⟩ := H
    go_enter Try.func12, Try.ntmps12
    go_wp2_with (first | (go_at_call 24; (with_reducible refine (glossatorref05_widths.calls a0 t191 t192 _ A3.out).mono ?_); rintro e w' ⟨rfl, ⟨nd, rfl⟩⟩; (try first | exact ⟨rfl, _, World.drewN_drewN _ _ _⟩ | exact ⟨rfl, _, Eq.trans (World.drewN_drewN _ _ _) (congrArg (World.drewN _) (Nat.add_assoc _ _ _))⟩)))
    repeat (go_quiet (first | (go_at_call 24; (with_reducible refine (glossatorref05_widths.calls a0 t191 t192 _ A3.out).mono ?_); rintro e w' ⟨rfl, ⟨nd, rfl⟩⟩; (try first | exact ⟨rfl, _, World.drewN_drewN _ _ _⟩ | exact ⟨rfl, _, Eq.trans (World.drewN_drewN _ _ _) (congrArg (World.drewN _) (Nat.add_assoc _ _ _))⟩))); try go_wp2_with (first | (go_at_call 24; (with_reducible refine (glossatorref05_widths.calls a0 t191 t192 _ A3.out).mono ?_); rintro e w' ⟨rfl, ⟨nd, rfl⟩⟩; (try first | exact ⟨rfl, _, World.drewN_drewN _ _ _⟩ | exact ⟨rfl, _, Eq.trans (World.drewN_drewN _ _ _) (congrArg (World.drewN _) (Nat.add_assoc _ _ _))⟩))))
    refine bodyPost_ret (results_list (rs := [.tmp 4, .tmp 5, .tmp 6, .tmp 7]) rfl (by simp) (.tmp (.tmp (.tmp (.tmp .nil))))) rfl ?_
    exact ⟨by first | rfl | (simp; done) | (simp [*]; done), by repeat (first | exact Drawn0.refl _ | apply Drawn0.step)⟩
  · rw [if_neg c4] at H
    have c4b0 : (t191 == 0) = false := beq_eq_false_iff_ne.mpr c4
    have c4b1 : (t191 != 0) = true := bne_iff_ne.mpr c4
    by_cases c5 : a0 < 64
    · rw [if_pos c5] at H
      have c5b0 : decide (a0 < 64) = true := decide_eq_true c5
      clear c5
      by_cases c6 : 0 ≤ a0
      · rw [if_pos c6] at H
        have c6b0 := eq_true c6
        have c6b1 : decide (0 ≤ a0) = true := decide_eq_true c6
        clear c6
        obtain ⟨ji7, hji7⟩ : ∃ j_ : Int, (shr .u64 a1 a0) = j_ := ⟨_, rfl⟩
        replace H : (if (ji7) = 0 then (if 0 ≤ (wrap64 (t191 + t192)) then (if 0 ≤ t192 then (if 0 ≤ t191 then (some (((shr .u64 a1 (wrap64 (t191 + t192))) == 1), Go.bits .and .i64 (wrap64 (shr .u64 a1 t192)) (wrap64 ((shl .i64 1 t191) - 1)), Go.bits .and .u64 a1 (IntKind.u64.wrap ((shl .u64 1 t192) - 1)), 0)) else (none)) else (none)) else (none)) else (some (false, 0, 0, 1))) = some (r1, r2, r3, r4) := by first | (rw [hji7] at H; exact H) | (simp only [hji7] at H ⊢; exact H)
        (try rw [hji7] at A3)
        have hji7_ : (a1 / 2 ^ min a0.toNat 64) = ji7 := hji7
        have hji7z : a0 ≤ 64 → (a1 / 2 ^ a0.toNat) = ji7 := shr_small hji7
        (try have hji7tz := hji7z (by simp only [beq_iff_eq, decide_eq_true_eq] at *; omega))
        by_cases c8 : (ji7) = 0
        · rw [if_pos c8] at H
          have c8b0 : ((ji7) == 0) = true := beq_iff_eq.mpr c8
          have c8b1 : ((ji7) != 0) = false := bne_eq_false_iff_eq.mpr c8
          clear c8
          obtain ⟨ji9, hji9⟩ : ∃ j_ : Int, (wrap64 (t191 + t192)) = j_ := ⟨_, rfl⟩
          replace H : (if 0 ≤ (ji9) then (if 0 ≤ t192 then (if 0 ≤ t191 then (some (((shr .u64 a1 (ji9)) == 1), Go.bits .and .i64 (wrap64 (shr .u64 a1 t192)) (wrap64 ((shl .i64 1 t191) - 1)), Go.bits .and .u64 a1 (IntKind.u64.wrap ((shl .u64 1 t192) - 1)), 0)) else (none)) else (none)) else (none)) = some (r1, r2, r3, r4) := by first | (rw [hji9] at H; exact H) | (simp only [hji9] at H ⊢; exact H)
          (try rw [hji9] at A3)
          have hji9w : (IntKind.i64.wrap (t191 + t192)) = ji9 := (i64_w _).trans hji9
          by_cases c10 : 0 ≤ (ji9)
          · rw [if_pos c10] at H
            have c10b0 := eq_true c10
            have c10b1 : decide (0 ≤ (ji9)) = true := decide_eq_true c10
            clear c10
            obtain ⟨ji11, hji11⟩ : ∃ j_ : Int, (shr .u64 a1 (ji9)) = j_ := ⟨_, rfl⟩
            replace H : (if 0 ≤ t192 then (if 0 ≤ t191 then (some (((ji11) == 1), Go.bits .and .i64 (wrap64 (shr .u64 a1 t192)) (wrap64 ((shl .i64 1 t191) - 1)), Go.bits .and .u64 a1 (IntKind.u64.wrap ((shl .u64 1 t192) - 1)), 0)) else (none)) else (none)) = some (r1, r2, r3, r4) := by first | (rw [hji11] at H; exact H) | (simp only [hji11] at H ⊢; exact H)
            (try rw [hji11] at A3)
            have hji11_ : (a1 / 2 ^ min (ji9).toNat 64) = ji11 := hji11
            have hji11z : (ji9) ≤ 64 → (a1 / 2 ^ (ji9).toNat) = ji11 := shr_small hji11
            (try have hji11tz := hji11z (by simp only [beq_iff_eq, decide_eq_true_eq] at *; omega))
            by_cases c12 : 0 ≤ t192
            · rw [if_pos c12] at H
              have c12b0 := eq_true c12
              have c12b1 : decide (0 ≤ t192) = true := decide_eq_true c12
              clear c12
              obtain ⟨ji13, hji13⟩ : ∃ j_ : Int, (shr .u64 a1 t192) = j_ := ⟨_, rfl⟩
              replace H : (if 0 ≤ t191 then (some (((ji11) == 1), Go.bits .and .i64 (wrap64 (ji13)) (wrap64 ((shl .i64 1 t191) - 1)), Go.bits .and .u64 a1 (IntKind.u64.wrap ((shl .u64 1 t192) - 1)), 0)) else (none)) = some (r1, r2, r3, r4) := by first | (rw [hji13] at H; exact H) | (simp only [hji13] at H ⊢; exact H)
              (try rw [hji13] at A3)
              have hji13_ : (a1 / 2 ^ min t192.toNat 64) = ji13 := hji13
              have hji13z : t192 ≤ 64 → (a1 / 2 ^ t192.toNat) = ji13 := shr_small hji13
              (try have hji13tz := hji13z (by simp only [beq_iff_eq, decide_eq_true_eq] at *; omega))
              by_cases c14 : 0 ≤ t191
              · rw [if_pos c14] at H
                have c14b0 := eq_true c14
                have c14b1 : decide (0 ≤ t191) = true := decide_eq_true c14
                clear c14
                obtain ⟨ji15, hji15⟩ : ∃ j_ : Int, (shl .i64 1 t191) = j_ := ⟨_, rfl⟩
                replace H : (some (((ji11) == 1), Go.bits .and .i64 (wrap64 (ji13)) (wrap64 ((ji15) - 1)), Go.bits .and .u64 a1 (IntKind.u64.wrap ((shl .u64 1 t192) - 1)), 0)) = some (r1, r2, r3, r4) := by first | (rw [hji15] at H; exact H) | (simp only [hji15] at H ⊢; exact H)
                (try rw [hji15] at A3)
                have hji15_ : (IntKind.i64.wrap (1 * 2 ^ min t191.toNat 64)) = ji15 := hji15
                have hji15z : t191 ≤ 64 → (IntKind.i64.wrap (1 * 2 ^ t191.toNat)) = ji15 := shl_small hji15
                have hji15u : (IntKind.i64.wrap (2 ^ min t191.toNat 64)) = ji15 := by have h_ := hji15_; rw [Int.one_mul] at h_; exact h_
                have hji15v : t191 ≤ 64 → (IntKind.i64.wrap (2 ^ t191.toNat)) = ji15 := fun hle_ => by have h_ := hji15z hle_; rw [Int.one_mul] at h_; exact h_
                have hji15y : (wrap64 (1 * 2 ^ min t191.toNat 64)) = ji15 := (i64_w _).symm.trans hji15_
                have hji15x : t191 ≤ 64 → (wrap64 (1 * 2 ^ t191.toNat)) = ji15 := fun h_ => (i64_w _).symm.trans (hji15z h_)
                (try have hji15tz := hji15z (by simp only [beq_iff_eq, decide_eq_true_eq] at *; omega))
                (try have hji15tv := hji15v (by simp only [beq_iff_eq, decide_eq_true_eq] at *; omega))
                (try have hji15tx := hji15x (by simp only [beq_iff_eq, decide_eq_true_eq] at *; omega))
                have c16b0 := eq_true (of_decide_eq_true (by first | (with_reducible assumption) | assumption) : 0 ≤ t192)
                obtain ⟨ji17, hji17⟩ : ∃ j_ : Int, (shl .u64 1 t192) = j_ := ⟨_, rfl⟩
                replace H : (some (((ji11) == 1), Go.bits .and .i64 (wrap64 (ji13)) (wrap64 ((ji15) - 1)), Go.bits .and .u64 a1 (IntKind.u64.wrap ((ji17) - 1)), 0)) = some (r1, r2, r3, r4) := by first | (rw [hji17] at H; exact H) | (simp only [hji17] at H ⊢; exact H)
                (try rw [hji17] at A3)
                have hji17_ : (IntKind.u64.wrap (1 * 2 ^ min t192.toNat 64)) = ji17 := hji17
                have hji17z : t192 ≤ 64 → (IntKind.u64.wrap (1 * 2 ^ t192.toNat)) = ji17 := shl_small hji17
                have hji17u : (IntKind.u64.wrap (2 ^ min t192.toNat 64)) = ji17 := by have h_ := hji17_; rw [Int.one_mul] at h_; exact h_
                have hji17v : t192 ≤ 64 → (IntKind.u64.wrap (2 ^ t192.toNat)) = ji17 := fun hle_ => by have h_ := hji17z hle_; rw [Int.one_mul] at h_; exact h_
                (try have hji17tz := hji17z (by simp only [beq_iff_eq, decide_eq_true_eq] at *; omega))
                (try have hji17tv := hji17v (by simp only [beq_iff_eq, decide_eq_true_eq] at *; omega))
                simp only [Option.some.injEq, Prod.mk.injEq] at H
                obtain ⟨rfl, rfl, rfl, rfl⟩ := H
                go_enter Try.func12, Try.ntmps12
                go_wp2_with (first | (go_at_call 24; (with_reducible refine (glossatorref05_widths.calls a0 t191 t192 _ A3.out).mono ?_); rintro e w' ⟨rfl, ⟨nd, rfl⟩⟩; (try first | exact ⟨rfl, _, World.drewN_drewN _ _ _⟩ | exact ⟨rfl, _, Eq.trans (World.drewN_drewN _ _ _) (congrArg (World.drewN _) (Nat.add_assoc _ _ _))⟩)))
                repeat (go_quiet (first | (go_at_call 24; (with_reducible refine (glossatorref05_widths.calls a0 t191 t192 _ A3.out).mono ?_); rintro e w' ⟨rfl, ⟨nd, rfl⟩⟩; (try first | exact ⟨rfl, _, World.drewN_drewN _ _ _⟩ | exact ⟨rfl, _, Eq.trans (World.drewN_drewN _ _ _) (congrArg (World.drewN _) (Nat.add_assoc _ _ _))⟩))); try go_wp2_with (first | (go_at_call 24; (with_reducible refine (glossatorref05_widths.calls a0 t191 t192 _ A3.out).mono ?_); rintro e w' ⟨rfl, ⟨nd, rfl⟩⟩; (try first | exact ⟨rfl, _, World.drewN_drewN _ _ _⟩ | exact ⟨rfl, _, Eq.trans (World.drewN_drewN _ _ _) (congrArg (World.drewN _) (Nat.add_assoc _ _ _))⟩))))
                refine bodyPost_ret (results_list (rs := [.tmp 4, .tmp 5, .tmp 6, .tmp 7]) rfl (by simp) (.tmp (.tmp (.tmp (.tmp .nil))))) rfl ?_
                exact ⟨by first | rfl | (simp; done) | (simp only [← hji7, ← hji9, ← hji11, ← hji13, ← hji15, ← hji17] <;> (first | rfl | simp)) | (simp [*]; done), by repeat (first | exact Drawn0.refl _ | apply Drawn0.step)⟩
              · rw [if_neg c14] at H
                exact absurd H (by simp)
            · rw [if_neg c12] at H
              exact absurd H (by simp)
          · rw [if_neg c10] at H
            exact absurd H (by simp)
        · rw [if_neg c8] at H
          have c8b0 : ((ji7) == 0) = false := beq_eq_false_iff_ne.mpr c8
          have c8b1 : ((ji7) != 0) = true := bne_iff_ne.mpr c8
          simp only [Option.some.injEq, Prod.mk.injEq] at H
          obtain ⟨rfl, rfl, rfl, rfl⟩ := H
          go_enter Try.func12, Try.ntmps12
          go_wp2_with (first | (go_at_call 24; (with_reducible refine (glossatorref05_widths.calls a0 t191 t192 _ A3.out).mono ?_); rintro e w' ⟨rfl, ⟨nd, rfl⟩⟩; (try first | exact ⟨rfl, _, World.drewN_drewN _ _ _⟩ | exact ⟨rfl, _, Eq.trans (World.drewN_drewN _ _ _) (congrArg (World.drewN _) (Nat.add_assoc _ _ _))⟩)))
          repeat (go_quiet (first | (go_at_call 24; (with_reducible refine (glossatorref05_widths.calls a0 t191 t192 _ A3.out).mono ?_); rintro e w' ⟨rfl, ⟨nd, rfl⟩⟩; (try first | exact ⟨rfl, _, World.drewN_drewN _ _ _⟩ | exact ⟨rfl, _, Eq.trans (World.drewN_drewN _ _ _) (congrArg (World.drewN _) (Nat.add_assoc _ _ _))⟩))); try go_wp2_with (first | (go_at_call 24; (with_reducible refine (glossatorref05_widths.calls a0 t191 t192 _ A3.out).mono ?_); rintro e w' ⟨rfl, ⟨nd, rfl⟩⟩; (try first | exact ⟨rfl, _, World.drewN_drewN _ _ _⟩ | exact ⟨rfl, _, Eq.trans (World.drewN_drewN _ _ _) (congrArg (World.drewN _) (Nat.add_assoc _ _ _))⟩))))
          refine bodyPost_ret (results_list (rs := [.tmp 4, .tmp 5, .tmp 6, .tmp 7]) rfl (by simp) (.tmp (.tmp (.tmp (.tmp .nil))))) rfl ?_
          exact ⟨by first | rfl | (simp; done) | (simp only [← hji7] <;> (first | rfl | simp)) | (simp [*]; done), by repeat (first | exact Drawn0.refl _ | apply Drawn0.step)⟩
      · rw [if_neg c6] at H
        exact absurd H (by simp)
    · rw [if_neg c5] at H
      have c5b0 : decide (a0 < 64) = false := decide_eq_false c5
      clear c5
      obtain ⟨ji18, hji18⟩ : ∃ j_ : Int, (wrap64 (t191 + t192)) = j_ := ⟨_, rfl⟩
      replace H : (if 0 ≤ (ji18) then (if 0 ≤ t192 then (if 0 ≤ t191 then (some (((shr .u64 a1 (ji18)) == 1), Go.bits .and .i64 (wrap64 (shr .u64 a1 t192)) (wrap64 ((shl .i64 1 t191) - 1)), Go.bits .and .u64 a1 (IntKind.u64.wrap ((shl .u64 1 t192) - 1)), 0)) else (none)) else (none)) else (none)) = some (r1, r2, r3, r4) := by first | (rw [hji18] at H; exact H) | (simp only [hji18] at H ⊢; exact H)
      (try rw [hji18] at A3)
      have hji18w : (IntKind.i64.wrap (t191 + t192)) = ji18 := (i64_w _).trans hji18
      by_cases c19 : 0 ≤ (ji18)
      · rw [if_pos c19] at H
        have c19b0 := eq_true c19
        have c19b1 : decide (0 ≤ (ji18)) = true := decide_eq_true c19
        clear c19
        obtain ⟨ji20, hji20⟩ : ∃ j_ : Int, (shr .u64 a1 (ji18)) = j_ := ⟨_, rfl⟩
        replace H : (if 0 ≤ t192 then (if 0 ≤ t191 then (some (((ji20) == 1), Go.bits .and .i64 (wrap64 (shr .u64 a1 t192)) (wrap64 ((shl .i64 1 t191) - 1)), Go.bits .and .u64 a1 (IntKind.u64.wrap ((shl .u64 1 t192) - 1)), 0)) else (none)) else (none)) = some (r1, r2, r3, r4) := by first | (rw [hji20] at H; exact H) | (simp only [hji20] at H ⊢; exact H)
        (try rw [hji20] at A3)
        have hji20_ : (a1 / 2 ^ min (ji18).toNat 64) = ji20 := hji20
        have hji20z : (ji18) ≤ 64 → (a1 / 2 ^ (ji18).toNat) = ji20 := shr_small hji20
        (try have hji20tz := hji20z (by simp only [beq_iff_eq, decide_eq_true_eq] at *; omega))
        by_cases c21 : 0 ≤ t192
        · rw [if_pos c21] at H
          have c21b0 := eq_true c21
          have c21b1 : decide (0 ≤ t192) = true := decide_eq_true c21
          clear c21
          obtain ⟨ji22, hji22⟩ : ∃ j_ : Int, (shr .u64 a1 t192) = j_ := ⟨_, rfl⟩
          replace H : (if 0 ≤ t191 then (some (((ji20) == 1), Go.bits .and .i64 (wrap64 (ji22)) (wrap64 ((shl .i64 1 t191) - 1)), Go.bits .and .u64 a1 (IntKind.u64.wrap ((shl .u64 1 t192) - 1)), 0)) else (none)) = some (r1, r2, r3, r4) := by first | (rw [hji22] at H; exact H) | (simp only [hji22] at H ⊢; exact H)
          (try rw [hji22] at A3)
          have hji22_ : (a1 / 2 ^ min t192.toNat 64) = ji22 := hji22
          have hji22z : t192 ≤ 64 → (a1 / 2 ^ t192.toNat) = ji22 := shr_small hji22
          (try have hji22tz := hji22z (by simp only [beq_iff_eq, decide_eq_true_eq] at *; omega))
          by_cases c23 : 0 ≤ t191
          · rw [if_pos c23] at H
            have c23b0 := eq_true c23
            have c23b1 : decide (0 ≤ t191) = true := decide_eq_true c23
            clear c23
            obtain ⟨ji24, hji24⟩ : ∃ j_ : Int, (shl .i64 1 t191) = j_ := ⟨_, rfl⟩
            replace H : (some (((ji20) == 1), Go.bits .and .i64 (wrap64 (ji22)) (wrap64 ((ji24) - 1)), Go.bits .and .u64 a1 (IntKind.u64.wrap ((shl .u64 1 t192) - 1)), 0)) = some (r1, r2, r3, r4) := by first | (rw [hji24] at H; exact H) | (simp only [hji24] at H ⊢; exact H)
            (try rw [hji24] at A3)
            have hji24_ : (IntKind.i64.wrap (1 * 2 ^ min t191.toNat 64)) = ji24 := hji24
            have hji24z : t191 ≤ 64 → (IntKind.i64.wrap (1 * 2 ^ t191.toNat)) = ji24 := shl_small hji24
            have hji24u : (IntKind.i64.wrap (2 ^ min t191.toNat 64)) = ji24 := by have h_ := hji24_; rw [Int.one_mul] at h_; exact h_
            have hji24v : t191 ≤ 64 → (IntKind.i64.wrap (2 ^ t191.toNat)) = ji24 := fun hle_ => by have h_ := hji24z hle_; rw [Int.one_mul] at h_; exact h_
            have hji24y : (wrap64 (1 * 2 ^ min t191.toNat 64)) = ji24 := (i64_w _).symm.trans hji24_
            have hji24x : t191 ≤ 64 → (wrap64 (1 * 2 ^ t191.toNat)) = ji24 := fun h_ => (i64_w _).symm.trans (hji24z h_)
            (try have hji24tz := hji24z (by simp only [beq_iff_eq, decide_eq_true_eq] at *; omega))
            (try have hji24tv := hji24v (by simp only [beq_iff_eq, decide_eq_true_eq] at *; omega))
            (try have hji24tx := hji24x (by simp only [beq_iff_eq, decide_eq_true_eq] at *; omega))
            have c25b0 := eq_true (of_decide_eq_true (by first | (with_reducible assumption) | assumption) : 0 ≤ t192)
            obtain ⟨ji26, hji26⟩ : ∃ j_ : Int, (shl .u64 1 t192) = j_ := ⟨_, rfl⟩
            replace H : (some (((ji20) == 1), Go.bits .and .i64 (wrap64 (ji22)) (wrap64 ((ji24) - 1)), Go.bits .and .u64 a1 (IntKind.u64.wrap ((ji26) - 1)), 0)) = some (r1, r2, r3, r4) := by first | (rw [hji26] at H; exact H) | (simp only [hji26] at H ⊢; exact H)
            (try rw [hji26] at A3)
            have hji26_ : (IntKind.u64.wrap (1 * 2 ^ min t192.toNat 64)) = ji26 := hji26
            have hji26z : t192 ≤ 64 → (IntKind.u64.wrap (1 * 2 ^ t192.toNat)) = ji26 := shl_small hji26
            have hji26u : (IntKind.u64.wrap (2 ^ min t192.toNat 64)) = ji26 := by have h_ := hji26_; rw [Int.one_mul] at h_; exact h_
            have hji26v : t192 ≤ 64 → (IntKind.u64.wrap (2 ^ t192.toNat)) = ji26 := fun hle_ => by have h_ := hji26z hle_; rw [Int.one_mul] at h_; exact h_
            (try have hji26tz := hji26z (by simp only [beq_iff_eq, decide_eq_true_eq] at *; omega))
            (try have hji26tv := hji26v (by simp only [beq_iff_eq, decide_eq_true_eq] at *; omega))
            simp only [Option.some.injEq, Prod.mk.injEq] at H
            obtain ⟨rfl, rfl, rfl, rfl⟩ := H
            go_enter Try.func12, Try.ntmps12
            go_wp2_with (first | (go_at_call 24; (with_reducible refine (glossatorref05_widths.calls a0 t191 t192 _ A3.out).mono ?_); rintro e w' ⟨rfl, ⟨nd, rfl⟩⟩; (try first | exact ⟨rfl, _, World.drewN_drewN _ _ _⟩ | exact ⟨rfl, _, Eq.trans (World.drewN_drewN _ _ _) (congrArg (World.drewN _) (Nat.add_assoc _ _ _))⟩)))
            repeat (go_quiet (first | (go_at_call 24; (with_reducible refine (glossatorref05_widths.calls a0 t191 t192 _ A3.out).mono ?_); rintro e w' ⟨rfl, ⟨nd, rfl⟩⟩; (try first | exact ⟨rfl, _, World.drewN_drewN _ _ _⟩ | exact ⟨rfl, _, Eq.trans (World.drewN_drewN _ _ _) (congrArg (World.drewN _) (Nat.add_assoc _ _ _))⟩))); try go_wp2_with (first | (go_at_call 24; (with_reducible refine (glossatorref05_widths.calls a0 t191 t192 _ A3.out).mono ?_); rintro e w' ⟨rfl, ⟨nd, rfl⟩⟩; (try first | exact ⟨rfl, _, World.drewN_drewN _ _ _⟩ | exact ⟨rfl, _, Eq.trans (World.drewN_drewN _ _ _) (congrArg (World.drewN _) (Nat.add_assoc _ _ _))⟩))))
            refine bodyPost_ret (results_list (rs := [.tmp 4, .tmp 5, .tmp 6, .tmp 7]) rfl (by simp) (.tmp (.tmp (.tmp (.tmp .nil))))) rfl ?_
            exact ⟨by first | rfl | (simp; done) | (simp only [← hji18, ← hji20, ← hji22, ← hji24, ← hji26] <;> (first | rfl | simp)) | (simp [*]; done), by repeat (first | exact Drawn0.refl _ | apply Drawn0.step)⟩
          · rw [if_neg c23] at H
            exact absurd H (by simp)
        · rw [if_neg c21] at H
          exact absurd H (by simp)
      · rw [if_neg c19] at H
        exact absurd H (by simp)

/-! ### glossatorref05_Class: function 10 -/
def glossatorref05_Class.j0 : Nat → Int → Int → Int → Bool → Option (Int × Int)
  | 0, _, _, _, _ => none
  | k + 1, x7, x8, x10, x29 => if x29 = true then (some (3, 0)) else (if 0 ≤ x10 then (if x7 = (wrap64 ((shl .i64 1 x10) - 1)) then (some (4, 0)) else (if x7 > 0 then (some (2, 0)) else (if x8 > 0 then (some (1, 0)) else (some (0, 0))))) else (none))
def glossatorref05_Class.f (k : Nat) (a0 : Int) (a1 : Int) : Option (Int × Int) := (glossatorref05_Parts.f a0 a1).bind fun bt193 => ((glossatorref05_widths.f a0).bind fun bt197 => (if bt193.2.2.2 = 0 then (if 0 ≤ bt197.1 then (if bt193.2.1 = (wrap64 ((shl .i64 1 bt197.1) - 1)) then (glossatorref05_Class.j0 k bt193.2.1 bt193.2.2.1 bt197.1 (bt193.2.2.1 == 0)) else (glossatorref05_Class.j0 k bt193.2.1 bt193.2.2.1 bt197.1 false)) else (none)) else (some (0, bt193.2.2.2))))
theorem glossatorref05_Class.mono_l : ∀ k, (∀ y0 y1 y2 y3, LeO (glossatorref05_Class.j0 k y0 y1 y2 y3) (glossatorref05_Class.j0 (k + 1) y0 y1 y2 y3))
  | 0 => fun _ _ _ _ r h => by simp [glossatorref05_Class.j0] at h
  | k + 1 => by
    have ih0 := glossatorref05_Class.mono_l k
    · intro y0 y1 y2 y3
      unfold glossatorref05_Class.j0
      repeat' first
      | (with_reducible exact ih0 _ _ _ _)
      | (with_reducible exact LeO.refl _)
      | (with_reducible exact LeO.none _)
      | (with_reducible refine LeO.ite ?_ ?_)
      | (with_reducible refine LeO.bind ?_ (fun _ => ?_))
      | exact ih0 _ _ _ _
      | exact LeO.none _
      | refine LeO.ite ?_ ?_
      | refine LeO.bind ?_ (fun _ => ?_)
theorem glossatorref05_Class.mono : ∀ a0 a1 k, LeO (glossatorref05_Class.f k a0 a1) (glossatorref05_Class.f (k + 1) a0 a1) := by
  intro a0 a1 k
  have ih0 := glossatorref05_Class.mono_l k
  unfold glossatorref05_Class.f
  repeat' first
      | (with_reducible exact ih0 _ _ _ _)
      | (with_reducible exact LeO.refl _)
      | (with_reducible exact LeO.none _)
      | (with_reducible refine LeO.ite ?_ ?_)
      | (with_reducible refine LeO.bind ?_ (fun _ => ?_))
      | exact ih0 _ _ _ _
      | exact LeO.none _
      | refine LeO.ite ?_ ?_
      | refine LeO.bind ?_ (fun _ => ?_)
set_option maxHeartbeats 8000000 in
set_option maxRecDepth 100000 in
theorem glossatorref05_Class.calls (k : Nat) (a0 : Int) (a1 : Int) (r1 : Int) (r2 : Int) (w : World) (h : glossatorref05_Class.f k a0 a1 = some (r1, r2)) :
    Calls Try.prog 10 #[.int .i64 a0, .int .u64 a1] w fun e w' => e = .returned (.tuple #[.int .i64 r1, .int .i64 r2]) ∧ Drawn0 w w' := by
  have H : ((glossatorref05_Parts.f a0 a1).bind fun bt193 => ((glossatorref05_widths.f a0).bind fun bt197 => (if bt193.2.2.2 = 0 then (if 0 ≤ bt197.1 then (if bt193.2.1 = (wrap64 ((shl .i64 1 bt197.1) - 1)) then (glossatorref05_Class.j0 k bt193.2.1 bt193.2.2.1 bt197.1 (bt193.2.2.1 == 0)) else (glossatorref05_Class.j0 k bt193.2.1 bt193.2.2.1 bt197.1 false)) else (none)) else (some (0, bt193.2.2.2))))) = some (r1, r2) := h
  clear h
  replace H := Option.bind_eq_some_iff.mp H
  obtain ⟨⟨t193, t194, t195, t196⟩, A30, H⟩ := H
  replace H : ((glossatorref05_widths.f a0).bind fun bt197 => (if t196 = 0 then (if 0 ≤ bt197.1 then (if t194 = (wrap64 ((shl .i64 1 bt197.1) - 1)) then (glossatorref05_Class.j0 k t194 t195 bt197.1 (t195 == 0)) else (glossatorref05_Class.j0 k t194 t195 bt197.1 false)) else (none)) else (some (0, t196)))) = some (r1, r2) := H
  have A3 := Aside0.mk A30
  clear A30
  replace H := Option.bind_eq_some_iff.mp H
  obtain ⟨⟨t197, t198⟩, A40, H⟩ := H
  replace H : (if t196 = 0 then (if 0 ≤ t197 then (if t194 = (wrap64 ((shl .i64 1 t197) - 1)) then (glossatorref05_Class.j0 k t194 t195 t197 (t195 == 0)) else (glossatorref05_Class.j0 k t194 t195 t197 false)) else (none)) else (some (0, t196))) = some (r1, r2) := H
  have A4 := Aside0.mk A40
  clear A40
  by_cases c5 : t196 = 0
  · rw [if_pos c5] at H
    have c5b0 : (t196 == 0) = true := beq_iff_eq.mpr c5
    have c5b1 : (t196 != 0) = false := bne_eq_false_iff_eq.mpr c5
    clear c5
    have HC6 := Aside0.mk H
    clear H
    go_enter Try.func10, Try.ntmps10
    go_upto_region 5 with (first | ((with_reducible refine gate_callee (f := 12) rfl ?_); refine goesL_ (some 15) rfl rfl Try.func12 (by kernel_rfl) rfl #[.int .i64 a0, .int .u64 a1] rfl (by (try simp only [List.map_toArray, List.map_cons, List.map_nil]); first | done | rfl | (simp only [List.length_drop, List.length_take]; rfl)) ?_; (with_reducible refine (glossatorref05_Parts.calls a0 a1 t193 t194 t195 t196 _ A3.out).mono ?_); rintro e w' ⟨rfl, ⟨nd, rfl⟩⟩; refine ⟨_, rfl, ?_⟩) | ((with_reducible refine gate_callee (f := 24) rfl ?_); refine goesL_ (some 22) rfl rfl Try.func24 (by kernel_rfl) rfl #[.int .i64 a0] rfl (by (try simp only [List.map_toArray, List.map_cons, List.map_nil]); first | done | rfl | (simp only [List.length_drop, List.length_take]; rfl)) ?_; (with_reducible refine (glossatorref05_widths.calls a0 t197 t198 _ A4.out).mono ?_); rintro e w' ⟨rfl, ⟨nd, rfl⟩⟩; refine ⟨_, rfl, ?_⟩))
    (try simp only [Act.put, List.setIfInBounds_toArray, List.set_cons_zero, List.set_cons_succ])
    go_cut [29] (fun v29 wc => ∃ (kq : Nat) (x29_5 : Bool), v29 = .bool x29_5 ∧ Aside0 (glossatorref05_Class.j0 kq t194 t195 t197 x29_5 = some (r1, r2)) ∧ Aside0 (kq ≤ k) ∧ Drawn0 w wc)
    case first =>
      have H := HC6.out
      clear HC6
      by_cases c7 : 0 ≤ t197
      · rw [if_pos c7] at H
        have c7b0 := eq_true c7
        have c7b1 : decide (0 ≤ t197) = true := decide_eq_true c7
        clear c7
        obtain ⟨ji8, hji8⟩ : ∃ j_ : Int, (shl .i64 1 t197) = j_ := ⟨_, rfl⟩
        replace H : (if t194 = (wrap64 ((ji8) - 1)) then (glossatorref05_Class.j0 k t194 t195 t197 (t195 == 0)) else (glossatorref05_Class.j0 k t194 t195 t197 false)) = some (r1, r2) := by first | (rw [hji8] at H; exact H) | (simp only [hji8] at H ⊢; exact H)
        have hji8_ : (IntKind.i64.wrap (1 * 2 ^ min t197.toNat 64)) = ji8 := hji8
        have hji8z : t197 ≤ 64 → (IntKind.i64.wrap (1 * 2 ^ t197.toNat)) = ji8 := shl_small hji8
        have hji8u : (IntKind.i64.wrap (2 ^ min t197.toNat 64)) = ji8 := by have h_ := hji8_; rw [Int.one_mul] at h_; exact h_
        have hji8v : t197 ≤ 64 → (IntKind.i64.wrap (2 ^ t197.toNat)) = ji8 := fun hle_ => by have h_ := hji8z hle_; rw [Int.one_mul] at h_; exact h_
        have hji8y : (wrap64 (1 * 2 ^ min t197.toNat 64)) = ji8 := (i64_w _).symm.trans hji8_
        have hji8x : t197 ≤ 64 → (wrap64 (1 * 2 ^ t197.toNat)) = ji8 := fun h_ => (i64_w _).symm.trans (hji8z h_)
        (try have hji8tz := hji8z (by simp only [beq_iff_eq, decide_eq_true_eq] at *; omega))
        (try have hji8tv := hji8v (by simp only [beq_iff_eq, decide_eq_true_eq] at *; omega))
        (try have hji8tx := hji8x (by simp only [beq_iff_eq, decide_eq_true_eq] at *; omega))
        by_cases c9 : t194 = (wrap64 ((ji8) - 1))
        · rw [if_pos c9] at H
          have c9b0 : (t194 == (wrap64 ((ji8) - 1))) = true := beq_iff_eq.mpr c9
          have c9b1 : (t194 != (wrap64 ((ji8) - 1))) = false := bne_eq_false_iff_eq.mpr c9
          clear c9
          (first | rw [c9b0] | (simp only [i64_w, i32_w]; rw [c9b0]) | skip)
          have H' := Aside0.mk H
          clear H
          go_wp2
          go_meet
          case rel => exact ⟨_, ((t195 == 0)), (by first | rfl | (simp; done) | (simp [*]; done) | (simp [*] <;> decide +kernel)), H', ⟨by first | omega | exact Nat.le_refl _⟩, by repeat (first | exact Drawn0.refl _ | apply Drawn0.step)⟩
        · rw [if_neg c9] at H
          have c9b0 : (t194 == (wrap64 ((ji8) - 1))) = false := beq_eq_false_iff_ne.mpr c9
          have c9b1 : (t194 != (wrap64 ((ji8) - 1))) = true := bne_iff_ne.mpr c9
          (first | rw [c9b0] | (simp only [i64_w, i32_w]; rw [c9b0]) | skip)
          have H' := Aside0.mk H
          clear H
          go_wp2
          go_meet
          case rel => exact ⟨_, (false), (by first | rfl | (simp; done) | (simp [*]; done) | (simp [*] <;> decide +kernel)), H', ⟨by first | omega | exact Nat.le_refl _⟩, by repeat (first | exact Drawn0.refl _ | apply Drawn0.step)⟩
      · rw [if_neg c7] at H
        exact absurd H (by simp)
    case rest =>
      clear HC6
      try clear c1
      try clear c2
      try clear p2
      try clear c5
      try clear c5b0
      try clear c5b1
      try clear p6
      try clear c7
      try clear c7b0
      try clear c7b1
      try clear c9
      try clear c9b0
      try clear c9b1
      obtain ⟨kq, x29_5, rfl, HA, HJ5, ⟨mc5, rfl⟩⟩ := hcut
      cases kq with
      | zero => exact absurd HA.out (by simp [glossatorref05_Class.j0])
      | succ kj5 =>
        have H := HA.out
        clear HA
        simp only [glossatorref05_Class.j0] at H
        by_cases c10 : x29_5 = true
        · subst c10
          have H1 : (some (3, 0)) = some (r1, r2) := by rw [if_pos rfl] at H; exact H
          clear H
          have H := H1
          clear H1
          simp only [Option.some.injEq, Prod.mk.injEq] at H
          obtain ⟨rfl, rfl⟩ := H
          go_wp2
          go_ret2
          exact ⟨by first | rfl | (simp; done) | (simp [*]; done), by repeat (first | exact Drawn0.refl _ | apply Drawn0.step)⟩
        · replace c10 := Bool.eq_false_iff.mpr c10
          subst c10
          have H1 : (if 0 ≤ t197 then (if t194 = (wrap64 ((shl .i64 1 t197) - 1)) then (some (4, 0)) else (if t194 > 0 then (some (2, 0)) else (if t195 > 0 then (some (1, 0)) else (some (0, 0))))) else (none)) = some (r1, r2) := by rw [if_neg (show ¬ (false = true) by decide)] at H; exact H
          clear H
          have H := H1
          clear H1
          by_cases c11 : 0 ≤ t197
          · rw [if_pos c11] at H
            have c11b0 := eq_true c11
            have c11b1 : decide (0 ≤ t197) = true := decide_eq_true c11
            clear c11
            obtain ⟨ji12, hji12⟩ : ∃ j_ : Int, (shl .i64 1 t197) = j_ := ⟨_, rfl⟩
            replace H : (if t194 = (wrap64 ((ji12) - 1)) then (some (4, 0)) else (if t194 > 0 then (some (2, 0)) else (if t195 > 0 then (some (1, 0)) else (some (0, 0))))) = some (r1, r2) := by first | (rw [hji12] at H; exact H) | (simp only [hji12] at H ⊢; exact H)
            have hji12_ : (IntKind.i64.wrap (1 * 2 ^ min t197.toNat 64)) = ji12 := hji12
            have hji12z : t197 ≤ 64 → (IntKind.i64.wrap (1 * 2 ^ t197.toNat)) = ji12 := shl_small hji12
            have hji12u : (IntKind.i64.wrap (2 ^ min t197.toNat 64)) = ji12 := by have h_ := hji12_; rw [Int.one_mul] at h_; exact h_
            have hji12v : t197 ≤ 64 → (IntKind.i64.wrap (2 ^ t197.toNat)) = ji12 := fun hle_ => by have h_ := hji12z hle_; rw [Int.one_mul] at h_; exact h_
            have hji12y : (wrap64 (1 * 2 ^ min t197.toNat 64)) = ji12 := (i64_w _).symm.trans hji12_
            have hji12x : t197 ≤ 64 → (wrap64 (1 * 2 ^ t197.toNat)) = ji12 := fun h_ => (i64_w _).symm.trans (hji12z h_)
            (try have hji12tz := hji12z (by simp only [beq_iff_eq, decide_eq_true_eq] at *; omega))
            (try have hji12tv := hji12v (by simp only [beq_iff_eq, decide_eq_true_eq] at *; omega))
            (try have hji12tx := hji12x (by simp only [beq_iff_eq, decide_eq_true_eq] at *; omega))
            by_cases c13 : t194 = (wrap64 ((ji12) - 1))
            · rw [if_pos c13] at H
              have c13b0 : (t194 == (wrap64 ((ji12) - 1))) = true := beq_iff_eq.mpr c13
              have c13b1 : (t194 != (wrap64 ((ji12) - 1))) = false := bne_eq_false_iff_eq.mpr c13
              clear c13
              simp only [Option.some.injEq, Prod.mk.injEq] at H
              obtain ⟨rfl, rfl⟩ := H
              go_wp2
              go_ret2
              exact ⟨by first | rfl | (simp; done) | (simp only [← hji12] <;> (first | rfl | simp)) | (simp [*]; done), by repeat (first | exact Drawn0.refl _ | apply Drawn0.step)⟩
            · rw [if_neg c13] at H
              have c13b0 : (t194 == (wrap64 ((ji12) - 1))) = false := beq_eq_false_iff_ne.mpr c13
              have c13b1 : (t194 != (wrap64 ((ji12) - 1))) = true := bne_iff_ne.mpr c13
              by_cases c14 : t194 > 0
              · rw [if_pos c14] at H
                have c14b0 : decide (0 < t194) = true := decide_eq_true c14
                clear c14
                simp only [Option.some.injEq, Prod.mk.injEq] at H
                obtain ⟨rfl, rfl⟩ := H
                go_wp2
                go_ret2
                exact ⟨by first | rfl | (simp; done) | (simp only [← hji12] <;> (first | rfl | simp)) | (simp [*]; done), by repeat (first | exact Drawn0.refl _ | apply Drawn0.step)⟩
              · rw [if_neg c14] at H
                have c14b0 : decide (0 < t194) = false := decide_eq_false c14
                clear c14
                by_cases c15 : t195 > 0
                · rw [if_pos c15] at H
                  have c15b0 : decide (0 < t195) = true := decide_eq_true c15
                  clear c15
                  simp only [Option.some.injEq, Prod.mk.injEq] at H
                  obtain ⟨rfl, rfl⟩ := H
                  go_wp2
                  go_ret2
                  exact ⟨by first | rfl | (simp; done) | (simp only [← hji12] <;> (first | rfl | simp)) | (simp [*]; done), by repeat (first | exact Drawn0.refl _ | apply Drawn0.step)⟩
                · rw [if_neg c15] at H
                  have c15b0 : decide (0 < t195) = false := decide_eq_false c15
                  clear c15
                  simp only [Option.some.injEq, Prod.mk.injEq] at H
                  obtain ⟨rfl, rfl⟩ := H
                  go_wp2
                  go_ret2
                  exact ⟨by first | rfl | (simp; done) | (simp only [← hji12] <;> (first | rfl | simp)) | (simp [*]; done), by repeat (first | exact Drawn0.refl _ | apply Drawn0.step)⟩
          · rw [if_neg c11] at H
            exact absurd H (by simp)
  · rw [if_neg c5] at H
    have c5b0 : (t196 == 0) = false := beq_eq_false_iff_ne.mpr c5
    have c5b1 : (t196 != 0) = true := bne_iff_ne.mpr c5
    simp only [Option.some.injEq, Prod.mk.injEq] at H
    obtain ⟨rfl, rfl⟩ := H
    go_enter Try.func10, Try.ntmps10
    go_wp2_with (first | ((with_reducible refine gate_callee (f := 12) rfl ?_); refine goesL_ (some 15) rfl rfl Try.func12 (by kernel_rfl) rfl #[.int .i64 a0, .int .u64 a1] rfl (by (try simp only [List.map_toArray, List.map_cons, List.map_nil]); first | done | rfl | (simp only [List.length_drop, List.length_take]; rfl)) ?_; (with_reducible refine (glossatorref05_Parts.calls a0 a1 t193 t194 t195 t196 _ A3.out).mono ?_); rintro e w' ⟨rfl, ⟨nd, rfl⟩⟩; refine ⟨_, rfl, ?_⟩) | ((with_reducible refine gate_callee (f := 24) rfl ?_); refine goesL_ (some 22) rfl rfl Try.func24 (by kernel_rfl) rfl #[.int .i64 a0] rfl (by (try simp only [List.map_toArray, List.map_cons, List.map_nil]); first | done | rfl | (simp only [List.length_drop, List.length_take]; rfl)) ?_; (with_reducible refine (glossatorref05_widths.calls a0 t197 t198 _ A4.out).mono ?_); rintro e w' ⟨rfl, ⟨nd, rfl⟩⟩; refine ⟨_, rfl, ?_⟩))
    go_ret2
    exact ⟨by first | rfl | (simp; done) | (simp [*]; done), by repeat (first | exact Drawn0.refl _ | apply Drawn0.step)⟩

/-! ### glossatorref05_join: function 25 -/
def glossatorref05_join.f (a0 : Bool) (a1 : Int) (a2 : Int) : Option (Int) := if a0 = true then (some (Go.bits .or .u64 (Go.bits .or .u64 (IntKind.u64.wrap ((IntKind.u64.wrap (a1)) * 4503599627370496)) a2) 9223372036854775808)) else (some (Go.bits .or .u64 (IntKind.u64.wrap ((IntKind.u64.wrap (a1)) * 4503599627370496)) a2))
set_option maxHeartbeats 8000000 in
set_option maxRecDepth 100000 in
theorem glossatorref05_join.calls (a0 : Bool) (a1 : Int) (a2 : Int) (r : Int) (w : World) (h : glossatorref05_join.f a0 a1 a2 = some r) :
    Calls Try.prog 25 #[.bool a0, .int .i64 a1, .int .u64 a2] w fun e w' => e = .returned (.int .u64 r) ∧ Drawn0 w w' := by
  have H : (if a0 = true then (some (Go.bits .or .u64 (Go.bits .or .u64 (IntKind.u64.wrap ((IntKind.u64.wrap (a1)) * 4503599627370496)) a2) 9223372036854775808)) else (some (Go.bits .or .u64 (IntKind.u64.wrap ((IntKind.u64.wrap (a1)) * 4503599627370496)) a2))) = some r := h
  clear h
  by_cases c4 : a0 = true
  · subst c4
    have H1 : (some (Go.bits .or .u64 (Go.bits .or .u64 (IntKind.u64.wrap ((IntKind.u64.wrap (a1)) * 4503599627370496)) a2) 9223372036854775808)) = some r := by rw [if_pos rfl] at H; exact H
    clear H
    have H := H1
    clear H1
    obtain rfl := Option.some.inj H
    go_enter Try.func25, Try.ntmps25
    go_wp2
    go_ret
    exact ⟨by first | rfl | (simp; done) | (simp [*]; done), by repeat (first | exact Drawn0.refl _ | apply Drawn0.step)⟩
  · replace c4 := Bool.eq_false_iff.mpr c4
    subst c4
    have H1 : (some (Go.bits .or .u64 (IntKind.u64.wrap ((IntKind.u64.wrap (a1)) * 4503599627370496)) a2)) = some r := by rw [if_neg (show ¬ (false = true) by decide)] at H; exact H
    clear H
    have H := H1
    clear H1
    obtain rfl := Option.some.inj H
    go_enter Try.func25, Try.ntmps25
    go_wp2
    go_ret
    exact ⟨by first | rfl | (simp; done) | (simp [*]; done), by repeat (first | exact Drawn0.refl _ | apply Drawn0.step)⟩

/-! ### glossatorref05_Widen: function 13 -/
mutual
def glossatorref05_Widen.j0 : Nat → Int → Int → Bool → Int → Int → Int → Int → Bool → Option (Int × Int)
  | 0, _, _, _, _, _, _, _, _ => none
  | k + 1, x0, x1, x6, x7, x8, x14, x45, x50 => if x50 = true then ((glossatorref05_join.f x6 2047 x8).bind fun t208 => (some (t208, 0))) else (if x45 = 2 then ((glossatorref05_join.f x6 (wrap64 ((wrap64 (x7 - x14)) + 1023)) x8).bind fun t209 => (some (t209, 0))) else (if x0 = 64 then (some (x1, 0)) else (glossatorref05_Widen.l0 k x6 (wrap64 ((wrap64 (1 - x14)) + 1023)) x8)))
def glossatorref05_Widen.l0 : Nat → Bool → Int → Int → Option (Int × Int)
  | 0, _, _, _ => none
  | k + 1, x6, x7, x8 => if (x8 / 4503599627370496) = 0 then (glossatorref05_Widen.l0 k x6 (wrap64 (x7 - 1)) (IntKind.u64.wrap (x8 * 2))) else ((glossatorref05_join.f x6 x7 (Go.bits .and .u64 x8 4503599627370495)).bind fun t210 => (some (t210, 0)))
end
def glossatorref05_Widen.f (k : Nat) (a0 : Int) (a1 : Int) : Option (Int × Int) := (glossatorref05_Parts.f a0 a1).bind fun bt199 => (if bt199.2.2.2 = 0 then ((glossatorref05_widths.f a0).bind fun bt203 => (if 0 ≤ (wrap64 (52 - bt203.2)) then ((glossatorref05_Class.f k a0 a1).bind fun bt205 => (if 0 ≤ (wrap64 (bt203.1 - 1)) then (if bt205.1 = 0 then ((glossatorref05_join.f bt199.1 0 0).bind fun t207 => (some (t207, 0))) else (if bt205.1 = 3 then (glossatorref05_Widen.j0 k a0 a1 bt199.1 bt199.2.1 (shl .u64 bt199.2.2.1 (wrap64 (52 - bt203.2))) (wrap64 ((shl .i64 1 (wrap64 (bt203.1 - 1))) - 1)) bt205.1 (bt205.1 == 3)) else (glossatorref05_Widen.j0 k a0 a1 bt199.1 bt199.2.1 (shl .u64 bt199.2.2.1 (wrap64 (52 - bt203.2))) (wrap64 ((shl .i64 1 (wrap64 (bt203.1 - 1))) - 1)) bt205.1 (bt205.1 == 4)))) else (none))) else (none))) else (some (0, bt199.2.2.2)))
theorem glossatorref05_Widen.mono_l : ∀ k, (∀ y0 y1 y2 y3 y4 y5 y6 y7, LeO (glossatorref05_Widen.j0 k y0 y1 y2 y3 y4 y5 y6 y7) (glossatorref05_Widen.j0 (k + 1) y0 y1 y2 y3 y4 y5 y6 y7)) ∧ (∀ y0 y1 y2, LeO (glossatorref05_Widen.l0 k y0 y1 y2) (glossatorref05_Widen.l0 (k + 1) y0 y1 y2))
  | 0 => ⟨fun _ _ _ _ _ _ _ _ r h => by simp [glossatorref05_Widen.j0] at h, fun _ _ _ r h => by simp [glossatorref05_Widen.l0] at h⟩
  | k + 1 => by
    obtain ⟨ih0, ih1⟩ := glossatorref05_Widen.mono_l k
    refine ⟨?_, ?_⟩
    · intro y0 y1 y2 y3 y4 y5 y6 y7
      unfold glossatorref05_Widen.j0
      repeat' first
      | (with_reducible exact ih0 _ _ _ _ _ _ _ _)
      | (with_reducible exact ih1 _ _ _)
      | (with_reducible exact glossatorref05_Class.mono _ _ _)
      | (with_reducible exact LeO.refl _)
      | (with_reducible exact LeO.none _)
      | (with_reducible refine LeO.ite ?_ ?_)
      | (with_reducible refine LeO.bind ?_ (fun _ => ?_))
      | exact ih0 _ _ _ _ _ _ _ _
      | exact ih1 _ _ _
      | exact glossatorref05_Class.mono _ _ _
      | exact LeO.none _
      | refine LeO.ite ?_ ?_
      | refine LeO.bind ?_ (fun _ => ?_)
    · intro y0 y1 y2
      unfold glossatorref05_Widen.l0
      repeat' first
      | (with_reducible exact ih0 _ _ _ _ _ _ _ _)
      | (with_reducible exact ih1 _ _ _)
      | (with_reducible exact glossatorref05_Class.mono _ _ _)
      | (with_reducible exact LeO.refl _)
      | (with_reducible exact LeO.none _)
      | (with_reducible refine LeO.ite ?_ ?_)
      | (with_reducible refine LeO.bind ?_ (fun _ => ?_))
      | exact ih0 _ _ _ _ _ _ _ _
      | exact ih1 _ _ _
      | exact glossatorref05_Class.mono _ _ _
      | exact LeO.none _
      | refine LeO.ite ?_ ?_
      | refine LeO.bind ?_ (fun _ => ?_)
theorem glossatorref05_Widen.mono : ∀ a0 a1 k, LeO (glossatorref05_Widen.f k a0 a1) (glossatorref05_Widen.f (k + 1) a0 a1) := by
  intro a0 a1 k
  obtain ⟨ih0, ih1⟩ := glossatorref05_Widen.mono_l k
  unfold glossatorref05_Widen.f
  repeat' first
      | (with_reducible exact ih0 _ _ _ _ _ _ _ _)
      | (with_reducible exact ih1 _ _ _)
      | (with_reducible exact glossatorref05_Class.mono _ _ _)
      | (with_reducible exact LeO.refl _)
      | (with_reducible exact LeO.none _)
      | (with_reducible refine LeO.ite ?_ ?_)
      | (with_reducible refine LeO.bind ?_ (fun _ => ?_))
      | exact ih0 _ _ _ _ _ _ _ _
      | exact ih1 _ _ _
      | exact glossatorref05_Class.mono _ _ _
      | exact LeO.none _
      | refine LeO.ite ?_ ?_
      | refine LeO.bind ?_ (fun _ => ?_)
set_option maxHeartbeats 8000000 in
set_option maxRecDepth 100000 in
theorem glossatorref05_Widen.calls (k : Nat) (a0 : Int) (a1 : Int) (r1 : Int) (r2 : Int) (w : World) (h : glossatorref05_Widen.f k a0 a1 = some (r1, r2)) :
    Calls Try.prog 13 #[.int .i64 a0, .int .u64 a1] w fun e w' => e = .returned (.tuple #[.int .u64 r1, .int .i64 r2]) ∧ Drawn0 w w' := by
  have H : ((glossatorref05_Parts.f a0 a1).bind fun bt199 => (if bt199.2.2.2 = 0 then ((glossatorref05_widths.f a0).bind fun bt203 => (if 0 ≤ (wrap64 (52 - bt203.2)) then ((glossatorref05_Class.f k a0 a1).bind fun bt205 => (if 0 ≤ (wrap64 (bt203.1 - 1)) then (if bt205.1 = 0 then ((glossatorref05_join.f bt199.1 0 0).bind fun t207 => (some (t207, 0))) else (if bt205.1 = 3 then (glossatorref05_Widen.j0 k a0 a1 bt199.1 bt199.2.1 (shl .u64 bt199.2.2.1 (wrap64 (52 - bt203.2))) (wrap64 ((shl .i64 1 (wrap64 (bt203.1 - 1))) - 1)) bt205.1 (bt205.1 == 3)) else (glossatorref05_Widen.j0 k a0 a1 bt199.1 bt199.2.1 (shl .u64 bt199.2.2.1 (wrap64 (52 - bt203.2))) (wrap64 ((shl .i64 1 (wrap64 (bt203.1 - 1))) - 1)) bt205.1 (bt205.1 == 4)))) else (none))) else (none))) else (some (0, bt199.2.2.2)))) = some (r1, r2) := h
  clear h
  replace H := Option.bind_eq_some_iff.mp H
  obtain ⟨⟨t199, t200, t201, t202⟩, A30, H⟩ := H
  replace H : (if t202 = 0 then ((glossatorref05_widths.f a0).bind fun bt203 => (if 0 ≤ (wrap64 (52 - bt203.2)) then ((glossatorref05_Class.f k a0 a1).bind fun bt205 => (if 0 ≤ (wrap64 (bt203.1 - 1)) then (if bt205.1 = 0 then ((glossatorref05_join.f t199 0 0).bind fun t207 => (some (t207, 0))) else (if bt205.1 = 3 then (glossatorref05_Widen.j0 k a0 a1 t199 t200 (shl .u64 t201 (wrap64 (52 - bt203.2))) (wrap64 ((shl .i64 1 (wrap64 (bt203.1 - 1))) - 1)) bt205.1 (bt205.1 == 3)) else (glossatorref05_Widen.j0 k a0 a1 t199 t200 (shl .u64 t201 (wrap64 (52 - bt203.2))) (wrap64 ((shl .i64 1 (wrap64 (bt203.1 - 1))) - 1)) bt205.1 (bt205.1 == 4)))) else (none))) else (none))) else (some (0, t202))) = some (r1, r2) := H
  have A3 := Aside0.mk A30
  clear A30
  by_cases c4 : t202 = 0
  · rw [if_pos c4] at H
    have c4b0 : (t202 == 0) = true := beq_iff_eq.mpr c4
    have c4b1 : (t202 != 0) = false := bne_eq_false_iff_eq.mpr c4
    clear c4
    replace H := Option.bind_eq_some_iff.mp H
    obtain ⟨⟨t203, t204⟩, A50, H⟩ := H
    replace H : (if 0 ≤ (wrap64 (52 - t204)) then ((glossatorref05_Class.f k a0 a1).bind fun bt205 => (if 0 ≤ (wrap64 (t203 - 1)) then (if bt205.1 = 0 then ((glossatorref05_join.f t199 0 0).bind fun t207 => (some (t207, 0))) else (if bt205.1 = 3 then (glossatorref05_Widen.j0 k a0 a1 t199 t200 (shl .u64 t201 (wrap64 (52 - t204))) (wrap64 ((shl .i64 1 (wrap64 (t203 - 1))) - 1)) bt205.1 (bt205.1 == 3)) else (glossatorref05_Widen.j0 k a0 a1 t199 t200 (shl .u64 t201 (wrap64 (52 - t204))) (wrap64 ((shl .i64 1 (wrap64 (t203 - 1))) - 1)) bt205.1 (bt205.1 == 4)))) else (none))) else (none)) = some (r1, r2) := H
    have A5 := Aside0.mk A50
    clear A50
    obtain ⟨ji6, hji6⟩ : ∃ j_ : Int, (wrap64 (52 - t204)) = j_ := ⟨_, rfl⟩
    replace H : (if 0 ≤ (ji6) then ((glossatorref05_Class.f k a0 a1).bind fun bt205 => (if 0 ≤ (wrap64 (t203 - 1)) then (if bt205.1 = 0 then ((glossatorref05_join.f t199 0 0).bind fun t207 => (some (t207, 0))) else (if bt205.1 = 3 then (glossatorref05_Widen.j0 k a0 a1 t199 t200 (shl .u64 t201 (ji6)) (wrap64 ((shl .i64 1 (wrap64 (t203 - 1))) - 1)) bt205.1 (bt205.1 == 3)) else (glossatorref05_Widen.j0 k a0 a1 t199 t200 (shl .u64 t201 (ji6)) (wrap64 ((shl .i64 1 (wrap64 (t203 - 1))) - 1)) bt205.1 (bt205.1 == 4)))) else (none))) else (none)) = some (r1, r2) := by first | (rw [hji6] at H; exact H) | (simp only [hji6] at H ⊢; exact H)
    (try rw [hji6] at A3)
    (try rw [hji6] at A5)
    have hji6w : (IntKind.i64.wrap (52 - t204)) = ji6 := (i64_w _).trans hji6
    by_cases c7 : 0 ≤ (ji6)
    · rw [if_pos c7] at H
      have c7b0 := eq_true c7
      have c7b1 : decide (0 ≤ (ji6)) = true := decide_eq_true c7
      clear c7
      obtain ⟨ji8, hji8⟩ : ∃ j_ : Int, (shl .u64 t201 (ji6)) = j_ := ⟨_, rfl⟩
      replace H : ((glossatorref05_Class.f k a0 a1).bind fun bt205 => (if 0 ≤ (wrap64 (t203 - 1)) then (if bt205.1 = 0 then ((glossatorref05_join.f t199 0 0).bind fun t207 => (some (t207, 0))) else (if bt205.1 = 3 then (glossatorref05_Widen.j0 k a0 a1 t199 t200 ji8 (wrap64 ((shl .i64 1 (wrap64 (t203 - 1))) - 1)) bt205.1 (bt205.1 == 3)) else (glossatorref05_Widen.j0 k a0 a1 t199 t200 ji8 (wrap64 ((shl .i64 1 (wrap64 (t203 - 1))) - 1)) bt205.1 (bt205.1 == 4)))) else (none))) = some (r1, r2) := by first | (rw [hji8] at H; exact H) | (simp only [hji8] at H ⊢; exact H)
      (try rw [hji8] at A3)
      (try rw [hji8] at A5)
      have hji8_ : (IntKind.u64.wrap (t201 * 2 ^ min (ji6).toNat 64)) = ji8 := hji8
      have hji8z : (ji6) ≤ 64 → (IntKind.u64.wrap (t201 * 2 ^ (ji6).toNat)) = ji8 := shl_small hji8
      (try have hji8tz := hji8z (by simp only [beq_iff_eq, decide_eq_true_eq] at *; omega))
      replace H := Option.bind_eq_some_iff.mp H
      obtain ⟨⟨t205, t206⟩, A90, H⟩ := H
      replace H : (if 0 ≤ (wrap64 (t203 - 1)) then (if t205 = 0 then ((glossatorref05_join.f t199 0 0).bind fun t207 => (some (t207, 0))) else (if t205 = 3 then (glossatorref05_Widen.j0 k a0 a1 t199 t200 ji8 (wrap64 ((shl .i64 1 (wrap64 (t203 - 1))) - 1)) t205 (t205 == 3)) else (glossatorref05_Widen.j0 k a0 a1 t199 t200 ji8 (wrap64 ((shl .i64 1 (wrap64 (t203 - 1))) - 1)) t205 (t205 == 4)))) else (none)) = some (r1, r2) := H
      have A9 := Aside0.mk A90
      clear A90
      obtain ⟨ji10, hji10⟩ : ∃ j_ : Int, (wrap64 (t203 - 1)) = j_ := ⟨_, rfl⟩
      replace H : (if 0 ≤ (ji10) then (if t205 = 0 then ((glossatorref05_join.f t199 0 0).bind fun t207 => (some (t207, 0))) else (if t205 = 3 then (glossatorref05_Widen.j0 k a0 a1 t199 t200 ji8 (wrap64 ((shl .i64 1 (ji10)) - 1)) t205 (t205 == 3)) else (glossatorref05_Widen.j0 k a0 a1 t199 t200 ji8 (wrap64 ((shl .i64 1 (ji10)) - 1)) t205 (t205 == 4)))) else (none)) = some (r1, r2) := by first | (rw [hji10] at H; exact H) | (simp only [hji10] at H ⊢; exact H)
      (try rw [hji10] at A3)
      (try rw [hji10] at A5)
      (try rw [hji10] at A9)
      have hji10w : (IntKind.i64.wrap (t203 - 1)) = ji10 := (i64_w _).trans hji10
      by_cases c11 : 0 ≤ (ji10)
      · rw [if_pos c11] at H
        have c11b0 := eq_true c11
        have c11b1 : decide (0 ≤ (ji10)) = true := decide_eq_true c11
        clear c11
        obtain ⟨ji12, hji12⟩ : ∃ j_ : Int, (shl .i64 1 (ji10)) = j_ := ⟨_, rfl⟩
        replace H : (if t205 = 0 then ((glossatorref05_join.f t199 0 0).bind fun t207 => (some (t207, 0))) else (if t205 = 3 then (glossatorref05_Widen.j0 k a0 a1 t199 t200 ji8 (wrap64 ((ji12) - 1)) t205 (t205 == 3)) else (glossatorref05_Widen.j0 k a0 a1 t199 t200 ji8 (wrap64 ((ji12) - 1)) t205 (t205 == 4)))) = some (r1, r2) := by first | (rw [hji12] at H; exact H) | (simp only [hji12] at H ⊢; exact H)
        (try rw [hji12] at A3)
        (try rw [hji12] at A5)
        (try rw [hji12] at A9)
        have hji12_ : (IntKind.i64.wrap (1 * 2 ^ min (ji10).toNat 64)) = ji12 := hji12
        have hji12z : (ji10) ≤ 64 → (IntKind.i64.wrap (1 * 2 ^ (ji10).toNat)) = ji12 := shl_small hji12
        have hji12u : (IntKind.i64.wrap (2 ^ min (ji10).toNat 64)) = ji12 := by have h_ := hji12_; rw [Int.one_mul] at h_; exact h_
        have hji12v : (ji10) ≤ 64 → (IntKind.i64.wrap (2 ^ (ji10).toNat)) = ji12 := fun hle_ => by have h_ := hji12z hle_; rw [Int.one_mul] at h_; exact h_
        have hji12y : (wrap64 (1 * 2 ^ min (ji10).toNat 64)) = ji12 := (i64_w _).symm.trans hji12_
        have hji12x : (ji10) ≤ 64 → (wrap64 (1 * 2 ^ (ji10).toNat)) = ji12 := fun h_ => (i64_w _).symm.trans (hji12z h_)
        (try have hji12tz := hji12z (by simp only [beq_iff_eq, decide_eq_true_eq] at *; omega))
        (try have hji12tv := hji12v (by simp only [beq_iff_eq, decide_eq_true_eq] at *; omega))
        (try have hji12tx := hji12x (by simp only [beq_iff_eq, decide_eq_true_eq] at *; omega))
        by_cases c13 : t205 = 0
        · rw [if_pos c13] at H
          have c13b0 : (t205 == 0) = true := beq_iff_eq.mpr c13
          have c13b1 : (t205 != 0) = false := bne_eq_false_iff_eq.mpr c13
          clear c13
          replace H := Option.bind_eq_some_iff.mp H
          obtain ⟨t207, A140, H⟩ := H
          replace H : (some (t207, 0)) = some (r1, r2) := H
          have A14 := Aside0.mk A140
          clear A140
          simp only [Option.some.injEq, Prod.mk.injEq] at H
          obtain ⟨rfl, rfl⟩ := H
          go_enter Try.func13, Try.ntmps13
          go_wp2_with (first | ((with_reducible refine gate_callee (f := 12) rfl ?_); refine goesL_ (some 18) rfl rfl Try.func12 (by kernel_rfl) rfl #[.int .i64 a0, .int .u64 a1] rfl (by (try simp only [List.map_toArray, List.map_cons, List.map_nil]); first | done | rfl | (simp only [List.length_drop, List.length_take]; rfl)) ?_; (with_reducible refine (glossatorref05_Parts.calls a0 a1 t199 t200 t201 t202 _ A3.out).mono ?_); rintro e w' ⟨rfl, ⟨nd, rfl⟩⟩; refine ⟨_, rfl, ?_⟩) | ((with_reducible refine gate_callee (f := 24) rfl ?_); refine goesL_ (some 28) rfl rfl Try.func24 (by kernel_rfl) rfl #[.int .i64 a0] rfl (by (try simp only [List.map_toArray, List.map_cons, List.map_nil]); first | done | rfl | (simp only [List.length_drop, List.length_take]; rfl)) ?_; (with_reducible refine (glossatorref05_widths.calls a0 t203 t204 _ A5.out).mono ?_); rintro e w' ⟨rfl, ⟨nd, rfl⟩⟩; refine ⟨_, rfl, ?_⟩) | ((with_reducible refine gate_callee (f := 10) rfl ?_); refine goesL_ (some 38) rfl rfl Try.func10 (by kernel_rfl) rfl #[.int .i64 a0, .int .u64 a1] rfl (by (try simp only [List.map_toArray, List.map_cons, List.map_nil]); first | done | rfl | (simp only [List.length_drop, List.length_take]; rfl)) ?_; (with_reducible refine (glossatorref05_Class.calls k a0 a1 t205 t206 _ A9.out).mono ?_); rintro e w' ⟨rfl, ⟨nd, rfl⟩⟩; refine ⟨_, rfl, ?_⟩) | ((with_reducible refine gate_callee (f := 25) rfl ?_); refine goesL_ (some 49) rfl rfl Try.func25 (by kernel_rfl) rfl #[.bool t199, .int .i64 0, .int .u64 0] rfl (by (try simp only [List.map_toArray, List.map_cons, List.map_nil]); first | done | rfl | (simp only [List.length_drop, List.length_take]; rfl)) ?_; (with_reducible refine (glossatorref05_join.calls t199 0 0 t207 _ A14.out).mono ?_); rintro e w' ⟨rfl, ⟨nd, rfl⟩⟩; refine ⟨_, rfl, ?_⟩))
          go_ret2
          exact ⟨by first | rfl | (simp; done) | (simp only [← hji6, ← hji8, ← hji10, ← hji12] <;> (first | rfl | simp)) | (simp [*]; done), by repeat (first | exact Drawn0.refl _ | apply Drawn0.step)⟩
        · rw [if_neg c13] at H
          have c13b0 : (t205 == 0) = false := beq_eq_false_iff_ne.mpr c13
          have c13b1 : (t205 != 0) = true := bne_iff_ne.mpr c13
          have HC15 := Aside0.mk H
          clear H
          go_enter Try.func13, Try.ntmps13
          go_upto_if 50 with (first | ((with_reducible refine gate_callee (f := 12) rfl ?_); refine goesL_ (some 18) rfl rfl Try.func12 (by kernel_rfl) rfl #[.int .i64 a0, .int .u64 a1] rfl (by (try simp only [List.map_toArray, List.map_cons, List.map_nil]); first | done | rfl | (simp only [List.length_drop, List.length_take]; rfl)) ?_; (with_reducible refine (glossatorref05_Parts.calls a0 a1 t199 t200 t201 t202 _ A3.out).mono ?_); rintro e w' ⟨rfl, ⟨nd, rfl⟩⟩; refine ⟨_, rfl, ?_⟩) | ((with_reducible refine gate_callee (f := 24) rfl ?_); refine goesL_ (some 28) rfl rfl Try.func24 (by kernel_rfl) rfl #[.int .i64 a0] rfl (by (try simp only [List.map_toArray, List.map_cons, List.map_nil]); first | done | rfl | (simp only [List.length_drop, List.length_take]; rfl)) ?_; (with_reducible refine (glossatorref05_widths.calls a0 t203 t204 _ A5.out).mono ?_); rintro e w' ⟨rfl, ⟨nd, rfl⟩⟩; refine ⟨_, rfl, ?_⟩) | ((with_reducible refine gate_callee (f := 10) rfl ?_); refine goesL_ (some 38) rfl rfl Try.func10 (by kernel_rfl) rfl #[.int .i64 a0, .int .u64 a1] rfl (by (try simp only [List.map_toArray, List.map_cons, List.map_nil]); first | done | rfl | (simp only [List.length_drop, List.length_take]; rfl)) ?_; (with_reducible refine (glossatorref05_Class.calls k a0 a1 t205 t206 _ A9.out).mono ?_); rintro e w' ⟨rfl, ⟨nd, rfl⟩⟩; refine ⟨_, rfl, ?_⟩))
          (try simp only [Act.put, List.setIfInBounds_toArray, List.set_cons_zero, List.set_cons_succ])
          go_cut [50] (fun v50 wc => ∃ (kq : Nat) (x50_14 : Bool), v50 = .bool x50_14 ∧ Aside0 (glossatorref05_Widen.j0 kq a0 a1 t199 t200 ji8 (wrap64 ((ji12) - 1)) t205 x50_14 = some (r1, r2)) ∧ Aside0 (kq ≤ k) ∧ Drawn0 w wc)
          case first =>
            have H := HC15.out
            clear HC15
            by_cases c16 : t205 = 3
            · rw [if_pos c16] at H
              have c16b0 : (t205 == 3) = true := beq_iff_eq.mpr c16
              have c16b1 : (t205 != 3) = false := bne_eq_false_iff_eq.mpr c16
              clear c16
              (first | rw [c16b0] | (simp only [i64_w, i32_w]; rw [c16b0]) | skip)
              have H' := Aside0.mk H
              clear H
              go_wp2
              go_meet
              case rel => exact ⟨_, ((t205 == 3)), (by first | rfl | (simp; done) | (simp [*]; done) | (simp [*] <;> decide +kernel)), H', ⟨by first | omega | exact Nat.le_refl _⟩, by repeat (first | exact Drawn0.refl _ | apply Drawn0.step)⟩
            · rw [if_neg c16] at H
              have c16b0 : (t205 == 3) = false := beq_eq_false_iff_ne.mpr c16
              have c16b1 : (t205 != 3) = true := bne_iff_ne.mpr c16
              (first | rw [c16b0] | (simp only [i64_w, i32_w]; rw [c16b0]) | skip)
              have H' := Aside0.mk H
              clear H
              go_wp2
              go_meet
              case rel => exact ⟨_, ((t205 == 4)), (by first | rfl | (simp; done) | (simp [*]; done) | (simp [*] <;> decide +kernel)), H', ⟨by first | omega | exact Nat.le_refl _⟩, by repeat (first | exact Drawn0.refl _ | apply Drawn0.step)⟩
          case rest =>
            clear HC15
            try clear c1
            try clear c2
            try clear p2
            try clear c4
            try clear c4b0
            try clear c4b1
            try clear p6
            try clear c7
            try clear c7b0
            try clear c7b1
            try clear c10
            try clear c11
            try clear c11b0
            try clear c11b1
            try clear c12
            try clear c13
            try clear c13b0
            try clear c13b1
            try clear c16
            try clear c16b0
            try clear c16b1
            obtain ⟨kq, x50_14, rfl, HA, HJ14, ⟨mc14, rfl⟩⟩ := hcut
            cases kq with
            | zero => exact absurd HA.out (by simp [glossatorref05_Widen.j0])
            | succ kj14 =>
              have H := HA.out
              clear HA
              simp only [glossatorref05_Widen.j0] at H
              by_cases c17 : x50_14 = true
              · subst c17
                have H1 : ((glossatorref05_join.f t199 2047 ji8).bind fun t208 => (some (t208, 0))) = some (r1, r2) := by rw [if_pos rfl] at H; exact H
                clear H
                have H := H1
                clear H1
                replace H := Option.bind_eq_some_iff.mp H
                obtain ⟨t208, A180, H⟩ := H
                replace H : (some (t208, 0)) = some (r1, r2) := H
                have A18 := Aside0.mk A180
                clear A180
                simp only [Option.some.injEq, Prod.mk.injEq] at H
                obtain ⟨rfl, rfl⟩ := H
                go_wp2_with (first | ((with_reducible refine gate_callee (f := 25) rfl ?_); refine goesL_ (some 55) rfl rfl Try.func25 (by kernel_rfl) rfl #[.bool t199, .int .i64 2047, .int .u64 ji8] rfl (by (try simp only [List.map_toArray, List.map_cons, List.map_nil]); first | done | (simp only [hji8]; rfl) | rfl | (simp only [List.length_drop, List.length_take]; rfl)) ?_; (with_reducible refine (glossatorref05_join.calls t199 2047 ji8 t208 _ A18.out).mono ?_); rintro e w' ⟨rfl, ⟨nd, rfl⟩⟩; refine ⟨_, rfl, ?_⟩))
                go_ret2
                exact ⟨by first | rfl | (simp; done) | (simp only [← hji6, ← hji8, ← hji10, ← hji12] <;> (first | rfl | simp)) | (simp [*]; done), by repeat (first | exact Drawn0.refl _ | apply Drawn0.step)⟩
              · replace c17 := Bool.eq_false_iff.mpr c17
                subst c17
                have H1 : (if t205 = 2 then ((glossatorref05_join.f t199 (wrap64 ((wrap64 (t200 - (wrap64 ((ji12) - 1)))) + 1023)) ji8).bind fun t209 => (some (t209, 0))) else (if a0 = 64 then (some (a1, 0)) else (glossatorref05_Widen.l0 kj14 t199 (wrap64 ((wrap64 (1 - (wrap64 ((ji12) - 1)))) + 1023)) ji8))) = some (r1, r2) := by rw [if_neg (show ¬ (false = true) by decide)] at H; exact H
                clear H
                have H := H1
                clear H1
                by_cases c19 : t205 = 2
                · rw [if_pos c19] at H
                  have c19b0 : (t205 == 2) = true := beq_iff_eq.mpr c19
                  have c19b1 : (t205 != 2) = false := bne_eq_false_iff_eq.mpr c19
                  clear c19
                  replace H := Option.bind_eq_some_iff.mp H
                  obtain ⟨t209, A200, H⟩ := H
                  replace H : (some (t209, 0)) = some (r1, r2) := H
                  have A20 := Aside0.mk A200
                  clear A200
                  simp only [Option.some.injEq, Prod.mk.injEq] at H
                  obtain ⟨rfl, rfl⟩ := H
                  go_wp2_with (first | ((with_reducible refine gate_callee (f := 25) rfl ?_); refine goesL_ (some 64) rfl rfl Try.func25 (by kernel_rfl) rfl #[.bool t199, .int .i64 (wrap64 ((wrap64 (t200 - (wrap64 ((ji12) - 1)))) + 1023)), .int .u64 ji8] rfl (by (try simp only [List.map_toArray, List.map_cons, List.map_nil]); first | done | (simp only [hji12, hji8]; rfl) | rfl | (simp only [List.length_drop, List.length_take]; rfl)) ?_; (with_reducible refine (glossatorref05_join.calls t199 (wrap64 ((wrap64 (t200 - (wrap64 ((ji12) - 1)))) + 1023)) ji8 t209 _ A20.out).mono ?_); rintro e w' ⟨rfl, ⟨nd, rfl⟩⟩; refine ⟨_, rfl, ?_⟩))
                  go_ret2
                  exact ⟨by first | rfl | (simp; done) | (simp only [← hji6, ← hji8, ← hji10, ← hji12] <;> (first | rfl | simp)) | (simp [*]; done), by repeat (first | exact Drawn0.refl _ | apply Drawn0.step)⟩
                · rw [if_neg c19] at H
                  have c19b0 : (t205 == 2) = false := beq_eq_false_iff_ne.mpr c19
                  have c19b1 : (t205 != 2) = true := bne_iff_ne.mpr c19
                  by_cases c21 : a0 = 64
                  · rw [if_pos c21] at H
                    have c21b0 : (a0 == 64) = true := beq_iff_eq.mpr c21
                    have c21b1 : (a0 != 64) = false := bne_eq_false_iff_eq.mpr c21
                    clear c21
                    simp only [Option.some.injEq, Prod.mk.injEq] at H
                    obtain ⟨rfl, rfl⟩ := H
                    go_wp2
                    go_ret2
                    exact ⟨by first | rfl | (simp; done) | (simp only [← hji6, ← hji8, ← hji10, ← hji12] <;> (first | rfl | simp)) | (simp [*]; done), by repeat (first | exact Drawn0.refl _ | apply Drawn0.step)⟩
                  · rw [if_neg c21] at H
                    have c21b0 : (a0 == 64) = false := beq_eq_false_iff_ne.mpr c21
                    have c21b1 : (a0 != 64) = true := bne_iff_ne.mpr c21
                    have H' := Aside0.mk H
                    clear H
                    go_wp2
                    go_loopg [7, 8] kj14 (fun kq v7 v8 w' => ∃ (x7_2 : Int) (x8_2 : Int), v7 = .int .i64 x7_2 ∧ v8 = .int .u64 x8_2 ∧ Aside0 (glossatorref05_Widen.l0 kq t199 x7_2 x8_2 = some (r1, r2)) ∧ Aside0 (kq ≤ kj14) ∧ Drawn0 w w')
                    case atStart => exact ⟨(wrap64 ((wrap64 (1 - (wrap64 ((ji12) - 1)))) + 1023)), (ji8), (by first | rfl | (simp; done) | (simp only [← hji12] <;> (first | rfl | simp)) | (simp [*]; done)), (by first | rfl | (simp; done) | (simp only [← hji8] <;> (first | rfl | simp)) | (simp [*]; done)), H', ⟨Nat.le_refl _⟩, by repeat (first | exact Drawn0.refl _ | apply Drawn0.step)⟩
                    case round =>
                      clear H'
                      try clear c1
                      try clear c2
                      try clear p2
                      try clear c4
                      try clear c4b0
                      try clear c4b1
                      try clear p6
                      try clear c7
                      try clear c7b0
                      try clear c7b1
                      try clear c10
                      try clear c11
                      try clear c11b0
                      try clear c11b1
                      try clear c12
                      try clear c13
                      try clear c13b0
                      try clear c13b1
                      try clear c14
                      try clear c16
                      try clear c16b0
                      try clear c16b1
                      try clear c17
                      try clear c19
                      try clear c19b0
                      try clear c19b1
                      try clear c21
                      try clear c21b0
                      try clear c21b1
                      try clear p2
                      try clear p6
                      obtain ⟨x7_2, x8_2, rfl, rfl, HA, HK2, ⟨m2, rfl⟩⟩ := hrel
                      cases gk with
                      | zero => exact absurd HA.out (by simp [glossatorref05_Widen.l0])
                      | succ k2 =>
                        have H := HA.out
                        clear HA
                        simp only [glossatorref05_Widen.l0] at H
                        by_cases c22 : (x8_2 / 4503599627370496) = 0
                        · rw [if_pos c22] at H
                          have c22b0 : ((x8_2 / 4503599627370496) == 0) = true := beq_iff_eq.mpr c22
                          have c22b1 : ((x8_2 / 4503599627370496) != 0) = false := bne_eq_false_iff_eq.mpr c22
                          clear c22
                          have H' := Aside0.mk H
                          clear H
                          go_wp2
                          go_roundg k2
                          case measure => have := HJ14.out; have := HK2.out; omega
                          case rel => exact ⟨(wrap64 (x7_2 - 1)), (IntKind.u64.wrap (x8_2 * 2)), (by first | rfl | (simp; done) | (simp [*]; done) | (simp [*] <;> decide +kernel)), (by first | rfl | (simp; done) | (simp [*]; done) | (simp [*] <;> decide +kernel)), H', ⟨by have := HJ14.out; have := HK2.out; omega⟩, by repeat (first | exact Drawn0.refl _ | apply Drawn0.step)⟩
                        · rw [if_neg c22] at H
                          have c22b0 : ((x8_2 / 4503599627370496) == 0) = false := beq_eq_false_iff_ne.mpr c22
                          have c22b1 : ((x8_2 / 4503599627370496) != 0) = true := bne_iff_ne.mpr c22
                          replace H := Option.bind_eq_some_iff.mp H
                          obtain ⟨t210, A230, H⟩ := H
                          replace H : (some (t210, 0)) = some (r1, r2) := H
                          have A23 := Aside0.mk A230
                          clear A230
                          simp only [Option.some.injEq, Prod.mk.injEq] at H
                          obtain ⟨rfl, rfl⟩ := H
                          go_wp2_with (first | ((with_reducible refine gate_callee (f := 25) rfl ?_); refine goesL_ (some 82) rfl rfl Try.func25 (by kernel_rfl) rfl #[.bool t199, .int .i64 x7_2, .int .u64 (Go.bits .and .u64 x8_2 4503599627370495)] rfl (by (try simp only [List.map_toArray, List.map_cons, List.map_nil]); first | done | rfl | (simp only [List.length_drop, List.length_take]; rfl)) ?_; (with_reducible refine (glossatorref05_join.calls t199 x7_2 (Go.bits .and .u64 x8_2 4503599627370495) t210 _ A23.out).mono ?_); rintro e w' ⟨rfl, ⟨nd, rfl⟩⟩; refine ⟨_, rfl, ?_⟩))
                          go_ret2
                          exact ⟨by first | rfl | (simp; done) | (simp only [← hji6, ← hji8, ← hji10, ← hji12] <;> (first | rfl | simp)) | (simp [*]; done), by repeat (first | exact Drawn0.refl _ | apply Drawn0.step)⟩
      · rw [if_neg c11] at H
        exact absurd H (by simp)
    · rw [if_neg c7] at H
      exact absurd H (by simp)
  · rw [if_neg c4] at H
    have c4b0 : (t202 == 0) = false := beq_eq_false_iff_ne.mpr c4
    have c4b1 : (t202 != 0) = true := bne_iff_ne.mpr c4
    simp only [Option.some.injEq, Prod.mk.injEq] at H
    obtain ⟨rfl, rfl⟩ := H
    go_enter Try.func13, Try.ntmps13
    go_wp2_with (first | ((with_reducible refine gate_callee (f := 12) rfl ?_); refine goesL_ (some 18) rfl rfl Try.func12 (by kernel_rfl) rfl #[.int .i64 a0, .int .u64 a1] rfl (by (try simp only [List.map_toArray, List.map_cons, List.map_nil]); first | done | rfl | (simp only [List.length_drop, List.length_take]; rfl)) ?_; (with_reducible refine (glossatorref05_Parts.calls a0 a1 t199 t200 t201 t202 _ A3.out).mono ?_); rintro e w' ⟨rfl, ⟨nd, rfl⟩⟩; refine ⟨_, rfl, ?_⟩))
    go_ret2
    exact ⟨by first | rfl | (simp; done) | (simp [*]; done), by repeat (first | exact Drawn0.refl _ | apply Drawn0.step)⟩

end Go.Proofs.Ytjefhpbliihonaa.PFbitsTurns
