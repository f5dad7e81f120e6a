-- Written by a program of this session out of the kit's print (print.py, its switches or its text changed): not the kit's own print
import Derived.Test.YtjefhpbliihonaaPFbitsTurnsx0
import Derived.Test.YtjefhpbliihonaaPFbitsTurnsx5
import Derived.Test.YtjefhpbliihonaaPFbitsTurnsx6
import Derived.Test.YtjefhpbliihonaaPFbitsTurnsx7
namespace Go.Proofs.Ytjefhpbliihonaa.PFbitsTurns
open Go.RowKit Go.Proofs.YtjefhpbliihonaaW.PrintWords Go.Proofs.YtjefhpbliihonaaW.PrintLast Go.Proofs.YtjefhpbliihonaaW.PrintMore
attribute [local go_sem] max2_int min2_int max_two min_two max_three min_three max_four min_four   -- for this text's walks alone
set_option linter.unusedVariables false
set_option linter.unusedSimpArgs false

/-! ### glossatorref05_shift: function 27 -/
def glossatorref05_shift.l0 : Nat → Int → Int → Int → Option (Int × Bool)
  | 0, _, _, _ => none
  | k + 1, x0, x1, x6 => if x6 < x1 then (if (Go.bits .and .u64 x0 1) = 1 then (some (0, false)) else (glossatorref05_shift.l0 k (x0 / 2) x1 (wrap64 (x6 + 1)))) else (some (x0, true))
def glossatorref05_shift.f (k : Nat) (a0 : Int) (a1 : Int) : Option (Int × Bool) := glossatorref05_shift.l0 k a0 a1 0
theorem glossatorref05_shift.mono_l : ∀ k, (∀ y0 y1 y2, LeO (glossatorref05_shift.l0 k y0 y1 y2) (glossatorref05_shift.l0 (k + 1) y0 y1 y2))
  | 0 => fun _ _ _ r h => by simp [glossatorref05_shift.l0] at h
  | k + 1 => by
    have ih0 := glossatorref05_shift.mono_l k
    · intro y0 y1 y2
      unfold glossatorref05_shift.l0
      repeat' first
      | (with_reducible exact ih0 _ _ _)
      | (with_reducible exact LeO.refl _)
      | (with_reducible exact LeO.none _)
      | (with_reducible refine LeO.ite ?_ ?_)
      | (with_reducible refine LeO.bind ?_ (fun _ => ?_))
      | exact ih0 _ _ _
      | exact LeO.none _
      | refine LeO.ite ?_ ?_
      | refine LeO.bind ?_ (fun _ => ?_)
theorem glossatorref05_shift.mono : ∀ a0 a1 k, LeO (glossatorref05_shift.f k a0 a1) (glossatorref05_shift.f (k + 1) a0 a1) := by
  intro a0 a1 k
  have ih0 := glossatorref05_shift.mono_l k
  unfold glossatorref05_shift.f
  repeat' first
      | (with_reducible exact ih0 _ _ _)
      | (with_reducible exact LeO.refl _)
      | (with_reducible exact LeO.none _)
      | (with_reducible refine LeO.ite ?_ ?_)
      | (with_reducible refine LeO.bind ?_ (fun _ => ?_))
      | exact ih0 _ _ _
      | exact LeO.none _
      | refine LeO.ite ?_ ?_
      | refine LeO.bind ?_ (fun _ => ?_)
set_option maxHeartbeats 8000000 in
set_option maxRecDepth 100000 in
theorem glossatorref05_shift.calls (k : Nat) (a0 : Int) (a1 : Int) (r1 : Int) (r2 : Bool) (w : World) (h : glossatorref05_shift.f k a0 a1 = some (r1, r2)) :
    Calls Try.prog 27 #[.int .u64 a0, .int .i64 a1] w fun e w' => e = .returned (.tuple #[.int .u64 r1, .bool r2]) ∧ Drawn0 w w' := by
  have H : (glossatorref05_shift.l0 k a0 a1 0) = some (r1, r2) := h
  clear h
  have H' := Aside0.mk H
  clear H
  go_enter Try.func27, Try.ntmps27
  go_wp2
  go_loopg [0, 6] k (fun kq v0 v6 w' => ∃ (x0_1 : Int) (x6_1 : Int), v0 = .int .u64 x0_1 ∧ v6 = .int .i64 x6_1 ∧ Aside0 (glossatorref05_shift.l0 kq x0_1 a1 x6_1 = some (r1, r2)) ∧ Aside0 (kq ≤ k) ∧ Drawn0 w w')
  case atStart => exact ⟨(a0), (0), (by first | rfl | (simp; done) | (simp [*]; done) | (simp [*] <;> decide +kernel)), (by first | rfl | (simp; done) | (simp [*]; done) | (simp [*] <;> decide +kernel)), H', ⟨Nat.le_refl _⟩, by repeat (first | exact Drawn0.refl _ | apply Drawn0.step)⟩
  case round =>
    clear H'
    try clear c2
    try clear p2
    obtain ⟨x0_1, x6_1, rfl, rfl, HA, HK1, ⟨m1, rfl⟩⟩ := hrel
    cases gk with
    | zero => exact absurd HA.out (by simp [glossatorref05_shift.l0])
    | succ k1 =>
      have H := HA.out
      clear HA
      simp only [glossatorref05_shift.l0] at H
      by_cases c3 : x6_1 < a1
      · rw [if_pos c3] at H
        have c3b0 : decide (x6_1 < a1) = true := decide_eq_true c3
        clear c3
        by_cases c4 : (Go.bits .and .u64 x0_1 1) = 1
        · rw [if_pos c4] at H
          have c4b0 : ((Go.bits .and .u64 x0_1 1) == 1) = true := beq_iff_eq.mpr c4
          have c4b1 : ((Go.bits .and .u64 x0_1 1) != 1) = false := bne_eq_false_iff_eq.mpr c4
          clear c4
          simp only [Option.some.injEq, Prod.mk.injEq] at H
          obtain ⟨rfl, rfl⟩ := H
          go_wp2
          go_ret2
          exact ⟨by first | rfl | (simp; done) | (simp [*]; done), by repeat (first | exact Drawn0.refl _ | apply Drawn0.step)⟩
        · rw [if_neg c4] at H
          have c4b0 : ((Go.bits .and .u64 x0_1 1) == 1) = false := beq_eq_false_iff_ne.mpr c4
          have c4b1 : ((Go.bits .and .u64 x0_1 1) != 1) = true := bne_iff_ne.mpr c4
          have H' := Aside0.mk H
          clear H
          go_wp2
          go_roundg k1
          case measure => have := HK1.out; omega
          case rel => exact ⟨(x0_1 / 2), (wrap64 (x6_1 + 1)), (by first | rfl | (simp; done) | (simp [*]; done) | (simp [*] <;> decide +kernel)), (by first | rfl | (simp; done) | (simp [*]; done) | (simp [*] <;> decide +kernel)), H', ⟨by have := HK1.out; omega⟩, by repeat (first | exact Drawn0.refl _ | apply Drawn0.step)⟩
      · rw [if_neg c3] at H
        have c3b0 : decide (x6_1 < a1) = false := decide_eq_false c3
        clear c3
        simp only [Option.some.injEq, Prod.mk.injEq] at H
        obtain ⟨rfl, rfl⟩ := H
        go_wp2
        go_ret2
        exact ⟨by first | rfl | (simp; done) | (simp [*]; done), by repeat (first | exact Drawn0.refl _ | apply Drawn0.step)⟩

/-! ### glossatorref05_Narrow: function 15 -/
mutual
def glossatorref05_Narrow.j0 : Nat → Int → Int → Int → Int → Int → Option (Int × Bool × Int)
  | 0, _, _, _, _, _ => none
  | k + 1, x7, x8, x10, x11, x13 => if 0 ≤ (wrap64 (x7 - 1)) then (if x10 = 0 then (glossatorref05_Narrow.j1 k x7 x8 x10 x11 x13 (wrap64 ((wrap64 (x10 - 1023)) + (wrap64 ((shl .i64 1 (wrap64 (x7 - 1))) - 1)))) (x11 == 0)) else (glossatorref05_Narrow.j1 k x7 x8 x10 x11 x13 (wrap64 ((wrap64 (x10 - 1023)) + (wrap64 ((shl .i64 1 (wrap64 (x7 - 1))) - 1)))) false)) else (none)
def glossatorref05_Narrow.j1 : Nat → Int → Int → Int → Int → Int → Int → Bool → Option (Int × Bool × Int)
  | 0, _, _, _, _, _, _, _ => none
  | k + 1, x7, x8, x10, x11, x13, x15, x52 => if x52 = true then (some (x13, true, 0)) else (if x10 = 0 then (some (0, false, 0)) else (if x10 = 2047 then ((glossatorref05_shift.f k x11 (wrap64 (52 - x8))).bind fun bt247 => (if bt247.2 = true then (if 0 ≤ x7 then (if 0 ≤ x8 then (some (Go.bits .or .u64 (Go.bits .or .u64 x13 (shl .u64 (IntKind.u64.wrap ((shl .u64 1 x7) - 1)) x8)) bt247.1, true, 0)) else (none)) else (none)) else (some (0, false, 0)))) else (if 0 ≤ x7 then (if x15 ≥ (wrap64 ((shl .i64 1 x7) - 1)) then (glossatorref05_Narrow.j2 k x8 x11 x13 x15 true) else (glossatorref05_Narrow.j2 k x8 x11 x13 x15 (decide (x15 < (wrap64 (-x8)))))) else (none))))
def glossatorref05_Narrow.j2 : Nat → Int → Int → Int → Int → Bool → Option (Int × Bool × Int)
  | 0, _, _, _, _, _ => none
  | k + 1, x8, x11, x13, x15, x84 => if x84 = true then (some (0, false, 0)) else (if x15 ≥ 1 then ((glossatorref05_shift.f k x11 (wrap64 (52 - x8))).bind fun bt249 => (if bt249.2 = true then (if 0 ≤ x8 then (some (Go.bits .or .u64 (Go.bits .or .u64 x13 (shl .u64 (IntKind.u64.wrap (x15)) x8)) bt249.1, true, 0)) else (none)) else (some (0, false, 0)))) else ((glossatorref05_shift.f k (Go.bits .or .u64 x11 4503599627370496) (wrap64 ((wrap64 ((wrap64 (52 - x8)) + 1)) - x15))).bind fun bt251 => (if bt251.2 = true then (some (Go.bits .or .u64 x13 bt251.1, true, 0)) else (some (0, false, 0)))))
end
def glossatorref05_Narrow.f (k : Nat) (a0 : Int) (a1 : Int) : Option (Int × Bool × Int) := (glossatorref05_widths.f a0).bind fun bt241 => (if bt241.1 = 0 then (some (0, false, 1)) else (if a0 = 64 then (some (a1, true, 0)) else ((glossatorref05_Parts.f 64 a1).bind fun bt243 => (if bt243.1 = true then (if 0 ≤ (wrap64 (bt241.1 + bt241.2)) then (glossatorref05_Narrow.j0 k bt241.1 bt241.2 bt243.2.1 bt243.2.2.1 (shl .u64 1 (wrap64 (bt241.1 + bt241.2)))) else (none)) else (glossatorref05_Narrow.j0 k bt241.1 bt241.2 bt243.2.1 bt243.2.2.1 0)))))
theorem glossatorref05_Narrow.mono_l : ∀ k, (∀ y0 y1 y2 y3 y4, LeO (glossatorref05_Narrow.j0 k y0 y1 y2 y3 y4) (glossatorref05_Narrow.j0 (k + 1) y0 y1 y2 y3 y4)) ∧ (∀ y0 y1 y2 y3 y4 y5 y6, LeO (glossatorref05_Narrow.j1 k y0 y1 y2 y3 y4 y5 y6) (glossatorref05_Narrow.j1 (k + 1) y0 y1 y2 y3 y4 y5 y6)) ∧ (∀ y0 y1 y2 y3 y4, LeO (glossatorref05_Narrow.j2 k y0 y1 y2 y3 y4) (glossatorref05_Narrow.j2 (k + 1) y0 y1 y2 y3 y4))
  | 0 => ⟨fun _ _ _ _ _ r h => by simp [glossatorref05_Narrow.j0] at h, fun _ _ _ _ _ _ _ r h => by simp [glossatorref05_Narrow.j1] at h, fun _ _ _ _ _ r h => by simp [glossatorref05_Narrow.j2] at h⟩
  | k + 1 => by
    obtain ⟨ih0, ih1, ih2⟩ := glossatorref05_Narrow.mono_l k
    refine ⟨?_, ?_, ?_⟩
    · intro y0 y1 y2 y3 y4
      unfold glossatorref05_Narrow.j0
      repeat' first
      | (with_reducible exact ih0 _ _ _ _ _)
      | (with_reducible exact ih1 _ _ _ _ _ _ _)
      | (with_reducible exact ih2 _ _ _ _ _)
      | (with_reducible exact glossatorref05_shift.mono _ _ _)
      | (with_reducible exact LeO.refl _)
      | (with_reducible exact LeO.none _)
      | (with_reducible refine LeO.ite ?_ ?_)
      | (with_reducible refine LeO.bind ?_ (fun _ => ?_))
      | exact ih0 _ _ _ _ _
      | exact ih1 _ _ _ _ _ _ _
      | exact ih2 _ _ _ _ _
      | exact glossatorref05_shift.mono _ _ _
      | exact LeO.none _
      | refine LeO.ite ?_ ?_
      | refine LeO.bind ?_ (fun _ => ?_)
    · intro y0 y1 y2 y3 y4 y5 y6
      unfold glossatorref05_Narrow.j1
      repeat' first
      | (with_reducible exact ih0 _ _ _ _ _)
      | (with_reducible exact ih1 _ _ _ _ _ _ _)
      | (with_reducible exact ih2 _ _ _ _ _)
      | (with_reducible exact glossatorref05_shift.mono _ _ _)
      | (with_reducible exact LeO.refl _)
      | (with_reducible exact LeO.none _)
      | (with_reducible refine LeO.ite ?_ ?_)
      | (with_reducible refine LeO.bind ?_ (fun _ => ?_))
      | exact ih0 _ _ _ _ _
      | exact ih1 _ _ _ _ _ _ _
      | exact ih2 _ _ _ _ _
      | exact glossatorref05_shift.mono _ _ _
      | exact LeO.none _
      | refine LeO.ite ?_ ?_
      | refine LeO.bind ?_ (fun _ => ?_)
    · intro y0 y1 y2 y3 y4
      unfold glossatorref05_Narrow.j2
      repeat' first
      | (with_reducible exact ih0 _ _ _ _ _)
      | (with_reducible exact ih1 _ _ _ _ _ _ _)
      | (with_reducible exact ih2 _ _ _ _ _)
      | (with_reducible exact glossatorref05_shift.mono _ _ _)
      | (with_reducible exact LeO.refl _)
      | (with_reducible exact LeO.none _)
      | (with_reducible refine LeO.ite ?_ ?_)
      | (with_reducible refine LeO.bind ?_ (fun _ => ?_))
      | exact ih0 _ _ _ _ _
      | exact ih1 _ _ _ _ _ _ _
      | exact ih2 _ _ _ _ _
      | exact glossatorref05_shift.mono _ _ _
      | exact LeO.none _
      | refine LeO.ite ?_ ?_
      | refine LeO.bind ?_ (fun _ => ?_)
theorem glossatorref05_Narrow.mono : ∀ a0 a1 k, LeO (glossatorref05_Narrow.f k a0 a1) (glossatorref05_Narrow.f (k + 1) a0 a1) := by
  intro a0 a1 k
  obtain ⟨ih0, ih1, ih2⟩ := glossatorref05_Narrow.mono_l k
  unfold glossatorref05_Narrow.f
  repeat' first
      | (with_reducible exact ih0 _ _ _ _ _)
      | (with_reducible exact ih1 _ _ _ _ _ _ _)
      | (with_reducible exact ih2 _ _ _ _ _)
      | (with_reducible exact glossatorref05_shift.mono _ _ _)
      | (with_reducible exact LeO.refl _)
      | (with_reducible exact LeO.none _)
      | (with_reducible refine LeO.ite ?_ ?_)
      | (with_reducible refine LeO.bind ?_ (fun _ => ?_))
      | exact ih0 _ _ _ _ _
      | exact ih1 _ _ _ _ _ _ _
      | exact ih2 _ _ _ _ _
      | exact glossatorref05_shift.mono _ _ _
      | exact LeO.none _
      | refine LeO.ite ?_ ?_
      | refine LeO.bind ?_ (fun _ => ?_)
set_option maxHeartbeats 8000000 in
set_option maxRecDepth 100000 in
theorem glossatorref05_Narrow.calls (k : Nat) (a0 : Int) (a1 : Int) (r1 : Int) (r2 : Bool) (r3 : Int) (w : World) (h : glossatorref05_Narrow.f k a0 a1 = some (r1, r2, r3)) :
    Calls Try.prog 15 #[.int .i64 a0, .int .u64 a1] w fun e w' => e = .returned (.tuple #[.int .u64 r1, .bool r2, .int .i64 r3]) ∧ Drawn0 w w' := by
  have H : ((glossatorref05_widths.f a0).bind fun bt241 => (if bt241.1 = 0 then (some (0, false, 1)) else (if a0 = 64 then (some (a1, true, 0)) else ((glossatorref05_Parts.f 64 a1).bind fun bt243 => (if bt243.1 = true then (if 0 ≤ (wrap64 (bt241.1 + bt241.2)) then (glossatorref05_Narrow.j0 k bt241.1 bt241.2 bt243.2.1 bt243.2.2.1 (shl .u64 1 (wrap64 (bt241.1 + bt241.2)))) else (none)) else (glossatorref05_Narrow.j0 k bt241.1 bt241.2 bt243.2.1 bt243.2.2.1 0)))))) = some (r1, r2, r3) := h
  clear h
  replace H := Option.bind_eq_some_iff.mp H
  obtain ⟨⟨t241, t242⟩, A30, H⟩ := H
  replace H : (if t241 = 0 then (some (0, false, 1)) else (if a0 = 64 then (some (a1, true, 0)) else ((glossatorref05_Parts.f 64 a1).bind fun bt243 => (if bt243.1 = true then (if 0 ≤ (wrap64 (t241 + t242)) then (glossatorref05_Narrow.j0 k t241 t242 bt243.2.1 bt243.2.2.1 (shl .u64 1 (wrap64 (t241 + t242)))) else (none)) else (glossatorref05_Narrow.j0 k t241 t242 bt243.2.1 bt243.2.2.1 0))))) = some (r1, r2, r3) := H
  have A3 := Aside0.mk A30
  clear A30
  by_cases c4 : t241 = 0
  · rw [if_pos c4] at H
    have c4b0 : (t241 == 0) = true := beq_iff_eq.mpr c4
    have c4b1 : (t241 != 0) = false := bne_eq_false_iff_eq.mpr c4
    clear c4
    simp only [Option.some.injEq, Prod.mk.injEq] at H
    obtain ⟨rfl, rfl, rfl⟩ := H
    go_enter Try.func15, Try.ntmps15
    go_wp2_with (first | ((with_reducible refine gate_callee (f := 24) rfl ?_); refine goesL_ (some 24) rfl rfl Try.func24 (by kernel_rfl) rfl #[.int .i64 a0] rfl (by (try simp only [List.map_toArray, List.map_cons, List.map_nil]); first | done | rfl | (simp only [List.length_drop, List.length_take]; rfl)) ?_; (with_reducible refine (glossatorref05_widths.calls a0 t241 t242 _ A3.out).mono ?_); rintro e w' ⟨rfl, ⟨nd, rfl⟩⟩; refine ⟨_, rfl, ?_⟩))
    go_ret3
    exact ⟨by first | rfl | (simp; done) | (simp [*]; done), by repeat (first | exact Drawn0.refl _ | apply Drawn0.step)⟩
  · rw [if_neg c4] at H
    have c4b0 : (t241 == 0) = false := beq_eq_false_iff_ne.mpr c4
    have c4b1 : (t241 != 0) = true := bne_iff_ne.mpr c4
    by_cases c5 : a0 = 64
    · rw [if_pos c5] at H
      have c5b0 : (a0 == 64) = true := beq_iff_eq.mpr c5
      have c5b1 : (a0 != 64) = false := bne_eq_false_iff_eq.mpr c5
      clear c5
      simp only [Option.some.injEq, Prod.mk.injEq] at H
      obtain ⟨rfl, rfl, rfl⟩ := H
      go_enter Try.func15, Try.ntmps15
      go_wp2_with (first | ((with_reducible refine gate_callee (f := 24) rfl ?_); refine goesL_ (some 24) rfl rfl Try.func24 (by kernel_rfl) rfl #[.int .i64 a0] rfl (by (try simp only [List.map_toArray, List.map_cons, List.map_nil]); first | done | rfl | (simp only [List.length_drop, List.length_take]; rfl)) ?_; (with_reducible refine (glossatorref05_widths.calls a0 t241 t242 _ A3.out).mono ?_); rintro e w' ⟨rfl, ⟨nd, rfl⟩⟩; refine ⟨_, rfl, ?_⟩))
      go_ret3
      exact ⟨by first | rfl | (simp; done) | (simp [*]; done), by repeat (first | exact Drawn0.refl _ | apply Drawn0.step)⟩
    · rw [if_neg c5] at H
      have c5b0 : (a0 == 64) = false := beq_eq_false_iff_ne.mpr c5
      have c5b1 : (a0 != 64) = true := bne_iff_ne.mpr c5
      replace H := Option.bind_eq_some_iff.mp H
      obtain ⟨⟨t243, t244, t245, t246⟩, A60, H⟩ := H
      replace H : (if t243 = true then (if 0 ≤ (wrap64 (t241 + t242)) then (glossatorref05_Narrow.j0 k t241 t242 t244 t245 (shl .u64 1 (wrap64 (t241 + t242)))) else (none)) else (glossatorref05_Narrow.j0 k t241 t242 t244 t245 0)) = some (r1, r2, r3) := H
      have A6 := Aside0.mk A60
      clear A60
      have HC7 := Aside0.mk H
      clear H
      go_enter Try.func15, Try.ntmps15
      go_upto_if 39 with (first | ((with_reducible refine gate_callee (f := 24) rfl ?_); refine goesL_ (some 24) rfl rfl Try.func24 (by kernel_rfl) rfl #[.int .i64 a0] rfl (by (try simp only [List.map_toArray, List.map_cons, List.map_nil]); first | done | rfl | (simp only [List.length_drop, List.length_take]; rfl)) ?_; (with_reducible refine (glossatorref05_widths.calls a0 t241 t242 _ A3.out).mono ?_); rintro e w' ⟨rfl, ⟨nd, rfl⟩⟩; refine ⟨_, rfl, ?_⟩) | ((with_reducible refine gate_callee (f := 12) rfl ?_); refine goesL_ (some 34) rfl rfl Try.func12 (by kernel_rfl) rfl #[.int .i64 64, .int .u64 a1] rfl (by (try simp only [List.map_toArray, List.map_cons, List.map_nil]); first | done | rfl | (simp only [List.length_drop, List.length_take]; rfl)) ?_; (with_reducible refine (glossatorref05_Parts.calls 64 a1 t243 t244 t245 t246 _ A6.out).mono ?_); rintro e w' ⟨rfl, ⟨nd, rfl⟩⟩; refine ⟨_, rfl, ?_⟩))
      (try simp only [Act.put, List.setIfInBounds_toArray, List.set_cons_zero, List.set_cons_succ])
      go_cut [13] (fun v13 wc => ∃ (kq : Nat) (x13_6 : Int), v13 = .int .u64 x13_6 ∧ Aside0 (glossatorref05_Narrow.j0 kq t241 t242 t244 t245 x13_6 = some (r1, r2, r3)) ∧ Aside0 (kq ≤ k) ∧ Drawn0 w wc)
      case first =>
        have H := HC7.out
        clear HC7
        by_cases c8 : t243 = true
        · subst c8
          have H1 : (if 0 ≤ (wrap64 (t241 + t242)) then (glossatorref05_Narrow.j0 k t241 t242 t244 t245 (shl .u64 1 (wrap64 (t241 + t242)))) else (none)) = some (r1, r2, r3) := by rw [if_pos rfl] at H; exact H
          clear H
          have H := H1
          clear H1
          obtain ⟨ji9, hji9⟩ : ∃ j_ : Int, (wrap64 (t241 + t242)) = j_ := ⟨_, rfl⟩
          replace H : (if 0 ≤ (ji9) then (glossatorref05_Narrow.j0 k t241 t242 t244 t245 (shl .u64 1 (ji9))) else (none)) = some (r1, r2, r3) := by first | (rw [hji9] at H; exact H) | (simp only [hji9] at H ⊢; exact H)
          have hji9w : (IntKind.i64.wrap (t241 + t242)) = ji9 := (i64_w _).trans hji9
          by_cases c10 : 0 ≤ (ji9)
          · rw [if_pos c10] at H
            have c10b0 := eq_true c10
            have c10b1 : decide (0 ≤ (ji9)) = true := decide_eq_true c10
            clear c10
            obtain ⟨ji11, hji11⟩ : ∃ j_ : Int, (shl .u64 1 (ji9)) = j_ := ⟨_, rfl⟩
            replace H : (glossatorref05_Narrow.j0 k t241 t242 t244 t245 ji11) = some (r1, r2, r3) := by first | (rw [hji11] at H; exact H) | (simp only [hji11] at H ⊢; exact H)
            have hji11_ : (IntKind.u64.wrap (1 * 2 ^ min (ji9).toNat 64)) = ji11 := hji11
            have hji11z : (ji9) ≤ 64 → (IntKind.u64.wrap (1 * 2 ^ (ji9).toNat)) = ji11 := shl_small hji11
            have hji11u : (IntKind.u64.wrap (2 ^ min (ji9).toNat 64)) = ji11 := by have h_ := hji11_; rw [Int.one_mul] at h_; exact h_
            have hji11v : (ji9) ≤ 64 → (IntKind.u64.wrap (2 ^ (ji9).toNat)) = ji11 := fun hle_ => by have h_ := hji11z hle_; rw [Int.one_mul] at h_; exact h_
            (try have hji11tz := hji11z (by simp only [beq_iff_eq, decide_eq_true_eq] at *; omega))
            (try have hji11tv := hji11v (by simp only [beq_iff_eq, decide_eq_true_eq] at *; omega))
            have H' := Aside0.mk H
            clear H
            go_wp2
            go_meet
            case rel => exact ⟨_, (ji11), (by first | rfl | (simp; done) | (simp only [← hji11] <;> (first | rfl | simp)) | (simp [*]; done)), H', ⟨by first | omega | exact Nat.le_refl _⟩, by repeat (first | exact Drawn0.refl _ | apply Drawn0.step)⟩
          · rw [if_neg c10] at H
            exact absurd H (by simp)
        · replace c8 := Bool.eq_false_iff.mpr c8
          subst c8
          have H1 : (glossatorref05_Narrow.j0 k t241 t242 t244 t245 0) = some (r1, r2, r3) := by rw [if_neg (show ¬ (false = true) by decide)] at H; exact H
          clear H
          have H := H1
          clear H1
          have H' := Aside0.mk H
          clear H
          go_wp2
          go_meet
          case rel => exact ⟨_, (0), (by first | rfl | (simp; done) | (simp [*]; done) | (simp [*] <;> decide +kernel)), H', ⟨by first | omega | exact Nat.le_refl _⟩, by repeat (first | exact Drawn0.refl _ | apply Drawn0.step)⟩
      case rest =>
        clear HC7
        try clear c1
        try clear c2
        try clear p2
        try clear c4
        try clear c4b0
        try clear c4b1
        try clear c5
        try clear c5b0
        try clear c5b1
        try clear p6
        try clear c8
        try clear c10
        try clear c10b0
        try clear c10b1
        obtain ⟨kq, x13_6, rfl, HA, HJ6, ⟨mc6, rfl⟩⟩ := hcut
        cases kq with
        | zero => exact absurd HA.out (by simp [glossatorref05_Narrow.j0])
        | succ kj6 =>
          have H := HA.out
          clear HA
          simp only [glossatorref05_Narrow.j0] at H
          obtain ⟨ji12, hji12⟩ : ∃ j_ : Int, (wrap64 (t241 - 1)) = j_ := ⟨_, rfl⟩
          replace H : (if 0 ≤ (ji12) then (if t244 = 0 then (glossatorref05_Narrow.j1 kj6 t241 t242 t244 t245 x13_6 (wrap64 ((wrap64 (t244 - 1023)) + (wrap64 ((shl .i64 1 (ji12)) - 1)))) (t245 == 0)) else (glossatorref05_Narrow.j1 kj6 t241 t242 t244 t245 x13_6 (wrap64 ((wrap64 (t244 - 1023)) + (wrap64 ((shl .i64 1 (ji12)) - 1)))) false)) else (none)) = some (r1, r2, r3) := by first | (rw [hji12] at H; exact H) | (simp only [hji12] at H ⊢; exact H)
          have hji12w : (IntKind.i64.wrap (t241 - 1)) = ji12 := (i64_w _).trans hji12
          by_cases c13 : 0 ≤ (ji12)
          · rw [if_pos c13] at H
            have c13b0 := eq_true c13
            have c13b1 : decide (0 ≤ (ji12)) = true := decide_eq_true c13
            clear c13
            obtain ⟨ji14, hji14⟩ : ∃ j_ : Int, (shl .i64 1 (ji12)) = j_ := ⟨_, rfl⟩
            replace H : (if t244 = 0 then (glossatorref05_Narrow.j1 kj6 t241 t242 t244 t245 x13_6 (wrap64 ((wrap64 (t244 - 1023)) + (wrap64 ((ji14) - 1)))) (t245 == 0)) else (glossatorref05_Narrow.j1 kj6 t241 t242 t244 t245 x13_6 (wrap64 ((wrap64 (t244 - 1023)) + (wrap64 ((ji14) - 1)))) false)) = some (r1, r2, r3) := by first | (rw [hji14] at H; exact H) | (simp only [hji14] at H ⊢; exact H)
            have hji14_ : (IntKind.i64.wrap (1 * 2 ^ min (ji12).toNat 64)) = ji14 := hji14
            have hji14z : (ji12) ≤ 64 → (IntKind.i64.wrap (1 * 2 ^ (ji12).toNat)) = ji14 := shl_small hji14
            have hji14u : (IntKind.i64.wrap (2 ^ min (ji12).toNat 64)) = ji14 := by have h_ := hji14_; rw [Int.one_mul] at h_; exact h_
            have hji14v : (ji12) ≤ 64 → (IntKind.i64.wrap (2 ^ (ji12).toNat)) = ji14 := fun hle_ => by have h_ := hji14z hle_; rw [Int.one_mul] at h_; exact h_
            have hji14y : (wrap64 (1 * 2 ^ min (ji12).toNat 64)) = ji14 := (i64_w _).symm.trans hji14_
            have hji14x : (ji12) ≤ 64 → (wrap64 (1 * 2 ^ (ji12).toNat)) = ji14 := fun h_ => (i64_w _).symm.trans (hji14z h_)
            (try have hji14tz := hji14z (by simp only [beq_iff_eq, decide_eq_true_eq] at *; omega))
            (try have hji14tv := hji14v (by simp only [beq_iff_eq, decide_eq_true_eq] at *; omega))
            (try have hji14tx := hji14x (by simp only [beq_iff_eq, decide_eq_true_eq] at *; omega))
            have HC15 := Aside0.mk H
            clear H
            go_upto_region 12 with (fail)
            go_cut [52] (fun v52 wc => ∃ (kq : Nat) (x52_14 : Bool), v52 = .bool x52_14 ∧ Aside0 (glossatorref05_Narrow.j1 kq t241 t242 t244 t245 x13_6 (wrap64 ((wrap64 (t244 - 1023)) + (wrap64 ((ji14) - 1)))) x52_14 = some (r1, r2, r3)) ∧ Aside0 (kq ≤ kj6) ∧ Drawn0 w wc)
            case first =>
              have H := HC15.out
              clear HC15
              by_cases c16 : t244 = 0
              · rw [if_pos c16] at H
                have c16b0 : (t244 == 0) = true := beq_iff_eq.mpr c16
                have c16b1 : (t244 != 0) = false := bne_eq_false_iff_eq.mpr c16
                clear c16
                (first | rw [c16b0] | (simp only [i64_w, i32_w]; rw [c16b0]) | skip)
                have H' := Aside0.mk H
                clear H
                go_wp2
                go_meet
                case rel => exact ⟨_, ((t245 == 0)), (by first | rfl | (simp; done) | (simp [*]; done) | (simp [*] <;> decide +kernel)), H', ⟨by have := HJ6.out; first | omega | exact Nat.le_refl _⟩, by repeat (first | exact Drawn0.refl _ | apply Drawn0.step)⟩
              · rw [if_neg c16] at H
                have c16b0 : (t244 == 0) = false := beq_eq_false_iff_ne.mpr c16
                have c16b1 : (t244 != 0) = true := bne_iff_ne.mpr c16
                (first | rw [c16b0] | (simp only [i64_w, i32_w]; rw [c16b0]) | skip)
                have H' := Aside0.mk H
                clear H
                go_wp2
                go_meet
                case rel => exact ⟨_, (false), (by first | rfl | (simp; done) | (simp [*]; done) | (simp [*] <;> decide +kernel)), H', ⟨by have := HJ6.out; first | omega | exact Nat.le_refl _⟩, by repeat (first | exact Drawn0.refl _ | apply Drawn0.step)⟩
            case rest =>
              clear HC15
              try clear c1
              try clear c2
              try clear p2
              try clear c4
              try clear c4b0
              try clear c4b1
              try clear c5
              try clear c5b0
              try clear c5b1
              try clear c6
              try clear p6
              try clear c8
              try clear c10
              try clear c10b0
              try clear c10b1
              try clear c12
              try clear c13
              try clear c13b0
              try clear c13b1
              try clear c15
              try clear c16
              try clear c16b0
              try clear c16b1
              try clear p2
              try clear p6
              obtain ⟨kq, x52_14, rfl, HA, HJ14, ⟨mc14, rfl⟩⟩ := hcut
              cases kq with
              | zero => exact absurd HA.out (by simp [glossatorref05_Narrow.j1])
              | succ kj14 =>
                have H := HA.out
                clear HA
                simp only [glossatorref05_Narrow.j1] at H
                by_cases c17 : x52_14 = true
                · subst c17
                  have H1 : (some (x13_6, true, 0)) = some (r1, r2, r3) := by rw [if_pos rfl] at H; exact H
                  clear H
                  have H := H1
                  clear H1
                  simp only [Option.some.injEq, Prod.mk.injEq] at H
                  obtain ⟨rfl, rfl, rfl⟩ := H
                  go_wp2
                  go_ret3
                  exact ⟨by first | rfl | (simp; done) | (simp only [← hji12, ← hji14] <;> (first | rfl | simp)) | (simp [*]; done), by repeat (first | exact Drawn0.refl _ | apply Drawn0.step)⟩
                · replace c17 := Bool.eq_false_iff.mpr c17
                  subst c17
                  have H1 : (if t244 = 0 then (some (0, false, 0)) else (if t244 = 2047 then ((glossatorref05_shift.f kj14 t245 (wrap64 (52 - t242))).bind fun bt247 => (if bt247.2 = true then (if 0 ≤ t241 then (if 0 ≤ t242 then (some (Go.bits .or .u64 (Go.bits .or .u64 x13_6 (shl .u64 (IntKind.u64.wrap ((shl .u64 1 t241) - 1)) t242)) bt247.1, true, 0)) else (none)) else (none)) else (some (0, false, 0)))) else (if 0 ≤ t241 then (if (wrap64 ((wrap64 (t244 - 1023)) + (wrap64 ((ji14) - 1)))) ≥ (wrap64 ((shl .i64 1 t241) - 1)) then (glossatorref05_Narrow.j2 kj14 t242 t245 x13_6 (wrap64 ((wrap64 (t244 - 1023)) + (wrap64 ((ji14) - 1)))) true) else (glossatorref05_Narrow.j2 kj14 t242 t245 x13_6 (wrap64 ((wrap64 (t244 - 1023)) + (wrap64 ((ji14) - 1)))) (decide ((wrap64 ((wrap64 (t244 - 1023)) + (wrap64 ((ji14) - 1)))) < (wrap64 (-t242)))))) else (none)))) = some (r1, r2, r3) := by rw [if_neg (show ¬ (false = true) by decide)] at H; exact H
                  clear H
                  have H := H1
                  clear H1
                  by_cases c18 : t244 = 0
                  · rw [if_pos c18] at H
                    have c18b0 : (t244 == 0) = true := beq_iff_eq.mpr c18
                    have c18b1 : (t244 != 0) = false := bne_eq_false_iff_eq.mpr c18
                    clear c18
                    simp only [Option.some.injEq, Prod.mk.injEq] at H
                    obtain ⟨rfl, rfl, rfl⟩ := H
                    go_wp2
                    go_ret3
                    exact ⟨by first | rfl | (simp; done) | (simp only [← hji12, ← hji14] <;> (first | rfl | simp)) | (simp [*]; done), by repeat (first | exact Drawn0.refl _ | apply Drawn0.step)⟩
                  · rw [if_neg c18] at H
                    have c18b0 : (t244 == 0) = false := beq_eq_false_iff_ne.mpr c18
                    have c18b1 : (t244 != 0) = true := bne_iff_ne.mpr c18
                    by_cases c19 : t244 = 2047
                    · rw [if_pos c19] at H
                      have c19b0 : (t244 == 2047) = true := beq_iff_eq.mpr c19
                      have c19b1 : (t244 != 2047) = false := bne_eq_false_iff_eq.mpr c19
                      clear c19
                      replace H := Option.bind_eq_some_iff.mp H
                      obtain ⟨⟨t247, t248⟩, A200, H⟩ := H
                      replace H : (if t248 = true then (if 0 ≤ t241 then (if 0 ≤ t242 then (some (Go.bits .or .u64 (Go.bits .or .u64 x13_6 (shl .u64 (IntKind.u64.wrap ((shl .u64 1 t241) - 1)) t242)) t247, true, 0)) else (none)) else (none)) else (some (0, false, 0))) = some (r1, r2, r3) := H
                      have A20 := Aside0.mk A200
                      clear A200
                      by_cases c21 : t248 = true
                      · subst c21
                        have H1 : (if 0 ≤ t241 then (if 0 ≤ t242 then (some (Go.bits .or .u64 (Go.bits .or .u64 x13_6 (shl .u64 (IntKind.u64.wrap ((shl .u64 1 t241) - 1)) t242)) t247, true, 0)) else (none)) else (none)) = some (r1, r2, r3) := by rw [if_pos rfl] at H; exact H
                        clear H
                        have H := H1
                        clear H1
                        by_cases c22 : 0 ≤ t241
                        · rw [if_pos c22] at H
                          have c22b0 := eq_true c22
                          have c22b1 : decide (0 ≤ t241) = true := decide_eq_true c22
                          clear c22
                          obtain ⟨ji23, hji23⟩ : ∃ j_ : Int, (shl .u64 1 t241) = j_ := ⟨_, rfl⟩
                          replace H : (if 0 ≤ t242 then (some (Go.bits .or .u64 (Go.bits .or .u64 x13_6 (shl .u64 (IntKind.u64.wrap ((ji23) - 1)) t242)) t247, true, 0)) else (none)) = some (r1, r2, r3) := by first | (rw [hji23] at H; exact H) | (simp only [hji23] at H ⊢; exact H)
                          (try rw [hji23] at A20)
                          have hji23_ : (IntKind.u64.wrap (1 * 2 ^ min t241.toNat 64)) = ji23 := hji23
                          have hji23z : t241 ≤ 64 → (IntKind.u64.wrap (1 * 2 ^ t241.toNat)) = ji23 := shl_small hji23
                          have hji23u : (IntKind.u64.wrap (2 ^ min t241.toNat 64)) = ji23 := by have h_ := hji23_; rw [Int.one_mul] at h_; exact h_
                          have hji23v : t241 ≤ 64 → (IntKind.u64.wrap (2 ^ t241.toNat)) = ji23 := fun hle_ => by have h_ := hji23z hle_; rw [Int.one_mul] at h_; exact h_
                          (try have hji23tz := hji23z (by simp only [beq_iff_eq, decide_eq_true_eq] at *; omega))
                          (try have hji23tv := hji23v (by simp only [beq_iff_eq, decide_eq_true_eq] at *; omega))
                          by_cases c24 : 0 ≤ t242
                          · rw [if_pos c24] at H
                            have c24b0 := eq_true c24
                            have c24b1 : decide (0 ≤ t242) = true := decide_eq_true c24
                            clear c24
                            obtain ⟨ji25, hji25⟩ : ∃ j_ : Int, (shl .u64 (IntKind.u64.wrap ((ji23) - 1)) t242) = j_ := ⟨_, rfl⟩
                            replace H : (some (Go.bits .or .u64 (Go.bits .or .u64 x13_6 (ji25)) t247, true, 0)) = some (r1, r2, r3) := by first | (rw [hji25] at H; exact H) | (simp only [hji25] at H ⊢; exact H)
                            (try rw [hji25] at A20)
                            have hji25_ : (IntKind.u64.wrap ((IntKind.u64.wrap ((ji23) - 1)) * 2 ^ min t242.toNat 64)) = ji25 := hji25
                            have hji25z : t242 ≤ 64 → (IntKind.u64.wrap ((IntKind.u64.wrap ((ji23) - 1)) * 2 ^ t242.toNat)) = ji25 := shl_small hji25
                            (try have hji25tz := hji25z (by simp only [beq_iff_eq, decide_eq_true_eq] at *; omega))
                            simp only [Option.some.injEq, Prod.mk.injEq] at H
                            obtain ⟨rfl, rfl, rfl⟩ := H
                            go_wp2_with (first | ((with_reducible refine gate_callee (f := 27) rfl ?_); refine goesL_ (some 70) rfl rfl Try.func27 (by kernel_rfl) rfl #[.int .u64 t245, .int .i64 (wrap64 (52 - t242))] rfl (by (try simp only [List.map_toArray, List.map_cons, List.map_nil]); first | done | rfl | (simp only [List.length_drop, List.length_take]; rfl)) ?_; (with_reducible refine (glossatorref05_shift.calls kj14 t245 (wrap64 (52 - t242)) t247 true _ A20.out).mono ?_); rintro e w' ⟨rfl, ⟨nd, rfl⟩⟩; refine ⟨_, rfl, ?_⟩))
                            go_ret3
                            exact ⟨by first | rfl | (simp; done) | (simp only [← hji12, ← hji14, ← hji23, ← hji25] <;> (first | rfl | simp)) | (simp [*]; done), by repeat (first | exact Drawn0.refl _ | apply Drawn0.step)⟩
                          · rw [if_neg c24] at H
                            exact absurd H (by simp)
                        · rw [if_neg c22] at H
                          exact absurd H (by simp)
                      · replace c21 := Bool.eq_false_iff.mpr c21
                        subst c21
                        have H1 : (some (0, false, 0)) = some (r1, r2, r3) := by rw [if_neg (show ¬ (false = true) by decide)] at H; exact H
                        clear H
                        have H := H1
                        clear H1
                        simp only [Option.some.injEq, Prod.mk.injEq] at H
                        obtain ⟨rfl, rfl, rfl⟩ := H
                        go_wp2_with (first | ((with_reducible refine gate_callee (f := 27) rfl ?_); refine goesL_ (some 70) rfl rfl Try.func27 (by kernel_rfl) rfl #[.int .u64 t245, .int .i64 (wrap64 (52 - t242))] rfl (by (try simp only [List.map_toArray, List.map_cons, List.map_nil]); first | done | rfl | (simp only [List.length_drop, List.length_take]; rfl)) ?_; (with_reducible refine (glossatorref05_shift.calls kj14 t245 (wrap64 (52 - t242)) t247 false _ A20.out).mono ?_); rintro e w' ⟨rfl, ⟨nd, rfl⟩⟩; refine ⟨_, rfl, ?_⟩))
                        go_ret3
                        exact ⟨by first | rfl | (simp; done) | (simp only [← hji12, ← hji14] <;> (first | rfl | simp)) | (simp [*]; done), by repeat (first | exact Drawn0.refl _ | apply Drawn0.step)⟩
                    · rw [if_neg c19] at H
                      have c19b0 : (t244 == 2047) = false := beq_eq_false_iff_ne.mpr c19
                      have c19b1 : (t244 != 2047) = true := bne_iff_ne.mpr c19
                      have HC26 := Aside0.mk H
                      clear H
                      go_upto_region 21 with (fail)
                      go_cut [84] (fun v84 wc => ∃ (kq : Nat) (x84_25 : Bool), v84 = .bool x84_25 ∧ Aside0 (glossatorref05_Narrow.j2 kq t242 t245 x13_6 (wrap64 ((wrap64 (t244 - 1023)) + (wrap64 ((ji14) - 1)))) x84_25 = some (r1, r2, r3)) ∧ Aside0 (kq ≤ kj14) ∧ Drawn0 w wc)
                      case first =>
                        have H := HC26.out
                        clear HC26
                        by_cases c27 : 0 ≤ t241
                        · rw [if_pos c27] at H
                          have c27b0 := eq_true c27
                          have c27b1 : decide (0 ≤ t241) = true := decide_eq_true c27
                          clear c27
                          obtain ⟨ji28, hji28⟩ : ∃ j_ : Int, (shl .i64 1 t241) = j_ := ⟨_, rfl⟩
                          replace H : (if (wrap64 ((wrap64 (t244 - 1023)) + (wrap64 ((ji14) - 1)))) ≥ (wrap64 ((ji28) - 1)) then (glossatorref05_Narrow.j2 kj14 t242 t245 x13_6 (wrap64 ((wrap64 (t244 - 1023)) + (wrap64 ((ji14) - 1)))) true) else (glossatorref05_Narrow.j2 kj14 t242 t245 x13_6 (wrap64 ((wrap64 (t244 - 1023)) + (wrap64 ((ji14) - 1)))) (decide ((wrap64 ((wrap64 (t244 - 1023)) + (wrap64 ((ji14) - 1)))) < (wrap64 (-t242)))))) = some (r1, r2, r3) := by first | (rw [hji28] at H; exact H) | (simp only [hji28] at H ⊢; exact H)
                          have hji28_ : (IntKind.i64.wrap (1 * 2 ^ min t241.toNat 64)) = ji28 := hji28
                          have hji28z : t241 ≤ 64 → (IntKind.i64.wrap (1 * 2 ^ t241.toNat)) = ji28 := shl_small hji28
                          have hji28u : (IntKind.i64.wrap (2 ^ min t241.toNat 64)) = ji28 := by have h_ := hji28_; rw [Int.one_mul] at h_; exact h_
                          have hji28v : t241 ≤ 64 → (IntKind.i64.wrap (2 ^ t241.toNat)) = ji28 := fun hle_ => by have h_ := hji28z hle_; rw [Int.one_mul] at h_; exact h_
                          have hji28y : (wrap64 (1 * 2 ^ min t241.toNat 64)) = ji28 := (i64_w _).symm.trans hji28_
                          have hji28x : t241 ≤ 64 → (wrap64 (1 * 2 ^ t241.toNat)) = ji28 := fun h_ => (i64_w _).symm.trans (hji28z h_)
                          (try have hji28tz := hji28z (by simp only [beq_iff_eq, decide_eq_true_eq] at *; omega))
                          (try have hji28tv := hji28v (by simp only [beq_iff_eq, decide_eq_true_eq] at *; omega))
                          (try have hji28tx := hji28x (by simp only [beq_iff_eq, decide_eq_true_eq] at *; omega))
                          by_cases c29 : (wrap64 ((wrap64 (t244 - 1023)) + (wrap64 ((ji14) - 1)))) ≥ (wrap64 ((ji28) - 1))
                          · rw [if_pos c29] at H
                            have c29b0 : decide ((wrap64 ((ji28) - 1)) ≤ (wrap64 ((wrap64 (t244 - 1023)) + (wrap64 ((ji14) - 1))))) = true := decide_eq_true c29
                            clear c29
                            (first | rw [c29b0] | (simp only [i64_w, i32_w]; rw [c29b0]) | skip)
                            have H' := Aside0.mk H
                            clear H
                            go_wp2
                            go_meet
                            case rel => exact ⟨_, (true), (by first | rfl | (simp; done) | (simp [*]; done) | (simp [*] <;> decide +kernel)), H', ⟨by have := HJ6.out; have := HJ14.out; first | omega | exact Nat.le_refl _⟩, by repeat (first | exact Drawn0.refl _ | apply Drawn0.step)⟩
                          · rw [if_neg c29] at H
                            have c29b0 : decide ((wrap64 ((ji28) - 1)) ≤ (wrap64 ((wrap64 (t244 - 1023)) + (wrap64 ((ji14) - 1))))) = false := decide_eq_false c29
                            clear c29
                            (first | rw [c29b0] | (simp only [i64_w, i32_w]; rw [c29b0]) | skip)
                            have H' := Aside0.mk H
                            clear H
                            go_wp2
                            go_meet
                            case rel => exact ⟨_, (decide ((wrap64 ((wrap64 (t244 - 1023)) + (wrap64 ((ji14) - 1)))) < (wrap64 (-t242)))), (by first | rfl | (simp; done) | (simp only [← hji14] <;> (first | rfl | simp)) | (simp [*]; done)), H', ⟨by have := HJ6.out; have := HJ14.out; first | omega | exact Nat.le_refl _⟩, by repeat (first | exact Drawn0.refl _ | apply Drawn0.step)⟩
                        · rw [if_neg c27] at H
                          exact absurd H (by simp)
                      case rest =>
                        clear HC26
                        try clear c1
                        try clear c2
                        try clear p2
                        try clear c4
                        try clear c4b0
                        try clear c4b1
                        try clear c5
                        try clear c5b0
                        try clear c5b1
                        try clear c6
                        try clear p6
                        try clear c8
                        try clear c10
                        try clear c10b0
                        try clear c10b1
                        try clear c12
                        try clear c13
                        try clear c13b0
                        try clear c13b1
                        try clear c14
                        try clear c15
                        try clear c16
                        try clear c16b0
                        try clear c16b1
                        try clear c17
                        try clear c18
                        try clear c18b0
                        try clear c18b1
                        try clear c19
                        try clear c19b0
                        try clear c19b1
                        try clear c21
                        try clear c22
                        try clear c22b0
                        try clear c22b1
                        try clear c24
                        try clear c24b0
                        try clear c24b1
                        try clear c27
                        try clear c27b0
                        try clear c27b1
                        try clear c29
                        try clear c29b0
                        try clear p2
                        try clear p6
                        obtain ⟨kq, x84_25, rfl, HA, HJ25, ⟨mc25, rfl⟩⟩ := hcut
                        cases kq with
                        | zero => exact absurd HA.out (by simp [glossatorref05_Narrow.j2])
                        | succ kj25 =>
                          have H := HA.out
                          clear HA
                          simp only [glossatorref05_Narrow.j2] at H
                          by_cases c30 : x84_25 = true
                          · subst c30
                            have H1 : (some (0, false, 0)) = some (r1, r2, r3) := by rw [if_pos rfl] at H; exact H
                            clear H
                            have H := H1
                            clear H1
                            simp only [Option.some.injEq, Prod.mk.injEq] at H
                            obtain ⟨rfl, rfl, rfl⟩ := H
                            go_wp2
                            go_ret3
                            exact ⟨by first | rfl | (simp; done) | (simp only [← hji12, ← hji14] <;> (first | rfl | simp)) | (simp [*]; done), by repeat (first | exact Drawn0.refl _ | apply Drawn0.step)⟩
                          · replace c30 := Bool.eq_false_iff.mpr c30
                            subst c30
                            have H1 : (if (wrap64 ((wrap64 (t244 - 1023)) + (wrap64 ((ji14) - 1)))) ≥ 1 then ((glossatorref05_shift.f kj25 t245 (wrap64 (52 - t242))).bind fun bt249 => (if bt249.2 = true then (if 0 ≤ t242 then (some (Go.bits .or .u64 (Go.bits .or .u64 x13_6 (shl .u64 (IntKind.u64.wrap ((wrap64 ((wrap64 (t244 - 1023)) + (wrap64 ((ji14) - 1)))))) t242)) bt249.1, true, 0)) else (none)) else (some (0, false, 0)))) else ((glossatorref05_shift.f kj25 (Go.bits .or .u64 t245 4503599627370496) (wrap64 ((wrap64 ((wrap64 (52 - t242)) + 1)) - (wrap64 ((wrap64 (t244 - 1023)) + (wrap64 ((ji14) - 1))))))).bind fun bt251 => (if bt251.2 = true then (some (Go.bits .or .u64 x13_6 bt251.1, true, 0)) else (some (0, false, 0))))) = some (r1, r2, r3) := by rw [if_neg (show ¬ (false = true) by decide)] at H; exact H
                            clear H
                            have H := H1
                            clear H1
                            by_cases c31 : (wrap64 ((wrap64 (t244 - 1023)) + (wrap64 ((ji14) - 1)))) ≥ 1
                            · rw [if_pos c31] at H
                              have c31b0 : decide (1 ≤ (wrap64 ((wrap64 (t244 - 1023)) + (wrap64 ((ji14) - 1))))) = true := decide_eq_true c31
                              clear c31
                              replace H := Option.bind_eq_some_iff.mp H
                              obtain ⟨⟨t249, t250⟩, A320, H⟩ := H
                              replace H : (if t250 = true then (if 0 ≤ t242 then (some (Go.bits .or .u64 (Go.bits .or .u64 x13_6 (shl .u64 (IntKind.u64.wrap ((wrap64 ((wrap64 (t244 - 1023)) + (wrap64 ((ji14) - 1)))))) t242)) t249, true, 0)) else (none)) else (some (0, false, 0))) = some (r1, r2, r3) := H
                              have A32 := Aside0.mk A320
                              clear A320
                              by_cases c33 : t250 = true
                              · subst c33
                                have H1 : (if 0 ≤ t242 then (some (Go.bits .or .u64 (Go.bits .or .u64 x13_6 (shl .u64 (IntKind.u64.wrap ((wrap64 ((wrap64 (t244 - 1023)) + (wrap64 ((ji14) - 1)))))) t242)) t249, true, 0)) else (none)) = some (r1, r2, r3) := by rw [if_pos rfl] at H; exact H
                                clear H
                                have H := H1
                                clear H1
                                by_cases c34 : 0 ≤ t242
                                · rw [if_pos c34] at H
                                  have c34b0 := eq_true c34
                                  have c34b1 : decide (0 ≤ t242) = true := decide_eq_true c34
                                  clear c34
                                  obtain ⟨ji35, hji35⟩ : ∃ j_ : Int, (shl .u64 (IntKind.u64.wrap ((wrap64 ((wrap64 (t244 - 1023)) + (wrap64 ((ji14) - 1)))))) t242) = j_ := ⟨_, rfl⟩
                                  replace H : (some (Go.bits .or .u64 (Go.bits .or .u64 x13_6 (ji35)) t249, true, 0)) = some (r1, r2, r3) := by first | (rw [hji35] at H; exact H) | (simp only [hji35] at H ⊢; exact H)
                                  (try rw [hji35] at A32)
                                  have hji35_ : (IntKind.u64.wrap ((IntKind.u64.wrap ((wrap64 ((wrap64 (t244 - 1023)) + (wrap64 ((ji14) - 1)))))) * 2 ^ min t242.toNat 64)) = ji35 := hji35
                                  have hji35z : t242 ≤ 64 → (IntKind.u64.wrap ((IntKind.u64.wrap ((wrap64 ((wrap64 (t244 - 1023)) + (wrap64 ((ji14) - 1)))))) * 2 ^ t242.toNat)) = ji35 := shl_small hji35
                                  (try have hji35tz := hji35z (by simp only [beq_iff_eq, decide_eq_true_eq] at *; omega))
                                  simp only [Option.some.injEq, Prod.mk.injEq] at H
                                  obtain ⟨rfl, rfl, rfl⟩ := H
                                  go_wp2_with (first | ((with_reducible refine gate_callee (f := 27) rfl ?_); refine goesL_ (some 103) rfl rfl Try.func27 (by kernel_rfl) rfl #[.int .u64 t245, .int .i64 (wrap64 (52 - t242))] rfl (by (try simp only [List.map_toArray, List.map_cons, List.map_nil]); first | done | rfl | (simp only [List.length_drop, List.length_take]; rfl)) ?_; (with_reducible refine (glossatorref05_shift.calls kj25 t245 (wrap64 (52 - t242)) t249 true _ A32.out).mono ?_); rintro e w' ⟨rfl, ⟨nd, rfl⟩⟩; refine ⟨_, rfl, ?_⟩))
                                  go_ret3
                                  exact ⟨by first | rfl | (simp; done) | (simp only [← hji12, ← hji14, ← hji35] <;> (first | rfl | simp)) | (simp [*]; done), by repeat (first | exact Drawn0.refl _ | apply Drawn0.step)⟩
                                · rw [if_neg c34] at H
                                  exact absurd H (by simp)
                              · replace c33 := Bool.eq_false_iff.mpr c33
                                subst c33
                                have H1 : (some (0, false, 0)) = some (r1, r2, r3) := by rw [if_neg (show ¬ (false = true) by decide)] at H; exact H
                                clear H
                                have H := H1
                                clear H1
                                simp only [Option.some.injEq, Prod.mk.injEq] at H
                                obtain ⟨rfl, rfl, rfl⟩ := H
                                go_wp2_with (first | ((with_reducible refine gate_callee (f := 27) rfl ?_); refine goesL_ (some 103) rfl rfl Try.func27 (by kernel_rfl) rfl #[.int .u64 t245, .int .i64 (wrap64 (52 - t242))] rfl (by (try simp only [List.map_toArray, List.map_cons, List.map_nil]); first | done | rfl | (simp only [List.length_drop, List.length_take]; rfl)) ?_; (with_reducible refine (glossatorref05_shift.calls kj25 t245 (wrap64 (52 - t242)) t249 false _ A32.out).mono ?_); rintro e w' ⟨rfl, ⟨nd, rfl⟩⟩; refine ⟨_, rfl, ?_⟩))
                                go_ret3
                                exact ⟨by first | rfl | (simp; done) | (simp only [← hji12, ← hji14] <;> (first | rfl | simp)) | (simp [*]; done), by repeat (first | exact Drawn0.refl _ | apply Drawn0.step)⟩
                            · rw [if_neg c31] at H
                              have c31b0 : decide (1 ≤ (wrap64 ((wrap64 (t244 - 1023)) + (wrap64 ((ji14) - 1))))) = false := decide_eq_false c31
                              clear c31
                              replace H := Option.bind_eq_some_iff.mp H
                              obtain ⟨⟨t251, t252⟩, A360, H⟩ := H
                              replace H : (if t252 = true then (some (Go.bits .or .u64 x13_6 t251, true, 0)) else (some (0, false, 0))) = some (r1, r2, r3) := H
                              have A36 := Aside0.mk A360
                              clear A360
                              by_cases c37 : t252 = true
                              · subst c37
                                have H1 : (some (Go.bits .or .u64 x13_6 t251, true, 0)) = some (r1, r2, r3) := by rw [if_pos rfl] at H; exact H
                                clear H
                                have H := H1
                                clear H1
                                simp only [Option.some.injEq, Prod.mk.injEq] at H
                                obtain ⟨rfl, rfl, rfl⟩ := H
                                go_wp2_with (first | ((with_reducible refine gate_callee (f := 27) rfl ?_); refine goesL_ (some 124) rfl rfl Try.func27 (by kernel_rfl) rfl #[.int .u64 (Go.bits .or .u64 t245 4503599627370496), .int .i64 (wrap64 ((wrap64 ((wrap64 (52 - t242)) + 1)) - (wrap64 ((wrap64 (t244 - 1023)) + (wrap64 ((ji14) - 1))))))] rfl (by (try simp only [List.map_toArray, List.map_cons, List.map_nil]); first | done | (simp only [hji14]; rfl) | rfl | (simp only [List.length_drop, List.length_take]; rfl)) ?_; (with_reducible refine (glossatorref05_shift.calls kj25 (Go.bits .or .u64 t245 4503599627370496) (wrap64 ((wrap64 ((wrap64 (52 - t242)) + 1)) - (wrap64 ((wrap64 (t244 - 1023)) + (wrap64 ((ji14) - 1)))))) t251 true _ A36.out).mono ?_); rintro e w' ⟨rfl, ⟨nd, rfl⟩⟩; refine ⟨_, rfl, ?_⟩))
                                go_ret3
                                exact ⟨by first | rfl | (simp; done) | (simp only [← hji12, ← hji14] <;> (first | rfl | simp)) | (simp [*]; done), by repeat (first | exact Drawn0.refl _ | apply Drawn0.step)⟩
                              · replace c37 := Bool.eq_false_iff.mpr c37
                                subst c37
                                have H1 : (some (0, false, 0)) = some (r1, r2, r3) := by rw [if_neg (show ¬ (false = true) by decide)] at H; exact H
                                clear H
                                have H := H1
                                clear H1
                                simp only [Option.some.injEq, Prod.mk.injEq] at H
                                obtain ⟨rfl, rfl, rfl⟩ := H
                                go_wp2_with (first | ((with_reducible refine gate_callee (f := 27) rfl ?_); refine goesL_ (some 124) rfl rfl Try.func27 (by kernel_rfl) rfl #[.int .u64 (Go.bits .or .u64 t245 4503599627370496), .int .i64 (wrap64 ((wrap64 ((wrap64 (52 - t242)) + 1)) - (wrap64 ((wrap64 (t244 - 1023)) + (wrap64 ((ji14) - 1))))))] rfl (by (try simp only [List.map_toArray, List.map_cons, List.map_nil]); first | done | (simp only [hji14]; rfl) | rfl | (simp only [List.length_drop, List.length_take]; rfl)) ?_; (with_reducible refine (glossatorref05_shift.calls kj25 (Go.bits .or .u64 t245 4503599627370496) (wrap64 ((wrap64 ((wrap64 (52 - t242)) + 1)) - (wrap64 ((wrap64 (t244 - 1023)) + (wrap64 ((ji14) - 1)))))) t251 false _ A36.out).mono ?_); rintro e w' ⟨rfl, ⟨nd, rfl⟩⟩; refine ⟨_, rfl, ?_⟩))
                                go_ret3
                                exact ⟨by first | rfl | (simp; done) | (simp only [← hji12, ← hji14] <;> (first | rfl | simp)) | (simp [*]; done), by repeat (first | exact Drawn0.refl _ | apply Drawn0.step)⟩
          · rw [if_neg c13] at H
            exact absurd H (by simp)

/-! ### glossatorlaw05_FbitsTurns: function 5 -/
def glossatorlaw05_FbitsTurns.f (k : Nat) (a0 : Int) (a1 : Int) : Option (Bool) := (fbits_Widen.f k a0 a1).bind fun bt253 => ((glossatorref05_Widen.f k a0 a1).bind fun bt255 => ((fbits_Narrow.f k a0 a1).bind fun bt257 => ((glossatorref05_Narrow.f k a0 a1).bind fun bt260 => (if bt253.1 = bt255.1 then (if bt253.2 = bt255.2 then (if bt257.1 = bt260.1 then (if (bt257.2.1 == bt260.2.1) = true then (if bt257.2.2 = bt260.2.2 then ((glossatorlaw05_awake.f k).bind fun t263 => (some t263)) else (some false)) else (some false)) else (some false)) else (some false)) else (some false)))))
theorem glossatorlaw05_FbitsTurns.mono : ∀ a0 a1 k, LeO (glossatorlaw05_FbitsTurns.f k a0 a1) (glossatorlaw05_FbitsTurns.f (k + 1) a0 a1) := by
  intro a0 a1 k
  unfold glossatorlaw05_FbitsTurns.f
  repeat' first
      | (with_reducible exact fbits_Narrow.mono _ _ _)
      | (with_reducible exact fbits_Widen.mono _ _ _)
      | (with_reducible exact glossatorlaw05_awake.mono _)
      | (with_reducible exact glossatorref05_Narrow.mono _ _ _)
      | (with_reducible exact glossatorref05_Widen.mono _ _ _)
      | (with_reducible exact LeO.refl _)
      | (with_reducible exact LeO.none _)
      | (with_reducible refine LeO.ite ?_ ?_)
      | (with_reducible refine LeO.bind ?_ (fun _ => ?_))
      | exact fbits_Narrow.mono _ _ _
      | exact fbits_Widen.mono _ _ _
      | exact glossatorlaw05_awake.mono _
      | exact glossatorref05_Narrow.mono _ _ _
      | exact glossatorref05_Widen.mono _ _ _
      | exact LeO.none _
      | refine LeO.ite ?_ ?_
      | refine LeO.bind ?_ (fun _ => ?_)
set_option maxHeartbeats 8000000 in
set_option maxRecDepth 100000 in
theorem glossatorlaw05_FbitsTurns.calls (k : Nat) (a0 : Int) (a1 : Int) (r : Bool) (w : World) (h : glossatorlaw05_FbitsTurns.f k a0 a1 = some r) :
    Calls Try.prog 5 #[.int .i64 a0, .int .u64 a1] w fun e w' => e = .returned (.bool r) ∧ Below w.heap.size w w' := by
  have HB := Aside0.mk (Below.refl w.heap.size w)
  have H : ((fbits_Widen.f k a0 a1).bind fun bt253 => ((glossatorref05_Widen.f k a0 a1).bind fun bt255 => ((fbits_Narrow.f k a0 a1).bind fun bt257 => ((glossatorref05_Narrow.f k a0 a1).bind fun bt260 => (if bt253.1 = bt255.1 then (if bt253.2 = bt255.2 then (if bt257.1 = bt260.1 then (if (bt257.2.1 == bt260.2.1) = true then (if bt257.2.2 = bt260.2.2 then ((glossatorlaw05_awake.f k).bind fun t263 => (some t263)) else (some false)) else (some false)) else (some false)) else (some false)) else (some false)))))) = some r := h
  clear h
  replace H := Option.bind_eq_some_iff.mp H
  obtain ⟨⟨t253, t254⟩, A30, H⟩ := H
  replace H : ((glossatorref05_Widen.f k a0 a1).bind fun bt255 => ((fbits_Narrow.f k a0 a1).bind fun bt257 => ((glossatorref05_Narrow.f k a0 a1).bind fun bt260 => (if t253 = bt255.1 then (if t254 = bt255.2 then (if bt257.1 = bt260.1 then (if (bt257.2.1 == bt260.2.1) = true then (if bt257.2.2 = bt260.2.2 then ((glossatorlaw05_awake.f k).bind fun t263 => (some t263)) else (some false)) else (some false)) else (some false)) else (some false)) else (some false))))) = some r := H
  have A3 := Aside0.mk A30
  clear A30
  replace H := Option.bind_eq_some_iff.mp H
  obtain ⟨⟨t255, t256⟩, A40, H⟩ := H
  replace H : ((fbits_Narrow.f k a0 a1).bind fun bt257 => ((glossatorref05_Narrow.f k a0 a1).bind fun bt260 => (if t253 = t255 then (if t254 = t256 then (if bt257.1 = bt260.1 then (if (bt257.2.1 == bt260.2.1) = true then (if bt257.2.2 = bt260.2.2 then ((glossatorlaw05_awake.f k).bind fun t263 => (some t263)) else (some false)) else (some false)) else (some false)) else (some false)) else (some false)))) = some r := H
  have A4 := Aside0.mk A40
  clear A40
  replace H := Option.bind_eq_some_iff.mp H
  obtain ⟨⟨t257, t258, t259⟩, A50, H⟩ := H
  replace H : ((glossatorref05_Narrow.f k a0 a1).bind fun bt260 => (if t253 = t255 then (if t254 = t256 then (if t257 = bt260.1 then (if (t258 == bt260.2.1) = true then (if t259 = bt260.2.2 then ((glossatorlaw05_awake.f k).bind fun t263 => (some t263)) else (some false)) else (some false)) else (some false)) else (some false)) else (some false))) = some r := H
  have A5 := Aside0.mk A50
  clear A50
  replace H := Option.bind_eq_some_iff.mp H
  obtain ⟨⟨t260, t261, t262⟩, A60, H⟩ := H
  replace H : (if t253 = t255 then (if t254 = t256 then (if t257 = t260 then (if (t258 == t261) = true then (if t259 = t262 then ((glossatorlaw05_awake.f k).bind fun t263 => (some t263)) else (some false)) else (some false)) else (some false)) else (some false)) else (some false)) = some r := H
  have A6 := Aside0.mk A60
  clear A60
  by_cases c7 : t253 = t255
  · rw [if_pos c7] at H
    have c7b0 : (t253 == t255) = true := beq_iff_eq.mpr c7
    have c7b1 : (t253 != t255) = false := bne_eq_false_iff_eq.mpr c7
    clear c7
    by_cases c8 : t254 = t256
    · rw [if_pos c8] at H
      have c8b0 : (t254 == t256) = true := beq_iff_eq.mpr c8
      have c8b1 : (t254 != t256) = false := bne_eq_false_iff_eq.mpr c8
      clear c8
      by_cases c9 : t257 = t260
      · rw [if_pos c9] at H
        have c9b0 : (t257 == t260) = true := beq_iff_eq.mpr c9
        have c9b1 : (t257 != t260) = false := bne_eq_false_iff_eq.mpr c9
        clear c9
        by_cases c10 : (t258 == t261) = true
        · rw [if_pos c10] at H
          have c10b0 : (t258 == t261) = true := c10
          (try (have c10b1 : decide (t258 = t261) = true := by simpa using c10))
          (try (have c10b2 : (t258 == t261) = true := by simpa using c10))
          clear c10
          by_cases c11 : t259 = t262
          · rw [if_pos c11] at H
            have c11b0 : (t259 == t262) = true := beq_iff_eq.mpr c11
            have c11b1 : (t259 != t262) = false := bne_eq_false_iff_eq.mpr c11
            clear c11
            replace H := Option.bind_eq_some_iff.mp H
            obtain ⟨t263, A120, H⟩ := H
            replace H : (some t263) = some r := H
            have A12 := Aside0.mk A120
            clear A120
            obtain rfl := Option.some.inj H
            go_enter Try.func5, Try.ntmps5
            go_wp2_with (first | ((with_reducible refine gate_callee (f := 7) rfl ?_); refine goesL_ (some 18) rfl rfl Try.func7 (by kernel_rfl) rfl #[.int .i64 a0, .int .u64 a1] rfl (by (try simp only [List.map_toArray, List.map_cons, List.map_nil]); first | done | rfl | (simp only [List.length_drop, List.length_take]; rfl)) ?_; (with_reducible refine (fbits_Widen.calls k a0 a1 t253 t254 _ A3.out).mono ?_); rintro e w13 ⟨rfl, hb⟩; refine ⟨_, rfl, ?_⟩; have n0_ := Aside0.mk (below_step (by repeat (first | (with_reducible first | exact HB.out | apply below_alloc | apply pw_below_drewN | apply below_drew1) | exact HB.out)) hb); clear HB; have HB := n0_; clear n0_; (try clear hb); (try clear hb2); (try clear hk); (try clear hi)) | ((with_reducible refine gate_callee (f := 13) rfl ?_); refine goesL_ (some 24) rfl rfl Try.func13 (by kernel_rfl) rfl #[.int .i64 a0, .int .u64 a1] rfl (by (try simp only [List.map_toArray, List.map_cons, List.map_nil]); first | done | rfl | (simp only [List.length_drop, List.length_take]; rfl)) ?_; (with_reducible refine (glossatorref05_Widen.calls k a0 a1 t255 t256 _ A4.out).mono ?_); rintro e w' ⟨rfl, ⟨nd, rfl⟩⟩; refine ⟨_, rfl, ?_⟩) | ((with_reducible refine gate_callee (f := 14) rfl ?_); refine goesL_ (some 30) rfl rfl Try.func14 (by kernel_rfl) rfl #[.int .i64 a0, .int .u64 a1] rfl (by (try simp only [List.map_toArray, List.map_cons, List.map_nil]); first | done | rfl | (simp only [List.length_drop, List.length_take]; rfl)) ?_; (with_reducible refine (fbits_Narrow.calls k a0 a1 t257 t258 t259 _ A5.out).mono ?_); rintro e w14 ⟨rfl, hb⟩; refine ⟨_, rfl, ?_⟩; have n0_ := Aside0.mk (below_step (by repeat (first | (with_reducible first | exact HB.out | apply below_alloc | apply pw_below_drewN | apply below_drew1) | exact HB.out)) hb); clear HB; have HB := n0_; clear n0_; (try clear hb); (try clear hb2); (try clear hk); (try clear hi)) | ((with_reducible refine gate_callee (f := 15) rfl ?_); refine goesL_ (some 37) rfl rfl Try.func15 (by kernel_rfl) rfl #[.int .i64 a0, .int .u64 a1] rfl (by (try simp only [List.map_toArray, List.map_cons, List.map_nil]); first | done | rfl | (simp only [List.length_drop, List.length_take]; rfl)) ?_; (with_reducible refine (glossatorref05_Narrow.calls k a0 a1 t260 t261 t262 _ A6.out).mono ?_); rintro e w' ⟨rfl, ⟨nd, rfl⟩⟩; refine ⟨_, rfl, ?_⟩) | (go_at_call 8; (with_reducible refine (glossatorlaw05_awake.calls k  t263 _ A12.out).mono ?_); rintro e w15 ⟨rfl, hb⟩; have n0_ := Aside0.mk (below_step (by repeat (first | (with_reducible first | exact HB.out | apply below_alloc | apply pw_below_drewN | apply below_drew1) | exact HB.out)) hb); clear HB; have HB := n0_; clear n0_; (try clear hb); (try clear hb2); (try clear hk); (try clear hi)))
            go_ret
            exact ⟨by first | rfl | (simp [errW_none, errW_some] <;> rfl) | (simp [*, errW_none, errW_some] <;> rfl), by repeat (first | (with_reducible first | exact HB.out | apply below_alloc | apply pw_below_drewN | apply below_drew1) | exact HB.out)⟩
          · rw [if_neg c11] at H
            have c11b0 : (t259 == t262) = false := beq_eq_false_iff_ne.mpr c11
            have c11b1 : (t259 != t262) = true := bne_iff_ne.mpr c11
            obtain rfl := Option.some.inj H
            go_enter Try.func5, Try.ntmps5
            go_wp2_with (first | ((with_reducible refine gate_callee (f := 7) rfl ?_); refine goesL_ (some 18) rfl rfl Try.func7 (by kernel_rfl) rfl #[.int .i64 a0, .int .u64 a1] rfl (by (try simp only [List.map_toArray, List.map_cons, List.map_nil]); first | done | rfl | (simp only [List.length_drop, List.length_take]; rfl)) ?_; (with_reducible refine (fbits_Widen.calls k a0 a1 t253 t254 _ A3.out).mono ?_); rintro e w16 ⟨rfl, hb⟩; refine ⟨_, rfl, ?_⟩; have n0_ := Aside0.mk (below_step (by repeat (first | (with_reducible first | exact HB.out | apply below_alloc | apply pw_below_drewN | apply below_drew1) | exact HB.out)) hb); clear HB; have HB := n0_; clear n0_; (try clear hb); (try clear hb2); (try clear hk); (try clear hi)) | ((with_reducible refine gate_callee (f := 13) rfl ?_); refine goesL_ (some 24) rfl rfl Try.func13 (by kernel_rfl) rfl #[.int .i64 a0, .int .u64 a1] rfl (by (try simp only [List.map_toArray, List.map_cons, List.map_nil]); first | done | rfl | (simp only [List.length_drop, List.length_take]; rfl)) ?_; (with_reducible refine (glossatorref05_Widen.calls k a0 a1 t255 t256 _ A4.out).mono ?_); rintro e w' ⟨rfl, ⟨nd, rfl⟩⟩; refine ⟨_, rfl, ?_⟩) | ((with_reducible refine gate_callee (f := 14) rfl ?_); refine goesL_ (some 30) rfl rfl Try.func14 (by kernel_rfl) rfl #[.int .i64 a0, .int .u64 a1] rfl (by (try simp only [List.map_toArray, List.map_cons, List.map_nil]); first | done | rfl | (simp only [List.length_drop, List.length_take]; rfl)) ?_; (with_reducible refine (fbits_Narrow.calls k a0 a1 t257 t258 t259 _ A5.out).mono ?_); rintro e w17 ⟨rfl, hb⟩; refine ⟨_, rfl, ?_⟩; have n0_ := Aside0.mk (below_step (by repeat (first | (with_reducible first | exact HB.out | apply below_alloc | apply pw_below_drewN | apply below_drew1) | exact HB.out)) hb); clear HB; have HB := n0_; clear n0_; (try clear hb); (try clear hb2); (try clear hk); (try clear hi)) | ((with_reducible refine gate_callee (f := 15) rfl ?_); refine goesL_ (some 37) rfl rfl Try.func15 (by kernel_rfl) rfl #[.int .i64 a0, .int .u64 a1] rfl (by (try simp only [List.map_toArray, List.map_cons, List.map_nil]); first | done | rfl | (simp only [List.length_drop, List.length_take]; rfl)) ?_; (with_reducible refine (glossatorref05_Narrow.calls k a0 a1 t260 t261 t262 _ A6.out).mono ?_); rintro e w' ⟨rfl, ⟨nd, rfl⟩⟩; refine ⟨_, rfl, ?_⟩))
            go_ret
            exact ⟨by first | rfl | (simp [errW_none, errW_some] <;> rfl) | (simp [*, errW_none, errW_some] <;> rfl), by repeat (first | (with_reducible first | exact HB.out | apply below_alloc | apply pw_below_drewN | apply below_drew1) | exact HB.out)⟩
        · rw [if_neg c10] at H
          have c10b0 : (t258 == t261) = false := by simpa using c10
          (try (have c10b1 : decide (t258 = t261) = false := by simpa using c10))
          (try (have c10b2 : (t258 == t261) = false := by simpa using c10))
          (try (have c10b3 : ¬ (t258 = t261) := by simpa using c10))
          clear c10
          obtain rfl := Option.some.inj H
          go_enter Try.func5, Try.ntmps5
          go_wp2_with (first | ((with_reducible refine gate_callee (f := 7) rfl ?_); refine goesL_ (some 18) rfl rfl Try.func7 (by kernel_rfl) rfl #[.int .i64 a0, .int .u64 a1] rfl (by (try simp only [List.map_toArray, List.map_cons, List.map_nil]); first | done | rfl | (simp only [List.length_drop, List.length_take]; rfl)) ?_; (with_reducible refine (fbits_Widen.calls k a0 a1 t253 t254 _ A3.out).mono ?_); rintro e w18 ⟨rfl, hb⟩; refine ⟨_, rfl, ?_⟩; have n0_ := Aside0.mk (below_step (by repeat (first | (with_reducible first | exact HB.out | apply below_alloc | apply pw_below_drewN | apply below_drew1) | exact HB.out)) hb); clear HB; have HB := n0_; clear n0_; (try clear hb); (try clear hb2); (try clear hk); (try clear hi)) | ((with_reducible refine gate_callee (f := 13) rfl ?_); refine goesL_ (some 24) rfl rfl Try.func13 (by kernel_rfl) rfl #[.int .i64 a0, .int .u64 a1] rfl (by (try simp only [List.map_toArray, List.map_cons, List.map_nil]); first | done | rfl | (simp only [List.length_drop, List.length_take]; rfl)) ?_; (with_reducible refine (glossatorref05_Widen.calls k a0 a1 t255 t256 _ A4.out).mono ?_); rintro e w' ⟨rfl, ⟨nd, rfl⟩⟩; refine ⟨_, rfl, ?_⟩) | ((with_reducible refine gate_callee (f := 14) rfl ?_); refine goesL_ (some 30) rfl rfl Try.func14 (by kernel_rfl) rfl #[.int .i64 a0, .int .u64 a1] rfl (by (try simp only [List.map_toArray, List.map_cons, List.map_nil]); first | done | rfl | (simp only [List.length_drop, List.length_take]; rfl)) ?_; (with_reducible refine (fbits_Narrow.calls k a0 a1 t257 t258 t259 _ A5.out).mono ?_); rintro e w19 ⟨rfl, hb⟩; refine ⟨_, rfl, ?_⟩; have n0_ := Aside0.mk (below_step (by repeat (first | (with_reducible first | exact HB.out | apply below_alloc | apply pw_below_drewN | apply below_drew1) | exact HB.out)) hb); clear HB; have HB := n0_; clear n0_; (try clear hb); (try clear hb2); (try clear hk); (try clear hi)) | ((with_reducible refine gate_callee (f := 15) rfl ?_); refine goesL_ (some 37) rfl rfl Try.func15 (by kernel_rfl) rfl #[.int .i64 a0, .int .u64 a1] rfl (by (try simp only [List.map_toArray, List.map_cons, List.map_nil]); first | done | rfl | (simp only [List.length_drop, List.length_take]; rfl)) ?_; (with_reducible refine (glossatorref05_Narrow.calls k a0 a1 t260 t261 t262 _ A6.out).mono ?_); rintro e w' ⟨rfl, ⟨nd, rfl⟩⟩; refine ⟨_, rfl, ?_⟩))
          go_ret
          exact ⟨by first | rfl | (simp [errW_none, errW_some] <;> rfl) | (simp [*, errW_none, errW_some] <;> rfl), by repeat (first | (with_reducible first | exact HB.out | apply below_alloc | apply pw_below_drewN | apply below_drew1) | exact HB.out)⟩
      · rw [if_neg c9] at H
        have c9b0 : (t257 == t260) = false := beq_eq_false_iff_ne.mpr c9
        have c9b1 : (t257 != t260) = true := bne_iff_ne.mpr c9
        obtain rfl := Option.some.inj H
        go_enter Try.func5, Try.ntmps5
        go_wp2_with (first | ((with_reducible refine gate_callee (f := 7) rfl ?_); refine goesL_ (some 18) rfl rfl Try.func7 (by kernel_rfl) rfl #[.int .i64 a0, .int .u64 a1] rfl (by (try simp only [List.map_toArray, List.map_cons, List.map_nil]); first | done | rfl | (simp only [List.length_drop, List.length_take]; rfl)) ?_; (with_reducible refine (fbits_Widen.calls k a0 a1 t253 t254 _ A3.out).mono ?_); rintro e w20 ⟨rfl, hb⟩; refine ⟨_, rfl, ?_⟩; have n0_ := Aside0.mk (below_step (by repeat (first | (with_reducible first | exact HB.out | apply below_alloc | apply pw_below_drewN | apply below_drew1) | exact HB.out)) hb); clear HB; have HB := n0_; clear n0_; (try clear hb); (try clear hb2); (try clear hk); (try clear hi)) | ((with_reducible refine gate_callee (f := 13) rfl ?_); refine goesL_ (some 24) rfl rfl Try.func13 (by kernel_rfl) rfl #[.int .i64 a0, .int .u64 a1] rfl (by (try simp only [List.map_toArray, List.map_cons, List.map_nil]); first | done | rfl | (simp only [List.length_drop, List.length_take]; rfl)) ?_; (with_reducible refine (glossatorref05_Widen.calls k a0 a1 t255 t256 _ A4.out).mono ?_); rintro e w' ⟨rfl, ⟨nd, rfl⟩⟩; refine ⟨_, rfl, ?_⟩) | ((with_reducible refine gate_callee (f := 14) rfl ?_); refine goesL_ (some 30) rfl rfl Try.func14 (by kernel_rfl) rfl #[.int .i64 a0, .int .u64 a1] rfl (by (try simp only [List.map_toArray, List.map_cons, List.map_nil]); first | done | rfl | (simp only [List.length_drop, List.length_take]; rfl)) ?_; (with_reducible refine (fbits_Narrow.calls k a0 a1 t257 t258 t259 _ A5.out).mono ?_); rintro e w21 ⟨rfl, hb⟩; refine ⟨_, rfl, ?_⟩; have n0_ := Aside0.mk (below_step (by repeat (first | (with_reducible first | exact HB.out | apply below_alloc | apply pw_below_drewN | apply below_drew1) | exact HB.out)) hb); clear HB; have HB := n0_; clear n0_; (try clear hb); (try clear hb2); (try clear hk); (try clear hi)) | ((with_reducible refine gate_callee (f := 15) rfl ?_); refine goesL_ (some 37) rfl rfl Try.func15 (by kernel_rfl) rfl #[.int .i64 a0, .int .u64 a1] rfl (by (try simp only [List.map_toArray, List.map_cons, List.map_nil]); first | done | rfl | (simp only [List.length_drop, List.length_take]; rfl)) ?_; (with_reducible refine (glossatorref05_Narrow.calls k a0 a1 t260 t261 t262 _ A6.out).mono ?_); rintro e w' ⟨rfl, ⟨nd, rfl⟩⟩; refine ⟨_, rfl, ?_⟩))
        go_ret
        exact ⟨by first | rfl | (simp [errW_none, errW_some] <;> rfl) | (simp [*, errW_none, errW_some] <;> rfl), by repeat (first | (with_reducible first | exact HB.out | apply below_alloc | apply pw_below_drewN | apply below_drew1) | exact HB.out)⟩
    · rw [if_neg c8] at H
      have c8b0 : (t254 == t256) = false := beq_eq_false_iff_ne.mpr c8
      have c8b1 : (t254 != t256) = true := bne_iff_ne.mpr c8
      obtain rfl := Option.some.inj H
      go_enter Try.func5, Try.ntmps5
      go_wp2_with (first | ((with_reducible refine gate_callee (f := 7) rfl ?_); refine goesL_ (some 18) rfl rfl Try.func7 (by kernel_rfl) rfl #[.int .i64 a0, .int .u64 a1] rfl (by (try simp only [List.map_toArray, List.map_cons, List.map_nil]); first | done | rfl | (simp only [List.length_drop, List.length_take]; rfl)) ?_; (with_reducible refine (fbits_Widen.calls k a0 a1 t253 t254 _ A3.out).mono ?_); rintro e w22 ⟨rfl, hb⟩; refine ⟨_, rfl, ?_⟩; have n0_ := Aside0.mk (below_step (by repeat (first | (with_reducible first | exact HB.out | apply below_alloc | apply pw_below_drewN | apply below_drew1) | exact HB.out)) hb); clear HB; have HB := n0_; clear n0_; (try clear hb); (try clear hb2); (try clear hk); (try clear hi)) | ((with_reducible refine gate_callee (f := 13) rfl ?_); refine goesL_ (some 24) rfl rfl Try.func13 (by kernel_rfl) rfl #[.int .i64 a0, .int .u64 a1] rfl (by (try simp only [List.map_toArray, List.map_cons, List.map_nil]); first | done | rfl | (simp only [List.length_drop, List.length_take]; rfl)) ?_; (with_reducible refine (glossatorref05_Widen.calls k a0 a1 t255 t256 _ A4.out).mono ?_); rintro e w' ⟨rfl, ⟨nd, rfl⟩⟩; refine ⟨_, rfl, ?_⟩) | ((with_reducible refine gate_callee (f := 14) rfl ?_); refine goesL_ (some 30) rfl rfl Try.func14 (by kernel_rfl) rfl #[.int .i64 a0, .int .u64 a1] rfl (by (try simp only [List.map_toArray, List.map_cons, List.map_nil]); first | done | rfl | (simp only [List.length_drop, List.length_take]; rfl)) ?_; (with_reducible refine (fbits_Narrow.calls k a0 a1 t257 t258 t259 _ A5.out).mono ?_); rintro e w23 ⟨rfl, hb⟩; refine ⟨_, rfl, ?_⟩; have n0_ := Aside0.mk (below_step (by repeat (first | (with_reducible first | exact HB.out | apply below_alloc | apply pw_below_drewN | apply below_drew1) | exact HB.out)) hb); clear HB; have HB := n0_; clear n0_; (try clear hb); (try clear hb2); (try clear hk); (try clear hi)) | ((with_reducible refine gate_callee (f := 15) rfl ?_); refine goesL_ (some 37) rfl rfl Try.func15 (by kernel_rfl) rfl #[.int .i64 a0, .int .u64 a1] rfl (by (try simp only [List.map_toArray, List.map_cons, List.map_nil]); first | done | rfl | (simp only [List.length_drop, List.length_take]; rfl)) ?_; (with_reducible refine (glossatorref05_Narrow.calls k a0 a1 t260 t261 t262 _ A6.out).mono ?_); rintro e w' ⟨rfl, ⟨nd, rfl⟩⟩; refine ⟨_, rfl, ?_⟩))
      go_ret
      exact ⟨by first | rfl | (simp [errW_none, errW_some] <;> rfl) | (simp [*, errW_none, errW_some] <;> rfl), by repeat (first | (with_reducible first | exact HB.out | apply below_alloc | apply pw_below_drewN | apply below_drew1) | exact HB.out)⟩
  · rw [if_neg c7] at H
    have c7b0 : (t253 == t255) = false := beq_eq_false_iff_ne.mpr c7
    have c7b1 : (t253 != t255) = true := bne_iff_ne.mpr c7
    obtain rfl := Option.some.inj H
    go_enter Try.func5, Try.ntmps5
    go_wp2_with (first | ((with_reducible refine gate_callee (f := 7) rfl ?_); refine goesL_ (some 18) rfl rfl Try.func7 (by kernel_rfl) rfl #[.int .i64 a0, .int .u64 a1] rfl (by (try simp only [List.map_toArray, List.map_cons, List.map_nil]); first | done | rfl | (simp only [List.length_drop, List.length_take]; rfl)) ?_; (with_reducible refine (fbits_Widen.calls k a0 a1 t253 t254 _ A3.out).mono ?_); rintro e w24 ⟨rfl, hb⟩; refine ⟨_, rfl, ?_⟩; have n0_ := Aside0.mk (below_step (by repeat (first | (with_reducible first | exact HB.out | apply below_alloc | apply pw_below_drewN | apply below_drew1) | exact HB.out)) hb); clear HB; have HB := n0_; clear n0_; (try clear hb); (try clear hb2); (try clear hk); (try clear hi)) | ((with_reducible refine gate_callee (f := 13) rfl ?_); refine goesL_ (some 24) rfl rfl Try.func13 (by kernel_rfl) rfl #[.int .i64 a0, .int .u64 a1] rfl (by (try simp only [List.map_toArray, List.map_cons, List.map_nil]); first | done | rfl | (simp only [List.length_drop, List.length_take]; rfl)) ?_; (with_reducible refine (glossatorref05_Widen.calls k a0 a1 t255 t256 _ A4.out).mono ?_); rintro e w' ⟨rfl, ⟨nd, rfl⟩⟩; refine ⟨_, rfl, ?_⟩) | ((with_reducible refine gate_callee (f := 14) rfl ?_); refine goesL_ (some 30) rfl rfl Try.func14 (by kernel_rfl) rfl #[.int .i64 a0, .int .u64 a1] rfl (by (try simp only [List.map_toArray, List.map_cons, List.map_nil]); first | done | rfl | (simp only [List.length_drop, List.length_take]; rfl)) ?_; (with_reducible refine (fbits_Narrow.calls k a0 a1 t257 t258 t259 _ A5.out).mono ?_); rintro e w25 ⟨rfl, hb⟩; refine ⟨_, rfl, ?_⟩; have n0_ := Aside0.mk (below_step (by repeat (first | (with_reducible first | exact HB.out | apply below_alloc | apply pw_below_drewN | apply below_drew1) | exact HB.out)) hb); clear HB; have HB := n0_; clear n0_; (try clear hb); (try clear hb2); (try clear hk); (try clear hi)) | ((with_reducible refine gate_callee (f := 15) rfl ?_); refine goesL_ (some 37) rfl rfl Try.func15 (by kernel_rfl) rfl #[.int .i64 a0, .int .u64 a1] rfl (by (try simp only [List.map_toArray, List.map_cons, List.map_nil]); first | done | rfl | (simp only [List.length_drop, List.length_take]; rfl)) ?_; (with_reducible refine (glossatorref05_Narrow.calls k a0 a1 t260 t261 t262 _ A6.out).mono ?_); rintro e w' ⟨rfl, ⟨nd, rfl⟩⟩; refine ⟨_, rfl, ?_⟩))
    go_ret
    exact ⟨by first | rfl | (simp [errW_none, errW_some] <;> rfl) | (simp [*, errW_none, errW_some] <;> rfl), by repeat (first | (with_reducible first | exact HB.out | apply below_alloc | apply pw_below_drewN | apply below_drew1) | exact HB.out)⟩

/-- THE ONE PURE STATEMENT of glossatorlaw05_FbitsTurns: yours. -/
def glossatorlaw05_FbitsTurns.Pure : Prop := ∀ (a0 : Int) (a1 : Int), (Lit.int .i64 a0).wf = true → (Lit.int .u64 a1).wf = true → ∃ k, glossatorlaw05_FbitsTurns.f k a0 a1 = some true
theorem glossatorlaw05_FbitsTurns.walk (P : glossatorlaw05_FbitsTurns.Pure) (a0 : Int) (a1 : Int) (w : World) (w0 : (Lit.int .i64 a0).wf = true) (w1 : (Lit.int .u64 a1).wf = true) :
    Calls Try.prog 5 #[.int .i64 a0, .int .u64 a1] w fun e w' => e = .returned (.bool true) ∧ Below w.heap.size w w' := by
  obtain ⟨k, h⟩ := P a0 a1 w0 w1
  refine (glossatorlaw05_FbitsTurns.calls k a0 a1 true w h).mono ?_
  rintro e w' ⟨rfl, hd⟩
  exact ⟨rfl, hd⟩

end Go.Proofs.Ytjefhpbliihonaa.PFbitsTurns
