-- Written by a program of this session out of the kit's print (print.py, its switches or its text changed): not the kit's own print
import Derived.Test.YtmpengjbjhladaaPHeadBackx0
namespace Go.Proofs.Ytmpengjbjhladaa.PHeadBack
open Go.RowKit Go.Proofs.YtmpengjbjhladaaW.PrintWords Go.Proofs.YtmpengjbjhladaaW.PrintLast Go.Proofs.YtmpengjbjhladaaW.PrintMore
attribute [local go_sem] max2_int min2_int max_two min_two max_three min_three max_four min_four   -- for this text's walks alone
set_option linter.unusedVariables false
set_option linter.unusedSimpArgs false

/-! ### head_Get: function 13 -/
mutual
def head_Get.j1 : Nat → List Int → Int → Int → Option (Int × Int × Int × Int × Int)
  | 0, _, _, _ => none
  | k + 1, x0, x7, x8 => if 0 ≤ (wrap64 (x8 - 24)) then (if (x0.length : Int) ≤ (shl .i64 1 (wrap64 (x8 - 24))) then (some (0, 0, 0, (x0.length : Int), 3)) else (if 1 ≤ (wrap64 ((shl .i64 1 (wrap64 (x8 - 24))) + 1)) then (if (wrap64 ((shl .i64 1 (wrap64 (x8 - 24))) + 1)) ≤ (x0.length : Int) then (head_Get.l0 k x7 x8 (shl .i64 1 (wrap64 (x8 - 24))) 0 ((x0.take ((wrap64 ((shl .i64 1 (wrap64 (x8 - 24))) + 1)) : Int).toNat).drop 1) (((x0.take ((wrap64 ((shl .i64 1 (wrap64 (x8 - 24))) + 1)) : Int).toNat).drop 1).length : Int) 0) else (none)) else (none))) else (none)
def head_Get.l0 : Nat → Int → Int → Int → Int → List Int → Int → Int → Option (Int × Int × Int × Int × Int)
  | 0, _, _, _, _, _, _, _ => none
  | k + 1, x7, x8, x9, x10, x79, x80, x81 => if x81 < x80 then (if 0 ≤ x81 then (if x81 < (x79.length : Int) then (head_Get.l0 k x7 x8 x9 (Go.bits .or .u64 (IntKind.u64.wrap (x10 * 256)) (IntKind.u64.wrap (rd x79 x81))) x79 x80 (wrap64 (x81 + 1))) else (none)) else (none)) else (some (x7, x8, x10, wrap64 (x9 + 1), 0))
def head_Get.j0 : Nat → List Int → Int → Int → Bool → Option (Int × Int × Int × Int × Int)
  | 0, _, _, _, _ => none
  | k + 1, x0, x7, x8, x33 => if x33 = true then (some (x7, x8, 0, 1, 0)) else (if x8 > 27 then (some (0, 0, 0, 0, 4)) else (if x7 = 7 then (if x8 = 24 then (if (x0.length : Int) > 1 then (if 1 < (x0.length : Int) then (if (rd x0 1) ≤ 31 then (some (0, 0, 0, 1, 4)) else (head_Get.j1 k x0 x7 x8)) else (none)) else (head_Get.j1 k x0 x7 x8)) else (head_Get.j1 k x0 x7 x8)) else (head_Get.j1 k x0 x7 x8)))
end
def head_Get.f (k : Nat) (l0 : List Int) : Option (Int × Int × Int × Int × Int) := if (l0.length : Int) = 0 then (some (0, 0, 0, 0, 3)) else (if 0 < (l0.length : Int) then (if (wrap64 (Go.bits .and .u8 (rd l0 0) 31)) < 24 then (some (wrap64 ((rd l0 0) / 32), wrap64 (Go.bits .and .u8 (rd l0 0) 31), IntKind.u64.wrap (wrap64 (Go.bits .and .u8 (rd l0 0) 31)), 1, 0)) else (if (wrap64 (Go.bits .and .u8 (rd l0 0) 31)) = 31 then (if (wrap64 ((rd l0 0) / 32)) > 1 then (head_Get.j0 k l0 (wrap64 ((rd l0 0) / 32)) (wrap64 (Go.bits .and .u8 (rd l0 0) 31)) ((wrap64 ((rd l0 0) / 32)) != 6)) else (head_Get.j0 k l0 (wrap64 ((rd l0 0) / 32)) (wrap64 (Go.bits .and .u8 (rd l0 0) 31)) false)) else (head_Get.j0 k l0 (wrap64 ((rd l0 0) / 32)) (wrap64 (Go.bits .and .u8 (rd l0 0) 31)) false))) else (none))
theorem head_Get.mono_l : ∀ k, (∀ y0 y1 y2, LeO (head_Get.j1 k y0 y1 y2) (head_Get.j1 (k + 1) y0 y1 y2)) ∧ (∀ y0 y1 y2 y3 y4 y5 y6, LeO (head_Get.l0 k y0 y1 y2 y3 y4 y5 y6) (head_Get.l0 (k + 1) y0 y1 y2 y3 y4 y5 y6)) ∧ (∀ y0 y1 y2 y3, LeO (head_Get.j0 k y0 y1 y2 y3) (head_Get.j0 (k + 1) y0 y1 y2 y3))
  | 0 => ⟨fun _ _ _ r h => by simp [head_Get.j1] at h, fun _ _ _ _ _ _ _ r h => by simp [head_Get.l0] at h, fun _ _ _ _ r h => by simp [head_Get.j0] at h⟩
  | k + 1 => by
    obtain ⟨ih0, ih1, ih2⟩ := head_Get.mono_l k
    refine ⟨?_, ?_, ?_⟩
    · intro y0 y1 y2
      unfold head_Get.j1
      repeat' first
      | (with_reducible exact ih0 _ _ _)
      | (with_reducible exact ih1 _ _ _ _ _ _ _)
      | (with_reducible exact ih2 _ _ _ _)
      | (with_reducible exact LeO.refl _)
      | (with_reducible exact LeO.none _)
      | (with_reducible refine LeO.ite ?_ ?_)
      | (with_reducible refine LeO.bind ?_ (fun _ => ?_))
      | exact ih0 _ _ _
      | exact ih1 _ _ _ _ _ _ _
      | exact ih2 _ _ _ _
      | exact LeO.none _
      | refine LeO.ite ?_ ?_
      | refine LeO.bind ?_ (fun _ => ?_)
    · intro y0 y1 y2 y3 y4 y5 y6
      unfold head_Get.l0
      repeat' first
      | (with_reducible exact ih0 _ _ _)
      | (with_reducible exact ih1 _ _ _ _ _ _ _)
      | (with_reducible exact ih2 _ _ _ _)
      | (with_reducible exact LeO.refl _)
      | (with_reducible exact LeO.none _)
      | (with_reducible refine LeO.ite ?_ ?_)
      | (with_reducible refine LeO.bind ?_ (fun _ => ?_))
      | exact ih0 _ _ _
      | exact ih1 _ _ _ _ _ _ _
      | exact ih2 _ _ _ _
      | exact LeO.none _
      | refine LeO.ite ?_ ?_
      | refine LeO.bind ?_ (fun _ => ?_)
    · intro y0 y1 y2 y3
      unfold head_Get.j0
      repeat' first
      | (with_reducible exact ih0 _ _ _)
      | (with_reducible exact ih1 _ _ _ _ _ _ _)
      | (with_reducible exact ih2 _ _ _ _)
      | (with_reducible exact LeO.refl _)
      | (with_reducible exact LeO.none _)
      | (with_reducible refine LeO.ite ?_ ?_)
      | (with_reducible refine LeO.bind ?_ (fun _ => ?_))
      | exact ih0 _ _ _
      | exact ih1 _ _ _ _ _ _ _
      | exact ih2 _ _ _ _
      | exact LeO.none _
      | refine LeO.ite ?_ ?_
      | refine LeO.bind ?_ (fun _ => ?_)
theorem head_Get.mono : ∀ a0 k, LeO (head_Get.f k a0) (head_Get.f (k + 1) a0) := by
  intro a0 k
  obtain ⟨ih0, ih1, ih2⟩ := head_Get.mono_l k
  unfold head_Get.f
  repeat' first
      | (with_reducible exact ih0 _ _ _)
      | (with_reducible exact ih1 _ _ _ _ _ _ _)
      | (with_reducible exact ih2 _ _ _ _)
      | (with_reducible exact LeO.refl _)
      | (with_reducible exact LeO.none _)
      | (with_reducible refine LeO.ite ?_ ?_)
      | (with_reducible refine LeO.bind ?_ (fun _ => ?_))
      | exact ih0 _ _ _
      | exact ih1 _ _ _ _ _ _ _
      | exact ih2 _ _ _ _
      | exact LeO.none _
      | refine LeO.ite ?_ ?_
      | refine LeO.bind ?_ (fun _ => ?_)
set_option maxHeartbeats 8000000 in
set_option maxRecDepth 100000 in
theorem head_Get.calls (k : Nat) (A0 : Option Addr) (c0 : Nat) (l0 : List Int) (r1 : Int) (r2 : Int) (r3 : Int) (r4 : Int) (r5 : Int) (w : World) (hr0 : Kd.C (Kd.int .u8) w A0 l0.length l0) (hc0 : l0.length ≤ c0) (h : head_Get.f k l0 = some (r1, r2, r3, r4, r5)) :
    Calls Try.prog 13 #[.slice A0 l0.length c0] w fun e w' => e = .returned (.tuple #[.int .i64 r1, .int .i64 r2, .int .u64 r3, .int .i64 r4, .int .i64 r5]) ∧ Drawn0 w w' := by
  have HR0 := Aside0.mk hr0
  have HC0 := Aside0.mk hc0
  clear hr0 hc0
  have H : (if (l0.length : Int) = 0 then (some (0, 0, 0, 0, 3)) else (if 0 < (l0.length : Int) then (if (wrap64 (Go.bits .and .u8 (rd l0 0) 31)) < 24 then (some (wrap64 ((rd l0 0) / 32), wrap64 (Go.bits .and .u8 (rd l0 0) 31), IntKind.u64.wrap (wrap64 (Go.bits .and .u8 (rd l0 0) 31)), 1, 0)) else (if (wrap64 (Go.bits .and .u8 (rd l0 0) 31)) = 31 then (if (wrap64 ((rd l0 0) / 32)) > 1 then (head_Get.j0 k l0 (wrap64 ((rd l0 0) / 32)) (wrap64 (Go.bits .and .u8 (rd l0 0) 31)) ((wrap64 ((rd l0 0) / 32)) != 6)) else (head_Get.j0 k l0 (wrap64 ((rd l0 0) / 32)) (wrap64 (Go.bits .and .u8 (rd l0 0) 31)) false)) else (head_Get.j0 k l0 (wrap64 ((rd l0 0) / 32)) (wrap64 (Go.bits .and .u8 (rd l0 0) 31)) false))) else (none))) = some (r1, r2, r3, r4, r5) := h
  clear h
  by_cases c2 : (l0.length : Int) = 0
  · rw [if_pos c2] at H
    have c2b0 : ((l0.length : Int) == 0) = true := beq_iff_eq.mpr c2
    have c2b1 : ((l0.length : Int) != 0) = false := bne_eq_false_iff_eq.mpr c2
    clear c2
    simp only [Option.some.injEq, Prod.mk.injEq] at H
    obtain ⟨rfl, rfl, rfl, rfl, rfl⟩ := H
    go_enter Try.func13, Try.ntmps13
    go_wp2
    repeat (go_quiet (fail); try go_wp2)
    refine bodyPost_ret (results_list (rs := [.tmp 2, .tmp 3, .tmp 4, .tmp 5, .tmp 6]) rfl (by simp) (.tmp (.tmp (.tmp (.tmp (.tmp .nil)))))) rfl ?_
    exact ⟨by first | rfl | (simp; done) | (simp [*]; done), by repeat (first | exact Drawn0.refl _ | apply Drawn0.step)⟩
  · rw [if_neg c2] at H
    have c2b0 : ((l0.length : Int) == 0) = false := beq_eq_false_iff_ne.mpr c2
    have c2b1 : ((l0.length : Int) != 0) = true := bne_iff_ne.mpr c2
    have c2b2 : ¬ (l0 = []) := fun h_ => c2 (by rw [h_]; rfl)
    by_cases c3 : 0 < (l0.length : Int)
    · rw [if_pos c3] at H
      have c3b0 : decide (0 < (l0.length : Int)) = true := decide_eq_true c3
      have c3b1 : decide (0 < l0.length) = true := decide_eq_true (by omega)
      clear c3
      have HC4 := Aside0.mk H
      clear H
      have p128 : 0 ≤ (0 : Int) := (by omega)
      have q128 : 0 < (l0.length : Int) := of_decide_eq_true (by first | (with_reducible assumption) | assumption)
      obtain ⟨ad128, e128, hx128_0⟩ := Kd.at_int HR0.out 0 p128 q128
      cases e128
      have qi128 : (0 < l0.length) = True := eq_true (by omega)
      (try rw [show ((0 : Int)).toNat = 0 from rfl] at hx128_0)
      (try rw [Addr.add_zero'] at hx128_0)
      replace p128 := eq_true p128
      replace q128 := eq_true q128
      have p129 : 0 ≤ (0 : Int) := (by omega)
      have q129 : 0 < (l0.length : Int) := of_decide_eq_true (by first | (with_reducible assumption) | assumption)
      obtain ⟨ad129, e129, hx129_0⟩ := Kd.at_int HR0.out 0 p129 q129
      obtain rfl : ad128 = ad129 := (by injection e129)
      have qi129 : (0 < l0.length) = True := eq_true (by omega)
      (try rw [show ((0 : Int)).toNat = 0 from rfl] at hx129_0)
      (try rw [Addr.add_zero'] at hx129_0)
      replace p129 := eq_true p129
      replace q129 := eq_true q129
      go_enter Try.func13, Try.ntmps13
      go_upto_block 0 with (fail)
      repeat (go_quiet (fail); go_upto_block 0 with (fail))
      go_cut [] (fun wc => ∃ (kq : Nat), Aside0 (head_Get.j1 kq l0 (wrap64 ((rd l0 0) / 32)) (wrap64 (Go.bits .and .u8 (rd l0 0) 31)) = some (r1, r2, r3, r4, r5)) ∧ Aside0 (kq ≤ k) ∧ Drawn0 w wc)
      case first =>
        have H := HC4.out
        clear HC4
        by_cases c5 : (wrap64 (Go.bits .and .u8 (rd l0 0) 31)) < 24
        · rw [if_pos c5] at H
          have c5b0 : decide ((wrap64 (Go.bits .and .u8 (rd l0 0) 31)) < 24) = true := decide_eq_true c5
          clear c5
          (first | rw [c5b0] | (simp only [i64_w, i32_w]; rw [c5b0]) | skip)
          simp only [Option.some.injEq, Prod.mk.injEq] at H
          obtain ⟨rfl, rfl, rfl, rfl, rfl⟩ := H
          go_wp2
          repeat (go_quiet (fail); try go_wp2)
          refine bodyPost_ret (results_list (rs := [.tmp 2, .tmp 3, .tmp 4, .tmp 5, .tmp 6]) rfl (by simp) (.tmp (.tmp (.tmp (.tmp (.tmp .nil)))))) rfl ?_
          exact ⟨by first | rfl | (simp; done) | (simp [*]; done), by repeat (first | exact Drawn0.refl _ | apply Drawn0.step)⟩
        · rw [if_neg c5] at H
          have c5b0 : decide ((wrap64 (Go.bits .and .u8 (rd l0 0) 31)) < 24) = false := decide_eq_false c5
          clear c5
          (first | rw [c5b0] | (simp only [i64_w, i32_w]; rw [c5b0]) | skip)
          have HC6 := Aside0.mk H
          clear H
          go_upto_region 6 with (fail)
          repeat (go_quiet (fail); go_upto_region 6 with (fail))
          go_cut [33] (fun v33 wc => ∃ (kq : Nat) (x33_5 : Bool), v33 = .bool x33_5 ∧ Aside0 (head_Get.j0 kq l0 (wrap64 ((rd l0 0) / 32)) (wrap64 (Go.bits .and .u8 (rd l0 0) 31)) x33_5 = some (r1, r2, r3, r4, r5)) ∧ Aside0 (kq ≤ k) ∧ Drawn0 w wc)
          case first =>
            have H := HC6.out
            clear HC6
            by_cases c7 : (wrap64 (Go.bits .and .u8 (rd l0 0) 31)) = 31
            · rw [if_pos c7] at H
              have c7b0 : ((wrap64 (Go.bits .and .u8 (rd l0 0) 31)) == 31) = true := beq_iff_eq.mpr c7
              have c7b1 : ((wrap64 (Go.bits .and .u8 (rd l0 0) 31)) != 31) = false := bne_eq_false_iff_eq.mpr c7
              clear c7
              (first | rw [c7b0] | (simp only [i64_w, i32_w]; rw [c7b0]) | skip)
              by_cases c8 : (wrap64 ((rd l0 0) / 32)) > 1
              · rw [if_pos c8] at H
                have c8b0 : decide (1 < (wrap64 ((rd l0 0) / 32))) = true := decide_eq_true c8
                clear c8
                have H' := Aside0.mk H
                clear H
                go_wp2
                repeat (go_quiet (fail); try go_wp2)
                go_meet
                case rel => exact ⟨_, (((wrap64 ((rd l0 0) / 32)) != 6)), (by first | rfl | (simp; done) | (simp [*]; done)), H', ⟨by first | omega | exact Nat.le_refl _⟩, by repeat (first | exact Drawn0.refl _ | apply Drawn0.step)⟩
              · rw [if_neg c8] at H
                have c8b0 : decide (1 < (wrap64 ((rd l0 0) / 32))) = false := decide_eq_false c8
                clear c8
                have H' := Aside0.mk H
                clear H
                go_wp2
                repeat (go_quiet (fail); try go_wp2)
                go_meet
                case rel => exact ⟨_, (false), (by first | rfl | (simp; done) | (simp [*]; done)), H', ⟨by first | omega | exact Nat.le_refl _⟩, by repeat (first | exact Drawn0.refl _ | apply Drawn0.step)⟩
            · rw [if_neg c7] at H
              have c7b0 : ((wrap64 (Go.bits .and .u8 (rd l0 0) 31)) == 31) = false := beq_eq_false_iff_ne.mpr c7
              have c7b1 : ((wrap64 (Go.bits .and .u8 (rd l0 0) 31)) != 31) = true := bne_iff_ne.mpr c7
              (first | rw [c7b0] | (simp only [i64_w, i32_w]; rw [c7b0]) | skip)
              have H' := Aside0.mk H
              clear H
              go_wp2
              repeat (go_quiet (fail); try go_wp2)
              go_meet
              case rel => exact ⟨_, (false), (by first | rfl | (simp; done) | (simp [*]; done)), H', ⟨by first | omega | exact Nat.le_refl _⟩, by repeat (first | exact Drawn0.refl _ | apply Drawn0.step)⟩
          case rest =>
            clear HC6
            try clear c1
            try clear p1
            try clear q1
            try clear hx1
            try clear qi1
            try clear c2
            try clear c2b0
            try clear c2b1
            try clear c2b2
            try clear p2
            try clear c3
            try clear c3b0
            try clear c3b1
            try clear c5
            try clear c5b0
            try clear p6
            try clear c7
            try clear c7b0
            try clear c7b1
            try clear c8
            try clear c8b0
            try clear hx128_0
            try clear hx129_0
            try clear p128
            try clear p129
            try clear q128
            try clear q129
            obtain ⟨kq, x33_5, rfl, HA, HJ5, ⟨mc5, rfl⟩⟩ := hcut
            cases kq with
            | zero => exact absurd HA.out (by simp [head_Get.j0])
            | succ kj5 =>
              have H := HA.out
              clear HA
              simp only [head_Get.j0] at H
              by_cases c9 : x33_5 = true
              · subst c9
                have H1 : (some ((wrap64 ((rd l0 0) / 32)), (wrap64 (Go.bits .and .u8 (rd l0 0) 31)), 0, 1, 0)) = some (r1, r2, r3, r4, r5) := by rw [if_pos rfl] at H; exact H
                clear H
                have H := H1
                clear H1
                simp only [Option.some.injEq, Prod.mk.injEq] at H
                obtain ⟨rfl, rfl, rfl, rfl, rfl⟩ := H
                go_wp2
                repeat (go_quiet (fail); try go_wp2)
                refine bodyPost_ret (results_list (rs := [.tmp 2, .tmp 3, .tmp 4, .tmp 5, .tmp 6]) rfl (by simp) (.tmp (.tmp (.tmp (.tmp (.tmp .nil)))))) rfl ?_
                exact ⟨by first | rfl | (simp; done) | (simp [*]; done), by repeat (first | exact Drawn0.refl _ | apply Drawn0.step)⟩
              · replace c9 := Bool.eq_false_iff.mpr c9
                subst c9
                have H1 : (if (wrap64 (Go.bits .and .u8 (rd l0 0) 31)) > 27 then (some (0, 0, 0, 0, 4)) else (if (wrap64 ((rd l0 0) / 32)) = 7 then (if (wrap64 (Go.bits .and .u8 (rd l0 0) 31)) = 24 then (if (l0.length : Int) > 1 then (if 1 < (l0.length : Int) then (if (rd l0 1) ≤ 31 then (some (0, 0, 0, 1, 4)) else (head_Get.j1 kj5 l0 (wrap64 ((rd l0 0) / 32)) (wrap64 (Go.bits .and .u8 (rd l0 0) 31)))) else (none)) else (head_Get.j1 kj5 l0 (wrap64 ((rd l0 0) / 32)) (wrap64 (Go.bits .and .u8 (rd l0 0) 31)))) else (head_Get.j1 kj5 l0 (wrap64 ((rd l0 0) / 32)) (wrap64 (Go.bits .and .u8 (rd l0 0) 31)))) else (head_Get.j1 kj5 l0 (wrap64 ((rd l0 0) / 32)) (wrap64 (Go.bits .and .u8 (rd l0 0) 31))))) = some (r1, r2, r3, r4, r5) := by rw [if_neg (show ¬ (false = true) by decide)] at H; exact H
                clear H
                have H := H1
                clear H1
                by_cases c10 : (wrap64 (Go.bits .and .u8 (rd l0 0) 31)) > 27
                · rw [if_pos c10] at H
                  have c10b0 : decide (27 < (wrap64 (Go.bits .and .u8 (rd l0 0) 31))) = true := decide_eq_true c10
                  clear c10
                  simp only [Option.some.injEq, Prod.mk.injEq] at H
                  obtain ⟨rfl, rfl, rfl, rfl, rfl⟩ := H
                  go_wp2
                  repeat (go_quiet (fail); try go_wp2)
                  refine bodyPost_ret (results_list (rs := [.tmp 2, .tmp 3, .tmp 4, .tmp 5, .tmp 6]) rfl (by simp) (.tmp (.tmp (.tmp (.tmp (.tmp .nil)))))) rfl ?_
                  exact ⟨by first | rfl | (simp; done) | (simp [*]; done), by repeat (first | exact Drawn0.refl _ | apply Drawn0.step)⟩
                · rw [if_neg c10] at H
                  have c10b0 : decide (27 < (wrap64 (Go.bits .and .u8 (rd l0 0) 31))) = false := decide_eq_false c10
                  clear c10
                  by_cases c11 : (wrap64 ((rd l0 0) / 32)) = 7
                  · rw [if_pos c11] at H
                    have c11b0 : ((wrap64 ((rd l0 0) / 32)) == 7) = true := beq_iff_eq.mpr c11
                    have c11b1 : ((wrap64 ((rd l0 0) / 32)) != 7) = false := bne_eq_false_iff_eq.mpr c11
                    clear c11
                    by_cases c12 : (wrap64 (Go.bits .and .u8 (rd l0 0) 31)) = 24
                    · rw [if_pos c12] at H
                      have c12b0 : ((wrap64 (Go.bits .and .u8 (rd l0 0) 31)) == 24) = true := beq_iff_eq.mpr c12
                      have c12b1 : ((wrap64 (Go.bits .and .u8 (rd l0 0) 31)) != 24) = false := bne_eq_false_iff_eq.mpr c12
                      clear c12
                      by_cases c13 : (l0.length : Int) > 1
                      · rw [if_pos c13] at H
                        have c13b0 : decide (1 < (l0.length : Int)) = true := decide_eq_true c13
                        have c13b1 : decide (1 < l0.length) = true := decide_eq_true (by omega)
                        clear c13
                        by_cases c14 : 1 < (l0.length : Int)
                        · rw [if_pos c14] at H
                          have c14b0 : decide (1 < (l0.length : Int)) = true := decide_eq_true c14
                          have c14b1 : decide (1 < l0.length) = true := decide_eq_true (by omega)
                          clear c14
                          by_cases c15 : (rd l0 1) ≤ 31
                          · rw [if_pos c15] at H
                            have c15b0 : decide ((rd l0 1) ≤ 31) = true := decide_eq_true c15
                            clear c15
                            simp only [Option.some.injEq, Prod.mk.injEq] at H
                            obtain ⟨rfl, rfl, rfl, rfl, rfl⟩ := H
                            have p130 : 0 ≤ (1 : Int) := (by omega)
                            have q130 : 1 < (l0.length : Int) := of_decide_eq_true (by first | (with_reducible assumption) | assumption)
                            obtain ⟨ad130, e130, hx130_0⟩ := Kd.at_int HR0.out 1 p130 q130
                            obtain rfl : ad128 = ad130 := (by injection e130)
                            (try simp only [show (1 : Int).toNat = 1 from rfl, Nat.reduceMul, Nat.reduceEqDiff, Go.Addr.add, ↓reduceIte] at hx130_0)
                            have qi130 : (1 < l0.length) = True := eq_true (by omega)
                            (try rw [show ((1 : Int)).toNat = 1 from rfl] at hx130_0)
                            replace p130 := eq_true p130
                            replace q130 := eq_true q130
                            go_wp2
                            repeat (go_quiet (fail); try go_wp2)
                            refine bodyPost_ret (results_list (rs := [.tmp 2, .tmp 3, .tmp 4, .tmp 5, .tmp 6]) rfl (by simp) (.tmp (.tmp (.tmp (.tmp (.tmp .nil)))))) rfl ?_
                            exact ⟨by first | rfl | (simp; done) | (simp [*]; done), by repeat (first | exact Drawn0.refl _ | apply Drawn0.step)⟩
                          · rw [if_neg c15] at H
                            have c15b0 : decide ((rd l0 1) ≤ 31) = false := decide_eq_false c15
                            clear c15
                            have H' := Aside0.mk H
                            clear H
                            have p130 : 0 ≤ (1 : Int) := (by omega)
                            have q130 : 1 < (l0.length : Int) := of_decide_eq_true (by first | (with_reducible assumption) | assumption)
                            obtain ⟨ad130, e130, hx130_0⟩ := Kd.at_int HR0.out 1 p130 q130
                            obtain rfl : ad128 = ad130 := (by injection e130)
                            (try simp only [show (1 : Int).toNat = 1 from rfl, Nat.reduceMul, Nat.reduceEqDiff, Go.Addr.add, ↓reduceIte] at hx130_0)
                            have qi130 : (1 < l0.length) = True := eq_true (by omega)
                            (try rw [show ((1 : Int)).toNat = 1 from rfl] at hx130_0)
                            replace p130 := eq_true p130
                            replace q130 := eq_true q130
                            go_wp2
                            repeat (go_quiet (fail); try go_wp2)
                            go_meet
                            case rel => exact ⟨_, H', ⟨by have := HJ5.out; first | omega | exact Nat.le_refl _⟩, by repeat (first | exact Drawn0.refl _ | apply Drawn0.step)⟩
                        · rw [if_neg c14] at H
                          exact absurd H (by simp)
                      · rw [if_neg c13] at H
                        have c13b0 : decide (1 < (l0.length : Int)) = false := decide_eq_false c13
                        have c13b1 : decide (1 < l0.length) = false := decide_eq_false (by omega)
                        clear c13
                        have H' := Aside0.mk H
                        clear H
                        go_wp2
                        repeat (go_quiet (fail); try go_wp2)
                        go_meet
                        case rel => exact ⟨_, H', ⟨by have := HJ5.out; first | omega | exact Nat.le_refl _⟩, by repeat (first | exact Drawn0.refl _ | apply Drawn0.step)⟩
                    · rw [if_neg c12] at H
                      have c12b0 : ((wrap64 (Go.bits .and .u8 (rd l0 0) 31)) == 24) = false := beq_eq_false_iff_ne.mpr c12
                      have c12b1 : ((wrap64 (Go.bits .and .u8 (rd l0 0) 31)) != 24) = true := bne_iff_ne.mpr c12
                      have H' := Aside0.mk H
                      clear H
                      go_wp2
                      repeat (go_quiet (fail); try go_wp2)
                      go_meet
                      case rel => exact ⟨_, H', ⟨by have := HJ5.out; first | omega | exact Nat.le_refl _⟩, by repeat (first | exact Drawn0.refl _ | apply Drawn0.step)⟩
                  · rw [if_neg c11] at H
                    have c11b0 : ((wrap64 ((rd l0 0) / 32)) == 7) = false := beq_eq_false_iff_ne.mpr c11
                    have c11b1 : ((wrap64 ((rd l0 0) / 32)) != 7) = true := bne_iff_ne.mpr c11
                    have H' := Aside0.mk H
                    clear H
                    go_wp2
                    repeat (go_quiet (fail); try go_wp2)
                    go_meet
                    case rel => exact ⟨_, H', ⟨by have := HJ5.out; first | omega | exact Nat.le_refl _⟩, by repeat (first | exact Drawn0.refl _ | apply Drawn0.step)⟩
      case rest =>
        clear HC4
        try clear c1
        try clear p1
        try clear q1
        try clear hx1
        try clear qi1
        try clear c2
        try clear c2b0
        try clear c2b1
        try clear c2b2
        try clear p2
        try clear c3
        try clear c3b0
        try clear c3b1
        try clear c5
        try clear c5b0
        try clear p6
        try clear c7
        try clear c7b0
        try clear c7b1
        try clear c8
        try clear c8b0
        try clear c9
        try clear c10
        try clear c10b0
        try clear c11
        try clear c11b0
        try clear c11b1
        try clear c12
        try clear c12b0
        try clear c12b1
        try clear p12
        try clear q12
        try clear hx12
        try clear qi12
        try clear c13
        try clear c13b0
        try clear c13b1
        try clear p13
        try clear q13
        try clear hx13
        try clear qi13
        try clear c14
        try clear c14b0
        try clear c14b1
        try clear c15
        try clear c15b0
        try clear hx128_0
        try clear hx129_0
        try clear hx130_0
        try clear p1
        try clear p128
        try clear p129
        try clear p130
        try clear p2
        try clear p6
        try clear q1
        try clear q128
        try clear q129
        try clear q130
        obtain ⟨kq, HA, HJ3, ⟨mc3, rfl⟩⟩ := hcut
        cases kq with
        | zero => exact absurd HA.out (by simp [head_Get.j1])
        | succ kj3 =>
          have H := HA.out
          clear HA
          simp only [head_Get.j1] at H
          obtain ⟨ji16, hji16⟩ : ∃ j_ : Int, (wrap64 ((wrap64 (Go.bits .and .u8 (rd l0 0) 31)) - 24)) = j_ := ⟨_, rfl⟩
          replace H : (if 0 ≤ (ji16) then (if (l0.length : Int) ≤ (shl .i64 1 (ji16)) then (some (0, 0, 0, (l0.length : Int), 3)) else (if 1 ≤ (wrap64 ((shl .i64 1 (ji16)) + 1)) then (if (wrap64 ((shl .i64 1 (ji16)) + 1)) ≤ (l0.length : Int) then (head_Get.l0 kj3 (wrap64 ((rd l0 0) / 32)) (wrap64 (Go.bits .and .u8 (rd l0 0) 31)) (shl .i64 1 (ji16)) 0 ((l0.take ((wrap64 ((shl .i64 1 (ji16)) + 1)) : Int).toNat).drop 1) (((l0.take ((wrap64 ((shl .i64 1 (ji16)) + 1)) : Int).toNat).drop 1).length : Int) 0) else (none)) else (none))) else (none)) = some (r1, r2, r3, r4, r5) := by first | (rw [hji16] at H; exact H) | (simp only [hji16] at H ⊢; exact H)
          have hji16w : (IntKind.i64.wrap ((wrap64 (Go.bits .and .u8 (rd l0 0) 31)) - 24)) = ji16 := (i64_w _).trans hji16
          by_cases c17 : 0 ≤ (ji16)
          · rw [if_pos c17] at H
            have c17b0 := eq_true c17
            have c17b1 : decide (0 ≤ (ji16)) = true := decide_eq_true c17
            clear c17
            obtain ⟨ji18, hji18⟩ : ∃ j_ : Int, (shl .i64 1 (ji16)) = j_ := ⟨_, rfl⟩
            replace H : (if (l0.length : Int) ≤ (ji18) then (some (0, 0, 0, (l0.length : Int), 3)) else (if 1 ≤ (wrap64 ((ji18) + 1)) then (if (wrap64 ((ji18) + 1)) ≤ (l0.length : Int) then (head_Get.l0 kj3 (wrap64 ((rd l0 0) / 32)) (wrap64 (Go.bits .and .u8 (rd l0 0) 31)) ji18 0 ((l0.take ((wrap64 ((ji18) + 1)) : Int).toNat).drop 1) (((l0.take ((wrap64 ((ji18) + 1)) : Int).toNat).drop 1).length : Int) 0) else (none)) else (none))) = some (r1, r2, r3, r4, r5) := by first | (rw [hji18] at H; exact H) | (simp only [hji18] at H ⊢; exact H)
            have hji18_ : (IntKind.i64.wrap (1 * 2 ^ min (ji16).toNat 64)) = ji18 := hji18
            have hji18z : (ji16) ≤ 64 → (IntKind.i64.wrap (1 * 2 ^ (ji16).toNat)) = ji18 := shl_small hji18
            have hji18u : (IntKind.i64.wrap (2 ^ min (ji16).toNat 64)) = ji18 := by have h_ := hji18_; rw [Int.one_mul] at h_; exact h_
            have hji18v : (ji16) ≤ 64 → (IntKind.i64.wrap (2 ^ (ji16).toNat)) = ji18 := fun hle_ => by have h_ := hji18z hle_; rw [Int.one_mul] at h_; exact h_
            have hji18y : (wrap64 (1 * 2 ^ min (ji16).toNat 64)) = ji18 := (i64_w _).symm.trans hji18_
            have hji18x : (ji16) ≤ 64 → (wrap64 (1 * 2 ^ (ji16).toNat)) = ji18 := fun h_ => (i64_w _).symm.trans (hji18z h_)
            by_cases c19 : (l0.length : Int) ≤ (ji18)
            · rw [if_pos c19] at H
              have c19b0 : decide ((l0.length : Int) ≤ (ji18)) = true := decide_eq_true c19
              clear c19
              simp only [Option.some.injEq, Prod.mk.injEq] at H
              obtain ⟨rfl, rfl, rfl, rfl, rfl⟩ := H
              go_wp2
              repeat (go_quiet (fail); try go_wp2)
              refine bodyPost_ret (results_list (rs := [.tmp 2, .tmp 3, .tmp 4, .tmp 5, .tmp 6]) rfl (by simp) (.tmp (.tmp (.tmp (.tmp (.tmp .nil)))))) rfl ?_
              exact ⟨by first | rfl | (simp; done) | (simp only [← hji16, ← hji18] <;> (first | rfl | simp)) | (simp [*]; done), by repeat (first | exact Drawn0.refl _ | apply Drawn0.step)⟩
            · rw [if_neg c19] at H
              have c19b0 : decide ((l0.length : Int) ≤ (ji18)) = false := decide_eq_false c19
              clear c19
              by_cases c20 : 1 ≤ (wrap64 ((ji18) + 1))
              · rw [if_pos c20] at H
                have c20b0 := eq_true c20
                have c20b1 : decide (1 ≤ (wrap64 ((ji18) + 1))) = true := decide_eq_true c20
                by_cases c21 : (wrap64 ((ji18) + 1)) ≤ (l0.length : Int)
                · rw [if_pos c21] at H
                  have c21b0 := eq_true c21
                  have c21b1 : decide ((wrap64 ((ji18) + 1)) ≤ (l0.length : Int)) = true := decide_eq_true c21
                  have H' := Aside0.mk H
                  clear H
                  obtain ⟨i022, hi022, _, hsz22, _⟩ := info_parts info5
                  obtain ⟨A22, hcut22, hA22, hC22⟩ := print_mid_of (P := Try.prog) (Value.int .u8) 0 23 5 .i64 .i64 Try.underlying23 hi022 hsz22 (some ad128) c0 l0 1 (wrap64 ((ji18) + 1)) (by omega) (by first | omega | exact of_decide_eq_true (by first | (with_reducible assumption) | assumption)) (of_decide_eq_true (by first | (with_reducible assumption) | assumption)) HC0.out
                  have HR131 := Aside0.mk (Kd.C_of_reads (h1 := fun _ => rfl) (hA22 _ (Kd.reads_of_C HR0.out)))
                  have HC131 := Aside0.mk hC22
                  clear hA22 hC22 hi022 hsz22
                  (try simp only [Int.reduceToNat] at hcut22)
                  (try simp only [Int.reduceToNat] at HR131)
                  (try simp only [Int.reduceToNat] at HC131)
                  (try have HL131 := Aside0.mk (show ((l0.take ((wrap64 ((ji18) + 1)) : Int).toNat).drop 1).length = ((wrap64 ((ji18) + 1)).toNat - 1) from (by rw [List.length_drop, List.length_take]; have h_ : ((wrap64 ((ji18) + 1)) : Int) ≤ (l0.length : Int) := of_decide_eq_true (by first | (with_reducible assumption) | assumption); omega)))
                  go_wp2
                  repeat (go_quiet (fail); try go_wp2)
                  go_loopg [10, 81] kj3 (fun kq v10 v81 w' => ∃ (x10_2 : Int) (x81_2 : Int), v10 = .int .u64 x10_2 ∧ v81 = .int .i64 x81_2 ∧ Aside0 (head_Get.l0 kq (wrap64 ((rd l0 0) / 32)) (wrap64 (Go.bits .and .u8 (rd l0 0) 31)) ji18 x10_2 ((l0.take ((wrap64 ((ji18) + 1)) : Int).toNat).drop 1) (((l0.take ((wrap64 ((ji18) + 1)) : Int).toNat).drop 1).length : Int) x81_2 = some (r1, r2, r3, r4, r5)) ∧ Aside0 (kq ≤ kj3) ∧ Drawn0 w w')
                  case atStart => exact ⟨(0), (0), (by first | rfl | (simp; done) | (simp [*]; done)), (by first | rfl | (simp; done) | (simp [*]; done)), H', ⟨Nat.le_refl _⟩, by repeat (first | exact Drawn0.refl _ | apply Drawn0.step)⟩
                  case round =>
                    clear H'
                    try clear c1
                    try clear p1
                    try clear q1
                    try clear hx1
                    try clear qi1
                    try clear c2
                    try clear c2b0
                    try clear c2b1
                    try clear c2b2
                    try clear p2
                    try clear c3
                    try clear c3b0
                    try clear c3b1
                    try clear c5
                    try clear c5b0
                    try clear p6
                    try clear c7
                    try clear c7b0
                    try clear c7b1
                    try clear c8
                    try clear c8b0
                    try clear c9
                    try clear c10
                    try clear c10b0
                    try clear c11
                    try clear c11b0
                    try clear c11b1
                    try clear c12
                    try clear c12b0
                    try clear c12b1
                    try clear p12
                    try clear q12
                    try clear hx12
                    try clear qi12
                    try clear c13
                    try clear c13b0
                    try clear c13b1
                    try clear p13
                    try clear q13
                    try clear hx13
                    try clear qi13
                    try clear c14
                    try clear c14b0
                    try clear c14b1
                    try clear c15
                    try clear c15b0
                    try clear c17
                    try clear c17b0
                    try clear c17b1
                    try clear c19
                    try clear c19b0
                    try clear c20
                    try clear c20b0
                    try clear c20b1
                    try clear c21
                    try clear c21b0
                    try clear c21b1
                    try clear hx128_0
                    try clear hx129_0
                    try clear hx130_0
                    try clear p1
                    try clear p12
                    try clear p128
                    try clear p129
                    try clear p13
                    try clear p130
                    try clear p2
                    try clear p6
                    try clear q1
                    try clear q12
                    try clear q128
                    try clear q129
                    try clear q13
                    try clear q130
                    obtain ⟨x10_2, x81_2, rfl, rfl, HA, HK2, ⟨m2, rfl⟩⟩ := hrel
                    cases gk with
                    | zero => exact absurd HA.out (by simp [head_Get.l0])
                    | succ k2 =>
                      have H := HA.out
                      clear HA
                      simp only [head_Get.l0] at H
                      by_cases c23 : x81_2 < (((l0.take ((wrap64 ((ji18) + 1)) : Int).toNat).drop 1).length : Int)
                      · rw [if_pos c23] at H
                        have c23b0 : decide (x81_2 < (((l0.take ((wrap64 ((ji18) + 1)) : Int).toNat).drop 1).length : Int)) = true := decide_eq_true c23
                        (try (have c23w0 := c23b0; rw [HL131.out] at c23w0))
                        clear c23
                        by_cases c24 : 0 ≤ x81_2
                        · rw [if_pos c24] at H
                          have c24b0 : decide (0 ≤ x81_2) = true := decide_eq_true c24
                          clear c24
                          by_cases c25 : x81_2 < (((l0.take ((wrap64 ((ji18) + 1)) : Int).toNat).drop 1).length : Int)
                          · rw [if_pos c25] at H
                            have c25b0 : decide (x81_2 < (((l0.take ((wrap64 ((ji18) + 1)) : Int).toNat).drop 1).length : Int)) = true := decide_eq_true c25
                            (try (have c25w0 := c25b0; rw [HL131.out] at c25w0))
                            clear c25
                            have H' := Aside0.mk H
                            clear H
                            have p132 : 0 ≤ (x81_2 : Int) := of_decide_eq_true (by first | (with_reducible assumption) | assumption)
                            have q132 : x81_2 < (((l0.take ((wrap64 ((ji18) + 1)) : Int).toNat).drop 1).length : Int) := of_decide_eq_true (by first | (with_reducible assumption) | assumption)
                            (try have qw132 : ((x81_2 : Int) < ((((wrap64 ((ji18) + 1)).toNat - 1) : Nat) : Int)) = True := eq_true (by have h_ := q132; rw [HL131.out] at h_; exact h_))
                            obtain ⟨ad132, e132, hx132_0⟩ := Kd.at_int HR131.out x81_2 p132 q132
                            cases e132
                            replace p132 := eq_true p132
                            replace q132 := eq_true q132
                            go_wp2
                            repeat (go_quiet (fail); try go_wp2)
                            go_roundg k2
                            case measure => have := HJ3.out; have := HK2.out; omega
                            case rel => exact ⟨(Go.bits .or .u64 (IntKind.u64.wrap (x10_2 * 256)) (IntKind.u64.wrap (rd ((l0.take ((wrap64 ((ji18) + 1)) : Int).toNat).drop 1) x81_2))), (wrap64 (x81_2 + 1)), (by first | rfl | (simp; done) | (simp only [← hji18] <;> (first | rfl | simp)) | (simp [*]; done)), (by first | rfl | (simp; done) | (simp [*]; done)), H', ⟨by have := HJ3.out; have := HK2.out; omega⟩, by repeat (first | exact Drawn0.refl _ | apply Drawn0.step)⟩
                          · rw [if_neg c25] at H
                            exact absurd H (by simp)
                        · rw [if_neg c24] at H
                          exact absurd H (by simp)
                      · rw [if_neg c23] at H
                        have c23b0 : decide (x81_2 < (((l0.take ((wrap64 ((ji18) + 1)) : Int).toNat).drop 1).length : Int)) = false := decide_eq_false c23
                        (try (have c23w0 := c23b0; rw [HL131.out] at c23w0))
                        clear c23
                        simp only [Option.some.injEq, Prod.mk.injEq] at H
                        obtain ⟨rfl, rfl, rfl, rfl, rfl⟩ := H
                        go_wp2
                        repeat (go_quiet (fail); try go_wp2)
                        refine bodyPost_ret (results_list (rs := [.tmp 2, .tmp 3, .tmp 4, .tmp 5, .tmp 6]) rfl (by simp) (.tmp (.tmp (.tmp (.tmp (.tmp .nil)))))) rfl ?_
                        exact ⟨by first | rfl | (simp; done) | (simp only [← hji16, ← hji18] <;> (first | rfl | simp)) | (simp [*]; done), by repeat (first | exact Drawn0.refl _ | apply Drawn0.step)⟩
                · rw [if_neg c21] at H
                  exact absurd H (by simp)
              · rw [if_neg c20] at H
                exact absurd H (by simp)
          · rw [if_neg c17] at H
            exact absurd H (by simp)
    · rw [if_neg c3] at H
      exact absurd H (by simp)

end Go.Proofs.Ytmpengjbjhladaa.PHeadBack
