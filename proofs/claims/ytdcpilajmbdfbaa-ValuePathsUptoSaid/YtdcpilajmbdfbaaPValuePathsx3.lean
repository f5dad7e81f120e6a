-- Written by a program of this session out of the kit's print (print.py, its switches or its text changed): not the kit's own print
import Derived.Test.YtdcpilajmbdfbaaPValuePathsx0
import Derived.Test.YtdcpilajmbdfbaaPValuePathsx1
import Derived.Test.YtdcpilajmbdfbaaPValuePathsx2
namespace Go.Proofs.Ytdcpilajmbdfbaa.PValuePaths
open Go.RowKit Go.Proofs.YtdcpilajmbdfbaaW.PrintWords Go.Proofs.YtdcpilajmbdfbaaW.PrintLast Go.Proofs.YtdcpilajmbdfbaaW.PrintMore
attribute [local go_sem] max2_int min2_int max_two min_two max_three min_three max_four min_four   -- for this text's walks alone
set_option linter.unusedVariables false
set_option linter.unusedSimpArgs false

/-! ### value_Check: function 13 (a text of this session) -/
def value_Check.f (k : Nat) (a0_0 : Int) (a0_1 : Bool) (a0_2 : Int) (a0_3 : ByteArray) (l0_4 : List (S25)) : Option (Int) :=
  (value_Depth.f k a0_0 a0_1 a0_2 a0_3 l0_4).bind fun d => (if dep25 ⟨a0_0, a0_1, a0_2, a0_3, l0_4⟩ + 1 ≤ 17592186044416 then (if 64 < d then some 2 else if 65536 < wrap64 (T25.nodes (dep25 ⟨a0_0, a0_1, a0_2, a0_3, l0_4⟩ + 1) [] ⟨a0_0, a0_1, a0_2, a0_3, l0_4⟩).length then some 2 else Each.chk T25 (fun y => value_One.f k y.f0 y.f1 y.f2 y.f3 y.f4) (fun y => value_Leaf.f y.f0 y.f1 y.f2 y.f3 y.f4) ((T25.nodes (dep25 ⟨a0_0, a0_1, a0_2, a0_3, l0_4⟩ + 1) [] ⟨a0_0, a0_1, a0_2, a0_3, l0_4⟩).map (·.2))) else (if 64 < d then some 2 else none))
theorem value_Check.mono : ∀ a0 a1 a2 a3 a4 k, LeO (value_Check.f k a0 a1 a2 a3 a4) (value_Check.f (k + 1) a0 a1 a2 a3 a4) := by
  intro a0 a1 a2 a3 a4 k
  unfold value_Check.f
  refine LeO.bind (value_Depth.mono _ _ _ _ _ k) fun d => ?_
  refine LeO.ite (LeO.ite (LeO.refl _) (LeO.ite (LeO.refl _) ?_)) (LeO.refl _)
  exact Each.chk_mono T25 _ _ _ (fun y => value_One.mono _ _ _ _ _ k) _
theorem value_Check.calls (k : Nat) (a0_0 : Int) (a0_1 : Bool) (a0_2 : Int) (a0_3 : ByteArray) (A0_4 : Option Addr) (c0_4 : Nat) (l0_4 : List (S25)) (r : Int) (w : World) (hr0_4 : Kd.C k25 w A0_4 l0_4.length l0_4) (hc0_4 : l0_4.length ≤ c0_4) (h : value_Check.f k a0_0 a0_1 a0_2 a0_3 l0_4 = some r) :
    Calls Try.prog 13 #[.agg #[.int .i64 a0_0, .bool a0_1, .int .u64 a0_2, .string a0_3, .slice A0_4 l0_4.length c0_4]] w fun e w' => e = .returned (.int .i64 r) ∧ Below w.heap.size w w' := by
  obtain ⟨d, hd, h⟩ := Option.bind_eq_some_iff.mp h
  have hdep : ∀ W, T25.D.K W ⟨a0_0, a0_1, a0_2, a0_3, l0_4⟩ [.int .i64 a0_0, .bool a0_1, .int .u64 a0_2, .string a0_3, .slice A0_4 l0_4.length c0_4] → Calls Try.prog 14 #[.agg #[.int .i64 a0_0, .bool a0_1, .int .u64 a0_2, .string a0_3, .slice A0_4 l0_4.length c0_4]] W fun e W' => e = .returned (.int .i64 d) ∧ Below W.heap.size W W' := fun W hW => by
    obtain ⟨A4, c4, he, l4, g4⟩ := k25_open hW
    have he4 : Value.slice A0_4 l0_4.length c0_4 = Value.slice A4 l0_4.length c4 := by simpa using he
    injection he4 with e1 e2 e3
    subst e1; subst e3
    exact value_Depth.calls k a0_0 a0_1 a0_2 a0_3 A0_4 c0_4 l0_4 d W g4 l4 hd
  have hK := k25_mk w ⟨a0_0, a0_1, a0_2, a0_3, l0_4⟩ hc0_4 hr0_4
  by_cases hl : dep25 ⟨a0_0, a0_1, a0_2, a0_3, l0_4⟩ + 1 ≤ 17592186044416
  · rw [if_pos hl] at h
    refine Each.check_calls T25 ⟨a0_0, a0_1, a0_2, a0_3, l0_4⟩ _ w hK hl d r _ _ hdep (fun y cs b W hy hb => ?_) (fun y cs b W hy hb => ?_) h
    · obtain ⟨A4, c4, rfl, l4, g4⟩ := k25_open hy
      exact value_One.calls k y.f0 y.f1 y.f2 y.f3 A4 c4 y.f4 b W g4 l4 hb
    · obtain ⟨A4, c4, rfl, l4, g4⟩ := k25_open hy
      exact value_Leaf.calls y.f0 y.f1 y.f2 y.f3 A4 c4 y.f4 b W g4 l4 hb
  · rw [if_neg hl] at h
    by_cases hd64 : 64 < d
    · rw [if_pos hd64] at h
      obtain rfl := Option.some.inj h
      exact Each.check_deep T25 ⟨a0_0, a0_1, a0_2, a0_3, l0_4⟩ _ w hK d hd64 hdep
    · rw [if_neg hd64] at h
      cases h

/-! ### value_Paths: function 22 (a text of this session) -/
def value_Paths.f (a0_0 : Int) (a0_1 : Bool) (a0_2 : Int) (a0_3 : ByteArray) (l0_4 : List (S25)) : Option (List (List Int)) :=
  if dep25 ⟨a0_0, a0_1, a0_2, a0_3, l0_4⟩ + 1 ≤ 17592186044416 then some (((T25.nodes (dep25 ⟨a0_0, a0_1, a0_2, a0_3, l0_4⟩ + 1) [] ⟨a0_0, a0_1, a0_2, a0_3, l0_4⟩).map (·.1)).take 65536) else none
theorem value_Paths.calls (a0_0 : Int) (a0_1 : Bool) (a0_2 : Int) (a0_3 : ByteArray) (A0_4 : Option Addr) (c0_4 : Nat) (l0_4 : List (S25)) (r : List (List Int)) (w : World) (hr0_4 : Kd.C k25 w A0_4 l0_4.length l0_4) (hc0_4 : l0_4.length ≤ c0_4) (h : value_Paths.f a0_0 a0_1 a0_2 a0_3 l0_4 = some r) :
    Calls Try.prog 22 #[.agg #[.int .i64 a0_0, .bool a0_1, .int .u64 a0_2, .string a0_3, .slice A0_4 l0_4.length c0_4]] w fun e w' => ∃ v0_ : Value, e = .returned (v0_) ∧ Kd.R (Kd.slice 3 (Kd.int .i64)) 26 w' w.heap.size (fun _ => True) v0_ r ∧ Below w.heap.size w w' := by
  unfold value_Paths.f at h
  by_cases hl : dep25 ⟨a0_0, a0_1, a0_2, a0_3, l0_4⟩ + 1 ≤ 17592186044416
  · rw [if_pos hl] at h
    obtain rfl := Option.some.inj h
    exact Each.paths_calls T25 ⟨a0_0, a0_1, a0_2, a0_3, l0_4⟩ _ w (k25_mk w ⟨a0_0, a0_1, a0_2, a0_3, l0_4⟩ hc0_4 hr0_4) hl
  · rw [if_neg hl] at h
    cases h

/-! ### glossatorlaw08_ahead: function 24 -/
mutual
def glossatorlaw08_ahead.l0 : Nat → List Int → List Int → Int → Option (Bool)
  | 0, _, _, _ => none
  | k + 1, x0, x1, x5 => if x5 < (x0.length : Int) then (if x5 ≥ (x1.length : Int) then (glossatorlaw08_ahead.j1 k x0 x1 x5 true) else (if 0 ≤ x5 then (if x5 < (x1.length : Int) then (glossatorlaw08_ahead.j1 k x0 x1 x5 (decide ((rd x0 x5) > (rd x1 x5)))) else (none)) else (none))) else (some ((x1.length : Int) == (wrap64 ((x0.length : Int) + 1))))
def glossatorlaw08_ahead.j1 : Nat → List Int → List Int → Int → Bool → Option (Bool)
  | 0, _, _, _, _ => none
  | k + 1, x0, x1, x5, x26 => if x26 = true then (some false) else (if 0 ≤ x5 then (if x5 < (x0.length : Int) then (if x5 < (x1.length : Int) then (if (rd x0 x5) < (rd x1 x5) then (some true) else (glossatorlaw08_ahead.l0 k x0 x1 (wrap64 (x5 + 1)))) else (none)) else (none)) else (none))
end
def glossatorlaw08_ahead.f (k : Nat) (l0 : List Int) (l1 : List Int) : Option (Bool) := glossatorlaw08_ahead.l0 k l0 l1 0
theorem glossatorlaw08_ahead.mono_l : ∀ k, (∀ y0 y1 y2, LeO (glossatorlaw08_ahead.l0 k y0 y1 y2) (glossatorlaw08_ahead.l0 (k + 1) y0 y1 y2)) ∧ (∀ y0 y1 y2 y3, LeO (glossatorlaw08_ahead.j1 k y0 y1 y2 y3) (glossatorlaw08_ahead.j1 (k + 1) y0 y1 y2 y3))
  | 0 => ⟨fun _ _ _ r h => by simp [glossatorlaw08_ahead.l0] at h, fun _ _ _ _ r h => by simp [glossatorlaw08_ahead.j1] at h⟩
  | k + 1 => by
    obtain ⟨ih0, ih1⟩ := glossatorlaw08_ahead.mono_l k
    refine ⟨?_, ?_⟩
    · intro y0 y1 y2
      unfold glossatorlaw08_ahead.l0
      repeat' first
      | (with_reducible exact ih0 _ _ _)
      | (with_reducible exact ih1 _ _ _ _)
      | (with_reducible exact LeO.refl _)
      | (with_reducible exact LeO.none _)
      | (with_reducible refine LeO.ite ?_ ?_)
      | (with_reducible refine LeO.bind ?_ (fun _ => ?_))
      | exact ih0 _ _ _
      | exact ih1 _ _ _ _
      | exact LeO.none _
      | refine LeO.ite ?_ ?_
      | refine LeO.bind ?_ (fun _ => ?_)
    · intro y0 y1 y2 y3
      unfold glossatorlaw08_ahead.j1
      repeat' first
      | (with_reducible exact ih0 _ _ _)
      | (with_reducible exact ih1 _ _ _ _)
      | (with_reducible exact LeO.refl _)
      | (with_reducible exact LeO.none _)
      | (with_reducible refine LeO.ite ?_ ?_)
      | (with_reducible refine LeO.bind ?_ (fun _ => ?_))
      | exact ih0 _ _ _
      | exact ih1 _ _ _ _
      | exact LeO.none _
      | refine LeO.ite ?_ ?_
      | refine LeO.bind ?_ (fun _ => ?_)
theorem glossatorlaw08_ahead.mono : ∀ a0 a1 k, LeO (glossatorlaw08_ahead.f k a0 a1) (glossatorlaw08_ahead.f (k + 1) a0 a1) := by
  intro a0 a1 k
  obtain ⟨ih0, ih1⟩ := glossatorlaw08_ahead.mono_l k
  unfold glossatorlaw08_ahead.f
  repeat' first
      | (with_reducible exact ih0 _ _ _)
      | (with_reducible exact ih1 _ _ _ _)
      | (with_reducible exact LeO.refl _)
      | (with_reducible exact LeO.none _)
      | (with_reducible refine LeO.ite ?_ ?_)
      | (with_reducible refine LeO.bind ?_ (fun _ => ?_))
      | exact ih0 _ _ _
      | exact ih1 _ _ _ _
      | exact LeO.none _
      | refine LeO.ite ?_ ?_
      | refine LeO.bind ?_ (fun _ => ?_)
set_option maxHeartbeats 8000000 in
set_option maxRecDepth 100000 in
theorem glossatorlaw08_ahead.calls (k : Nat) (A0 : Option Addr) (c0 : Nat) (l0 : List Int) (A1 : Option Addr) (c1 : Nat) (l1 : List Int) (r : Bool) (w : World) (hr0 : Kd.C (Kd.int .i64) w A0 l0.length l0) (hc0 : l0.length ≤ c0) (hr1 : Kd.C (Kd.int .i64) w A1 l1.length l1) (hc1 : l1.length ≤ c1) (h : glossatorlaw08_ahead.f k l0 l1 = some r) :
    Calls Try.prog 24 #[.slice A0 l0.length c0, .slice A1 l1.length c1] w fun e w' => e = .returned (.bool r) ∧ Drawn0 w w' := by
  have HR0 := Aside0.mk hr0
  have HC0 := Aside0.mk hc0
  clear hr0 hc0
  have HR1 := Aside0.mk hr1
  have HC1 := Aside0.mk hc1
  clear hr1 hc1
  have H : (glossatorlaw08_ahead.l0 k l0 l1 0) = some r := h
  clear h
  have H' := Aside0.mk H
  clear H
  go_enter Try.func24, Try.ntmps24
  go_wp2
  repeat (go_quiet (fail); try go_wp2)
  go_loopg [5] k (fun kq v5 w' => ∃ (x5_1 : Int), v5 = .int .i64 x5_1 ∧ Aside0 (glossatorlaw08_ahead.l0 kq l0 l1 x5_1 = some r) ∧ Aside0 (kq ≤ k) ∧ Drawn0 w w')
  case atStart => exact ⟨(0), (by first | rfl | (simp; done) | (simp [*]; done) | (simp [*] <;> decide +kernel)), H', ⟨Nat.le_refl _⟩, by repeat (first | exact Drawn0.refl _ | apply Drawn0.step)⟩
  case round =>
    clear H'
    try clear c1
    try clear c2
    try clear p2
    obtain ⟨x5_1, rfl, HA, HK1, ⟨m1, rfl⟩⟩ := hrel
    cases gk with
    | zero => exact absurd HA.out (by simp [glossatorlaw08_ahead.l0])
    | succ k1 =>
      have H := HA.out
      clear HA
      simp only [glossatorlaw08_ahead.l0] at H
      by_cases c3 : x5_1 < (l0.length : Int)
      · rw [if_pos c3] at H
        have c3b0 : decide (x5_1 < (l0.length : Int)) = true := decide_eq_true c3
        clear c3
        have HC4 := Aside0.mk H
        clear H
        go_upto_region 4 with (fail)
        repeat (go_quiet (fail); go_upto_region 4 with (fail))
        go_cut [26] (fun v26 wc => ∃ (kq : Nat) (x26_3 : Bool), v26 = .bool x26_3 ∧ Aside0 (glossatorlaw08_ahead.j1 kq l0 l1 x5_1 x26_3 = some r) ∧ Aside0 (kq ≤ k1) ∧ Drawn0 w wc)
        case first =>
          have H := HC4.out
          clear HC4
          by_cases c5 : x5_1 ≥ (l1.length : Int)
          · rw [if_pos c5] at H
            have c5b0 : decide ((l1.length : Int) ≤ x5_1) = true := decide_eq_true c5
            clear c5
            (first | rw [c5b0] | (simp only [i64_w, i32_w]; rw [c5b0]) | skip)
            have H' := Aside0.mk H
            clear H
            go_wp2
            repeat (go_quiet (fail); try go_wp2)
            go_meet
            case rel => exact ⟨_, (true), (by first | rfl | (simp; done) | (simp [*]; done) | (simp [*] <;> decide +kernel)), H', ⟨by have := HK1.out; first | omega | exact Nat.le_refl _⟩, by repeat (first | exact Drawn0.refl _ | apply Drawn0.step)⟩
          · rw [if_neg c5] at H
            have c5b0 : decide ((l1.length : Int) ≤ x5_1) = false := decide_eq_false c5
            clear c5
            (first | rw [c5b0] | (simp only [i64_w, i32_w]; rw [c5b0]) | skip)
            by_cases c6 : 0 ≤ x5_1
            · rw [if_pos c6] at H
              have c6b0 : decide (0 ≤ x5_1) = true := decide_eq_true c6
              clear c6
              by_cases c7 : x5_1 < (l1.length : Int)
              · rw [if_pos c7] at H
                have c7b0 : decide (x5_1 < (l1.length : Int)) = true := decide_eq_true c7
                clear c7
                have H' := Aside0.mk H
                clear H
                have p120 : 0 ≤ (x5_1 : Int) := of_decide_eq_true (by first | (with_reducible assumption) | assumption)
                have q120 : x5_1 < (l0.length : Int) := of_decide_eq_true (by first | (with_reducible assumption) | assumption)
                obtain ⟨ad120, e120, hx120_0⟩ := Kd.at_int HR0.out x5_1 p120 q120
                cases e120
                replace p120 := eq_true p120
                replace q120 := eq_true q120
                have p121 : 0 ≤ (x5_1 : Int) := of_decide_eq_true (by first | (with_reducible assumption) | assumption)
                have q121 : x5_1 < (l1.length : Int) := of_decide_eq_true (by first | (with_reducible assumption) | assumption)
                obtain ⟨ad121, e121, hx121_0⟩ := Kd.at_int HR1.out x5_1 p121 q121
                cases e121
                replace p121 := eq_true p121
                replace q121 := eq_true q121
                go_wp2
                repeat (go_quiet (fail); try go_wp2)
                go_meet
                case rel => exact ⟨_, (decide ((rd l0 x5_1) > (rd l1 x5_1))), (by first | rfl | (simp; done) | (simp [*]; done) | (simp [*] <;> decide +kernel)), H', ⟨by have := HK1.out; first | omega | exact Nat.le_refl _⟩, by repeat (first | exact Drawn0.refl _ | apply Drawn0.step)⟩
              · rw [if_neg c7] at H
                exact absurd H (by simp)
            · rw [if_neg c6] at H
              exact absurd H (by simp)
        case rest =>
          clear HC4
          try clear c1
          try clear p1
          try clear q1
          try clear hx1
          try clear c2
          try clear p2
          try clear c3
          try clear c3b0
          try clear c5
          try clear c5b0
          try clear c6
          try clear c6b0
          try clear c7
          try clear c7b0
          try clear hx120_0
          try clear hx121_0
          try clear p120
          try clear p121
          try clear p2
          try clear q120
          try clear q121
          obtain ⟨kq, x26_3, rfl, HA, HJ3, ⟨mc3, rfl⟩⟩ := hcut
          cases kq with
          | zero => exact absurd HA.out (by simp [glossatorlaw08_ahead.j1])
          | succ kj3 =>
            have H := HA.out
            clear HA
            simp only [glossatorlaw08_ahead.j1] at H
            by_cases c8 : x26_3 = true
            · subst c8
              have H1 : (some false) = some r := by rw [if_pos rfl] at H; exact H
              clear H
              have H := H1
              clear H1
              obtain rfl := Option.some.inj H
              go_wp2
              repeat (go_quiet (fail); try go_wp2)
              go_ret
              exact ⟨by first | rfl | (simp; done) | (simp [*]; done), by repeat (first | exact Drawn0.refl _ | apply Drawn0.step)⟩
            · replace c8 := Bool.eq_false_iff.mpr c8
              subst c8
              have H1 : (if 0 ≤ x5_1 then (if x5_1 < (l0.length : Int) then (if x5_1 < (l1.length : Int) then (if (rd l0 x5_1) < (rd l1 x5_1) then (some true) else (glossatorlaw08_ahead.l0 kj3 l0 l1 (wrap64 (x5_1 + 1)))) else (none)) else (none)) else (none)) = some r := by rw [if_neg (show ¬ (false = true) by decide)] at H; exact H
              clear H
              have H := H1
              clear H1
              by_cases c9 : 0 ≤ x5_1
              · rw [if_pos c9] at H
                have c9b0 : decide (0 ≤ x5_1) = true := decide_eq_true c9
                clear c9
                by_cases c10 : x5_1 < (l0.length : Int)
                · rw [if_pos c10] at H
                  have c10b0 : decide (x5_1 < (l0.length : Int)) = true := decide_eq_true c10
                  clear c10
                  by_cases c11 : x5_1 < (l1.length : Int)
                  · rw [if_pos c11] at H
                    have c11b0 : decide (x5_1 < (l1.length : Int)) = true := decide_eq_true c11
                    clear c11
                    by_cases c12 : (rd l0 x5_1) < (rd l1 x5_1)
                    · rw [if_pos c12] at H
                      have c12b0 : decide ((rd l0 x5_1) < (rd l1 x5_1)) = true := decide_eq_true c12
                      clear c12
                      obtain rfl := Option.some.inj H
                      have p122 : 0 ≤ (x5_1 : Int) := of_decide_eq_true (by first | (with_reducible assumption) | assumption)
                      have q122 : x5_1 < (l0.length : Int) := of_decide_eq_true (by first | (with_reducible assumption) | assumption)
                      obtain ⟨ad122, e122, hx122_0⟩ := Kd.at_int HR0.out x5_1 p122 q122
                      cases e122
                      replace p122 := eq_true p122
                      replace q122 := eq_true q122
                      have p123 : 0 ≤ (x5_1 : Int) := of_decide_eq_true (by first | (with_reducible assumption) | assumption)
                      have q123 : x5_1 < (l1.length : Int) := of_decide_eq_true (by first | (with_reducible assumption) | assumption)
                      obtain ⟨ad123, e123, hx123_0⟩ := Kd.at_int HR1.out x5_1 p123 q123
                      cases e123
                      replace p123 := eq_true p123
                      replace q123 := eq_true q123
                      go_wp2
                      repeat (go_quiet (fail); try go_wp2)
                      go_ret
                      exact ⟨by first | rfl | (simp; done) | (simp [*]; done), by repeat (first | exact Drawn0.refl _ | apply Drawn0.step)⟩
                    · rw [if_neg c12] at H
                      have c12b0 : decide ((rd l0 x5_1) < (rd l1 x5_1)) = false := decide_eq_false c12
                      clear c12
                      have H' := Aside0.mk H
                      clear H
                      have p122 : 0 ≤ (x5_1 : Int) := of_decide_eq_true (by first | (with_reducible assumption) | assumption)
                      have q122 : x5_1 < (l0.length : Int) := of_decide_eq_true (by first | (with_reducible assumption) | assumption)
                      obtain ⟨ad122, e122, hx122_0⟩ := Kd.at_int HR0.out x5_1 p122 q122
                      cases e122
                      replace p122 := eq_true p122
                      replace q122 := eq_true q122
                      have p123 : 0 ≤ (x5_1 : Int) := of_decide_eq_true (by first | (with_reducible assumption) | assumption)
                      have q123 : x5_1 < (l1.length : Int) := of_decide_eq_true (by first | (with_reducible assumption) | assumption)
                      obtain ⟨ad123, e123, hx123_0⟩ := Kd.at_int HR1.out x5_1 p123 q123
                      cases e123
                      replace p123 := eq_true p123
                      replace q123 := eq_true q123
                      go_wp2
                      repeat (go_quiet (fail); try go_wp2)
                      go_roundg kj3
                      case measure => have := HK1.out; have := HJ3.out; omega
                      case rel => exact ⟨(wrap64 (x5_1 + 1)), (by first | rfl | (simp; done) | (simp [*]; done) | (simp [*] <;> decide +kernel)), H', ⟨by have := HK1.out; have := HJ3.out; omega⟩, by repeat (first | exact Drawn0.refl _ | apply Drawn0.step)⟩
                  · rw [if_neg c11] at H
                    exact absurd H (by simp)
                · rw [if_neg c10] at H
                  exact absurd H (by simp)
              · rw [if_neg c9] at H
                exact absurd H (by simp)
      · rw [if_neg c3] at H
        have c3b0 : decide (x5_1 < (l0.length : Int)) = false := decide_eq_false c3
        clear c3
        obtain rfl := Option.some.inj H
        go_wp2
        repeat (go_quiet (fail); try go_wp2)
        go_ret
        exact ⟨by first | rfl | (simp; done) | (simp [*]; done), by repeat (first | exact Drawn0.refl _ | apply Drawn0.step)⟩

end Go.Proofs.Ytdcpilajmbdfbaa.PValuePaths
