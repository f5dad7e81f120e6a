-- Out of texts of this seat by a program of this session: what the claim does not reach is struck
import Derived.Test.YtcgpfclmcajekaaZPEventBackx0
import Derived.Test.YtcgpfclmcajekaaZPEventBackx1
import Derived.Test.YtcgpfclmcajekaaZPEventBackx2
import Derived.Test.YtcgpfclmcajekaaZPEventBackx3
namespace Go.Proofs.Ytcgpfclmcajekaa.PEventBack
open Go.RowKit Go.Proofs.YtcgpfclmcajekaaW.PrintWords Go.Proofs.YtcgpfclmcajekaaW.PrintLast Go.Proofs.YtcgpfclmcajekaaW.PrintMore
attribute [local go_sem] max2_int min2_int max_two min_two max_three min_three max_four min_four
set_option linter.unusedVariables false
set_option linter.unusedSimpArgs false
attribute [local go_sem high] eqA37
def value_Check.f (k : Nat) (a0_0 : Int) (a0_1 : Bool) (a0_2 : Int) (a0_3 : ByteArray) (l0_4 : List (S25)) : Option (Int) :=
  (value_Depth.f k a0_0 a0_1 a0_2 a0_3 l0_4).bind fun d => (if dep25 ⟨a0_0, a0_1, a0_2, a0_3, l0_4⟩ + 1 ≤ 17592186044416 then (if 64 < d then some 2 else if 65536 < wrap64 (T25.nodes (dep25 ⟨a0_0, a0_1, a0_2, a0_3, l0_4⟩ + 1) [] ⟨a0_0, a0_1, a0_2, a0_3, l0_4⟩).length then some 2 else Each.chk T25 (fun y => value_One.f k y.f0 y.f1 y.f2 y.f3 y.f4) (fun y => value_Leaf.f y.f0 y.f1 y.f2 y.f3 y.f4) ((T25.nodes (dep25 ⟨a0_0, a0_1, a0_2, a0_3, l0_4⟩ + 1) [] ⟨a0_0, a0_1, a0_2, a0_3, l0_4⟩).map (·.2))) else (if 64 < d then some 2 else none))
theorem value_Check.mono : ∀ a0 a1 a2 a3 a4 k, LeO (value_Check.f k a0 a1 a2 a3 a4) (value_Check.f (k + 1) a0 a1 a2 a3 a4) := by
  intro a0 a1 a2 a3 a4 k
  unfold value_Check.f
  refine LeO.bind (value_Depth.mono _ _ _ _ _ k) fun d => ?_
  refine LeO.ite (LeO.ite (LeO.refl _) (LeO.ite (LeO.refl _) ?_)) (LeO.refl _)
  exact Each.chk_mono T25 _ _ _ (fun y => value_One.mono _ _ _ _ _ k) _
theorem value_Check.calls (k : Nat) (a0_0 : Int) (a0_1 : Bool) (a0_2 : Int) (a0_3 : ByteArray) (A0_4 : Option Addr) (c0_4 : Nat) (l0_4 : List (S25)) (r : Int) (w : World) (hr0_4 : Kd.C k25 w A0_4 l0_4.length l0_4) (hc0_4 : l0_4.length ≤ c0_4) (h : value_Check.f k a0_0 a0_1 a0_2 a0_3 l0_4 = some r) :
    Calls Try.prog 14 #[.agg #[.int .i64 a0_0, .bool a0_1, .int .u64 a0_2, .string a0_3, .slice A0_4 l0_4.length c0_4]] w fun e w' => e = .returned (.int .i64 r) ∧ Below w.heap.size w w' := by
  obtain ⟨d, hd, h⟩ := Option.bind_eq_some_iff.mp h
  have hdep : ∀ W, T25.D.K W ⟨a0_0, a0_1, a0_2, a0_3, l0_4⟩ [.int .i64 a0_0, .bool a0_1, .int .u64 a0_2, .string a0_3, .slice A0_4 l0_4.length c0_4] → Calls Try.prog 16 #[.agg #[.int .i64 a0_0, .bool a0_1, .int .u64 a0_2, .string a0_3, .slice A0_4 l0_4.length c0_4]] W fun e W' => e = .returned (.int .i64 d) ∧ Below W.heap.size W W' := fun W hW => by
    obtain ⟨A4, c4, he, l4, g4⟩ := k25_open hW
    have he4 : Value.slice A0_4 l0_4.length c0_4 = Value.slice A4 l0_4.length c4 := by simpa using he
    injection he4 with e1 e2 e3
    subst e1; subst e3
    exact value_Depth.calls k a0_0 a0_1 a0_2 a0_3 A0_4 c0_4 l0_4 d W g4 l4 hd
  have hK := k25_mk w ⟨a0_0, a0_1, a0_2, a0_3, l0_4⟩ hc0_4 hr0_4
  by_cases hl : dep25 ⟨a0_0, a0_1, a0_2, a0_3, l0_4⟩ + 1 ≤ 17592186044416
  · rw [if_pos hl] at h
    refine Each.check_calls T25 ⟨a0_0, a0_1, a0_2, a0_3, l0_4⟩ _ w hK hl d r _ _ hdep (fun y cs b W hy hb => ?_) (fun y cs b W hy hb => ?_) h
    · obtain ⟨A4, c4, rfl, l4, g4⟩ := k25_open hy
      exact value_One.calls k y.f0 y.f1 y.f2 y.f3 A4 c4 y.f4 b W g4 l4 hb
    · obtain ⟨A4, c4, rfl, l4, g4⟩ := k25_open hy
      exact value_Leaf.calls y.f0 y.f1 y.f2 y.f3 A4 c4 y.f4 b W g4 l4 hb
  · rw [if_neg hl] at h
    by_cases hd64 : 64 < d
    · rw [if_pos hd64] at h
      obtain rfl := Option.some.inj h
      exact Each.check_deep T25 ⟨a0_0, a0_1, a0_2, a0_3, l0_4⟩ _ w hK d hd64 hdep
    · rw [if_neg hd64] at h
      cases h
def V37 : Each.EvK S37 where
  D := k37
  ev := fun a b c d => ⟨a, b, c, d⟩
  size4 := rfl
  bare := rfl
  M_mk := fun w base ok a b c d => k37_mkM w base ok ⟨a, b, c, d⟩
def event_Events.f (k : Nat) (a0_0 : Int) (a0_1 : Bool) (a0_2 : Int) (a0_3 : ByteArray) (l0_4 : List (S25)) : Option (List (S37) × Int) :=
  (value_Check.f k a0_0 a0_1 a0_2 a0_3 l0_4).bind fun c => (if (Each.evs T25 V37 (dep25 ⟨a0_0, a0_1, a0_2, a0_3, l0_4⟩ + 1) ⟨a0_0, a0_1, a0_2, a0_3, l0_4⟩).length ≤ 4194304 then some (if c = 0 then Each.evs T25 V37 (dep25 ⟨a0_0, a0_1, a0_2, a0_3, l0_4⟩ + 1) ⟨a0_0, a0_1, a0_2, a0_3, l0_4⟩ else [], c) else none)
theorem event_Events.mono : ∀ a0 a1 a2 a3 a4 k, LeO (event_Events.f k a0 a1 a2 a3 a4) (event_Events.f (k + 1) a0 a1 a2 a3 a4) := by
  intro a0 a1 a2 a3 a4 k
  unfold event_Events.f
  exact LeO.bind (value_Check.mono _ _ _ _ _ k) fun d => LeO.refl _
theorem event_Events.calls (k : Nat) (a0_0 : Int) (a0_1 : Bool) (a0_2 : Int) (a0_3 : ByteArray) (A0_4 : Option Addr) (c0_4 : Nat) (l0_4 : List (S25)) (r1 : List (S37)) (r2 : Int) (w : World) (hr0_4 : Kd.C k25 w A0_4 l0_4.length l0_4) (hc0_4 : l0_4.length ≤ c0_4) (h : event_Events.f k a0_0 a0_1 a0_2 a0_3 l0_4 = some (r1, r2)) :
    Calls Try.prog 10 #[.agg #[.int .i64 a0_0, .bool a0_1, .int .u64 a0_2, .string a0_3, .slice A0_4 l0_4.length c0_4]] w fun e w' => ∃ v0_ : Value, e = .returned (.tuple #[v0_, .int .i64 r2]) ∧ Kd.R k37 37 w' w.heap.size (fun _ => True) v0_ r1 ∧ Below w.heap.size w w' := by
  obtain ⟨c, hc, h⟩ := Option.bind_eq_some_iff.mp h
  by_cases hl : (Each.evs T25 V37 (dep25 ⟨a0_0, a0_1, a0_2, a0_3, l0_4⟩ + 1) ⟨a0_0, a0_1, a0_2, a0_3, l0_4⟩).length ≤ 4194304
  · rw [if_pos hl] at h
    have h2 := Option.some.inj h
    injection h2 with e1 e2
    subst e2
    rw [← e1]
    refine Each.events_calls T25 V37 ⟨a0_0, a0_1, a0_2, a0_3, l0_4⟩ _ w _ (Nat.lt_succ_self _) (k25_mk w ⟨a0_0, a0_1, a0_2, a0_3, l0_4⟩ hc0_4 hr0_4) _ hl (fun W hW => ?_)
    obtain ⟨A4, c4, he, l4, g4⟩ := k25_open hW
    have he4 : Value.slice A0_4 l0_4.length c0_4 = Value.slice A4 l0_4.length c4 := by simpa using he
    injection he4 with e1 e2 e3
    subst e1; subst e3
    exact value_Check.calls k a0_0 a0_1 a0_2 a0_3 A0_4 c0_4 l0_4 _ W g4 l4 hc
  · rw [if_neg hl] at h
    cases h
def glossatorlaw09_list.l0 : Nat → List (S37) → List (S37) → Int → Option (Bool)
  | 0, _, _, _ => none
  | k + 1, x0, x1, x5 => if x5 < (x0.length : Int) then (if 0 ≤ x5 then (if x5 < (x1.length : Int) then (if (!(((rd_T37 x0 x5).f0) == ((rd_T37 x1 x5).f0)) || (!(((rd_T37 x0 x5).f1) == ((rd_T37 x1 x5).f1)) || (!(((rd_T37 x0 x5).f2) == ((rd_T37 x1 x5).f2)) || (!((((rd_T37 x0 x5).f3).toList) == (((rd_T37 x1 x5).f3).toList)))))) = true then (some false) else (glossatorlaw09_list.l0 k x0 x1 (wrap64 (x5 + 1)))) else (none)) else (none)) else (some true)
def glossatorlaw09_list.f (k : Nat) (l0 : List (S37)) (l1 : List (S37)) : Option (Bool) := if (l0.length : Int) = (l1.length : Int) then (glossatorlaw09_list.l0 k l0 l1 0) else (some false)
theorem glossatorlaw09_list.mono_l : ∀ k, (∀ y0 y1 y2, LeO (glossatorlaw09_list.l0 k y0 y1 y2) (glossatorlaw09_list.l0 (k + 1) y0 y1 y2))
  | 0 => fun _ _ _ r h => by simp [glossatorlaw09_list.l0] at h
  | k + 1 => by
    have ih0 := glossatorlaw09_list.mono_l k
    · intro y0 y1 y2
      unfold glossatorlaw09_list.l0
      repeat' first
      | (with_reducible exact ih0 _ _ _)
      | (with_reducible exact LeO.refl _)
      | (with_reducible exact LeO.none _)
      | (with_reducible refine LeO.ite ?_ ?_)
      | (with_reducible refine LeO.bind ?_ (fun _ => ?_))
      | exact ih0 _ _ _
      | exact LeO.none _
      | refine LeO.ite ?_ ?_
      | refine LeO.bind ?_ (fun _ => ?_)
theorem glossatorlaw09_list.mono : ∀ a0 a1 k, LeO (glossatorlaw09_list.f k a0 a1) (glossatorlaw09_list.f (k + 1) a0 a1) := by
  intro a0 a1 k
  have ih0 := glossatorlaw09_list.mono_l k
  unfold glossatorlaw09_list.f
  repeat' first
      | (with_reducible exact ih0 _ _ _)
      | (with_reducible exact LeO.refl _)
      | (with_reducible exact LeO.none _)
      | (with_reducible refine LeO.ite ?_ ?_)
      | (with_reducible refine LeO.bind ?_ (fun _ => ?_))
      | exact ih0 _ _ _
      | exact LeO.none _
      | refine LeO.ite ?_ ?_
      | refine LeO.bind ?_ (fun _ => ?_)
set_option maxHeartbeats 8000000 in
set_option maxRecDepth 100000 in
theorem glossatorlaw09_list.calls (k : Nat) (A0 : Option Addr) (c0 : Nat) (l0 : List (S37)) (A1 : Option Addr) (c1 : Nat) (l1 : List (S37)) (r : Bool) (w : World) (hr0 : Kd.C k37 w A0 l0.length l0) (hc0 : l0.length ≤ c0) (hr1 : Kd.C k37 w A1 l1.length l1) (hc1 : l1.length ≤ c1) (h : glossatorlaw09_list.f k l0 l1 = some r) :
    Calls Try.prog 12 #[.slice A0 l0.length c0, .slice A1 l1.length c1] w fun e w' => e = .returned (.bool r) ∧ Drawn0 w w' := by
  have hu37 := Try.underlying37
  have HR0 := Aside0.mk hr0
  have HC0 := Aside0.mk hc0
  clear hr0 hc0
  have HR1 := Aside0.mk hr1
  have HC1 := Aside0.mk hc1
  clear hr1 hc1
  have H : (if (l0.length : Int) = (l1.length : Int) then (glossatorlaw09_list.l0 k l0 l1 0) else (some false)) = some r := h
  clear h
  by_cases c3 : (l0.length : Int) = (l1.length : Int)
  · rw [if_pos c3] at H
    have c3b0 : ((l0.length : Int) == (l1.length : Int)) = true := beq_iff_eq.mpr c3
    have c3b1 : ((l0.length : Int) != (l1.length : Int)) = false := bne_eq_false_iff_eq.mpr c3
    have c3b2 : (l0.length == l1.length) = true := by first | simpa using c3 | (simp at c3 ⊢; omega)
    clear c3
    have H' := Aside0.mk H
    clear H
    go_enter Try.func12, Try.ntmps12
    go_wp2
    repeat (go_quiet (fail); try go_wp2)
    go_loopg [5] k (fun kq v5 w' => ∃ (x5_1 : Int), v5 = .int .i64 x5_1 ∧ Aside0 (glossatorlaw09_list.l0 kq l0 l1 x5_1 = some r) ∧ Aside0 (kq ≤ k) ∧ Drawn0 w w')
    case atStart => exact ⟨(0), (by first | rfl | (simp; done) | (simp [*]; done) | (simp [*] <;> decide +kernel)), H', ⟨Nat.le_refl _⟩, by repeat (first | exact Drawn0.refl _ | apply Drawn0.step)⟩
    case round =>
      clear H'
      try clear c1
      try clear p2
      try clear c3
      try clear c3b0
      try clear c3b1
      try clear c3b2
      obtain ⟨x5_1, rfl, HA, HK1, ⟨m1, rfl⟩⟩ := hrel
      cases gk with
      | zero => exact absurd HA.out (by simp [glossatorlaw09_list.l0])
      | succ k1 =>
        have H := HA.out
        clear HA
        simp only [glossatorlaw09_list.l0] at H
        by_cases c4 : x5_1 < (l0.length : Int)
        · rw [if_pos c4] at H
          have c4b0 : decide (x5_1 < (l0.length : Int)) = true := decide_eq_true c4
          clear c4
          by_cases c5 : 0 ≤ x5_1
          · rw [if_pos c5] at H
            have c5b0 : decide (0 ≤ x5_1) = true := decide_eq_true c5
            clear c5
            by_cases c6 : x5_1 < (l1.length : Int)
            · rw [if_pos c6] at H
              have c6b0 : decide (x5_1 < (l1.length : Int)) = true := decide_eq_true c6
              clear c6
              by_cases c7 : (!(((rd_T37 l0 x5_1).f0) == ((rd_T37 l1 x5_1).f0)) || (!(((rd_T37 l0 x5_1).f1) == ((rd_T37 l1 x5_1).f1)) || (!(((rd_T37 l0 x5_1).f2) == ((rd_T37 l1 x5_1).f2)) || (!((((rd_T37 l0 x5_1).f3).toList) == (((rd_T37 l1 x5_1).f3).toList)))))) = true
              · rw [if_pos c7] at H
                have c7b0 : (!(((rd_T37 l0 x5_1).f0) == ((rd_T37 l1 x5_1).f0)) || (!(((rd_T37 l0 x5_1).f1) == ((rd_T37 l1 x5_1).f1)) || (!(((rd_T37 l0 x5_1).f2) == ((rd_T37 l1 x5_1).f2)) || (!((((rd_T37 l0 x5_1).f3).toList) == (((rd_T37 l1 x5_1).f3).toList)))))) = true := c7
                clear c7
                obtain rfl := Option.some.inj H
                have p115 : 0 ≤ (x5_1 : Int) := of_decide_eq_true (by first | (with_reducible assumption) | assumption)
                have q115 : x5_1 < (l0.length : Int) := of_decide_eq_true (by first | (with_reducible assumption) | assumption)
                obtain ⟨ad115, e115, hx115_0, hx115_1, hx115_2, hx115_3⟩ := at_T37 HR0.out x5_1 p115 q115
                cases e115
                replace p115 := eq_true p115
                replace q115 := eq_true q115
                have p116 : 0 ≤ (x5_1 : Int) := of_decide_eq_true (by first | (with_reducible assumption) | assumption)
                have q116 : x5_1 < (l1.length : Int) := of_decide_eq_true (by first | (with_reducible assumption) | assumption)
                obtain ⟨ad116, e116, hx116_0, hx116_1, hx116_2, hx116_3⟩ := at_T37 HR1.out x5_1 p116 q116
                cases e116
                replace p116 := eq_true p116
                replace q116 := eq_true q116
                go_wp2
                repeat (go_quiet (fail); try go_wp2)
                go_ret
                exact ⟨by first | rfl | (simp; done) | (simp [*]; done), by repeat (first | exact Drawn0.refl _ | apply Drawn0.step)⟩
              · rw [if_neg c7] at H
                have c7b0 : (!(((rd_T37 l0 x5_1).f0) == ((rd_T37 l1 x5_1).f0)) || (!(((rd_T37 l0 x5_1).f1) == ((rd_T37 l1 x5_1).f1)) || (!(((rd_T37 l0 x5_1).f2) == ((rd_T37 l1 x5_1).f2)) || (!((((rd_T37 l0 x5_1).f3).toList) == (((rd_T37 l1 x5_1).f3).toList)))))) = false := by simpa using c7
                clear c7
                have H' := Aside0.mk H
                clear H
                have p115 : 0 ≤ (x5_1 : Int) := of_decide_eq_true (by first | (with_reducible assumption) | assumption)
                have q115 : x5_1 < (l0.length : Int) := of_decide_eq_true (by first | (with_reducible assumption) | assumption)
                obtain ⟨ad115, e115, hx115_0, hx115_1, hx115_2, hx115_3⟩ := at_T37 HR0.out x5_1 p115 q115
                cases e115
                replace p115 := eq_true p115
                replace q115 := eq_true q115
                have p116 : 0 ≤ (x5_1 : Int) := of_decide_eq_true (by first | (with_reducible assumption) | assumption)
                have q116 : x5_1 < (l1.length : Int) := of_decide_eq_true (by first | (with_reducible assumption) | assumption)
                obtain ⟨ad116, e116, hx116_0, hx116_1, hx116_2, hx116_3⟩ := at_T37 HR1.out x5_1 p116 q116
                cases e116
                replace p116 := eq_true p116
                replace q116 := eq_true q116
                go_wp2
                repeat (go_quiet (fail); try go_wp2)
                go_roundg k1
                case measure => have := HK1.out; omega
                case rel => exact ⟨(wrap64 (x5_1 + 1)), (by first | rfl | (simp; done) | (simp [*]; done) | (simp [*] <;> decide +kernel)), H', ⟨by have := HK1.out; omega⟩, by repeat (first | exact Drawn0.refl _ | apply Drawn0.step)⟩
            · rw [if_neg c6] at H
              exact absurd H (by simp)
          · rw [if_neg c5] at H
            exact absurd H (by simp)
        · rw [if_neg c4] at H
          have c4b0 : decide (x5_1 < (l0.length : Int)) = false := decide_eq_false c4
          clear c4
          obtain rfl := Option.some.inj H
          go_wp2
          repeat (go_quiet (fail); try go_wp2)
          go_ret
          exact ⟨by first | rfl | (simp; done) | (simp [*]; done), by repeat (first | exact Drawn0.refl _ | apply Drawn0.step)⟩
  · rw [if_neg c3] at H
    have c3b0 : ((l0.length : Int) == (l1.length : Int)) = false := beq_eq_false_iff_ne.mpr c3
    have c3b1 : ((l0.length : Int) != (l1.length : Int)) = true := bne_iff_ne.mpr c3
    have c3b2 : (l0.length == l1.length) = false := by first | simpa using c3 | (simp at c3 ⊢; omega)
    obtain rfl := Option.some.inj H
    go_enter Try.func12, Try.ntmps12
    go_wp2
    repeat (go_quiet (fail); try go_wp2)
    go_ret
    exact ⟨by first | rfl | (simp; done) | (simp [*]; done), by repeat (first | exact Drawn0.refl _ | apply Drawn0.step)⟩
def glossatorlaw09_awake.f (k : Nat)  : Option (Bool) := (event_Events.f k 11 false 0 (⟨#[]⟩ : ByteArray) ([] : List (S25))).bind fun bt117 => (if bt117.2 = 0 then (some ((bt117.1.length : Int) == 2)) else (some false))
theorem glossatorlaw09_awake.mono : ∀ k, LeO (glossatorlaw09_awake.f k ) (glossatorlaw09_awake.f (k + 1) ) := by
  intro  k
  unfold glossatorlaw09_awake.f
  repeat' first
      | (with_reducible exact event_Events.mono _ _ _ _ _ _)
      | (with_reducible exact LeO.refl _)
      | (with_reducible exact LeO.none _)
      | (with_reducible refine LeO.ite ?_ ?_)
      | (with_reducible refine LeO.bind ?_ (fun _ => ?_))
      | exact event_Events.mono _ _ _ _ _ _
      | exact LeO.none _
      | refine LeO.ite ?_ ?_
      | refine LeO.bind ?_ (fun _ => ?_)
set_option maxHeartbeats 8000000 in
set_option maxRecDepth 100000 in
theorem glossatorlaw09_awake.calls (k : Nat)  (r : Bool) (w : World) (h : glossatorlaw09_awake.f k  = some r) :
    Calls Try.prog 13 #[] w fun e w' => e = .returned (.bool r) ∧ Below w.heap.size w w' := by
  have hu25 := Try.underlying25
  have HB := Aside0.mk (Below.refl w.heap.size w)
  have H : ((event_Events.f k 11 false 0 (⟨#[]⟩ : ByteArray) ([] : List (S25))).bind fun bt117 => (if bt117.2 = 0 then (some ((bt117.1.length : Int) == 2)) else (some false))) = some r := h
  clear h
  replace H := Option.bind_eq_some_iff.mp H
  obtain ⟨⟨t117, t120⟩, A10, H⟩ := H
  replace H : (if t120 = 0 then (some ((t117.length : Int) == 2)) else (some false)) = some r := H
  have A1 := Aside0.mk A10
  clear A10
  by_cases c2 : t120 = 0
  · rw [if_pos c2] at H
    have c2b0 : (t120 == 0) = true := beq_iff_eq.mpr c2
    have c2b1 : (t120 != 0) = false := bne_eq_false_iff_eq.mpr c2
    clear c2
    obtain rfl := Option.some.inj H
    go_enter Try.func13, Try.ntmps13
    go_wp2_with (first | ((with_reducible refine gate_callee (f := 10) rfl ?_); refine goesL_ (some 5) rfl rfl Try.func10 (by kernel_rfl) rfl #[.agg #[.int .i64 11, .bool false, .int .u64 0, .string (⟨#[]⟩ : ByteArray), .slice none 0 0]] rfl (by (try simp only [List.map_toArray, List.map_cons, List.map_nil]); first | done | rfl | (simp only [List.length_drop, List.length_take]; rfl)) ?_; (refine (event_Events.calls k 11 false 0 (⟨#[]⟩ : ByteArray) _ _ ([] : List (S25)) t117 t120 _ ?side1 ?side2 A1.out).mono ?_); (case side1 => exact Kd.C_nil _ _); (case side2 => exact Nat.le_refl _); rintro e w3 ⟨v118, rfl, ho0, hb⟩; refine ⟨_, rfl, ?_⟩; have n0_ := Aside0.mk (Kd.R_lower ho0 (below_size (by repeat (first | (with_reducible first | exact HB.out | apply below_alloc | apply pw_below_drewN | apply below_drew1) | exact HB.out)))); have n1_ := Aside0.mk (below_step (by repeat (first | (with_reducible first | exact HB.out | apply below_alloc | apply pw_below_drewN | apply below_drew1) | exact HB.out)) hb); clear HB; have HO119 := n0_; have HB := n1_; clear n0_ n1_; (try clear hb); (try clear hb2); (try clear hk); (try clear hi); (try clear ho0); obtain ⟨Ao4, co4, eo4⟩ := Kd.R_slice HO119.out; subst eo4))
    go_ret
    exact ⟨by first | rfl | (simp [errW_none, errW_some] <;> rfl) | (simp [*, errW_none, errW_some] <;> rfl), by repeat (first | (with_reducible first | exact HB.out | apply below_alloc | apply pw_below_drewN | apply below_drew1) | exact HB.out)⟩
  · rw [if_neg c2] at H
    have c2b0 : (t120 == 0) = false := beq_eq_false_iff_ne.mpr c2
    have c2b1 : (t120 != 0) = true := bne_iff_ne.mpr c2
    obtain rfl := Option.some.inj H
    go_enter Try.func13, Try.ntmps13
    go_wp2_with (first | ((with_reducible refine gate_callee (f := 10) rfl ?_); refine goesL_ (some 5) rfl rfl Try.func10 (by kernel_rfl) rfl #[.agg #[.int .i64 11, .bool false, .int .u64 0, .string (⟨#[]⟩ : ByteArray), .slice none 0 0]] rfl (by (try simp only [List.map_toArray, List.map_cons, List.map_nil]); first | done | rfl | (simp only [List.length_drop, List.length_take]; rfl)) ?_; (refine (event_Events.calls k 11 false 0 (⟨#[]⟩ : ByteArray) _ _ ([] : List (S25)) t117 t120 _ ?side1 ?side2 A1.out).mono ?_); (case side1 => exact Kd.C_nil _ _); (case side2 => exact Nat.le_refl _); rintro e w5 ⟨v118, rfl, ho0, hb⟩; refine ⟨_, rfl, ?_⟩; have n0_ := Aside0.mk (Kd.R_lower ho0 (below_size (by repeat (first | (with_reducible first | exact HB.out | apply below_alloc | apply pw_below_drewN | apply below_drew1) | exact HB.out)))); have n1_ := Aside0.mk (below_step (by repeat (first | (with_reducible first | exact HB.out | apply below_alloc | apply pw_below_drewN | apply below_drew1) | exact HB.out)) hb); clear HB; have HO119 := n0_; have HB := n1_; clear n0_ n1_; (try clear hb); (try clear hb2); (try clear hk); (try clear hi); (try clear ho0)))
    go_ret
    exact ⟨by first | rfl | (simp [errW_none, errW_some] <;> rfl) | (simp [*, errW_none, errW_some] <;> rfl), by repeat (first | (with_reducible first | exact HB.out | apply below_alloc | apply pw_below_drewN | apply below_drew1) | exact HB.out)⟩
def MK25 : Bld.Mk S25 where
  toTree := T25
  push := fun p v => ⟨p.f0, p.f1, p.f2, p.f3, p.f4 ++ [v]⟩
  E1 := rfl
  openM := fun h => k25_openM h
  mkM := fun w base ok x _ h => k25_mkM w base ok x h
  push_k := fun _ _ => rfl
  push_neg := fun _ _ => rfl
  push_n := fun _ _ => rfl
  push_s := fun _ _ => rfl
  push_kids := fun _ _ => rfl
  ev := fun a b c d => ⟨a, b, c, d, []⟩
  ev_k := fun _ _ _ _ => rfl
  ev_neg := fun _ _ _ _ => rfl
  ev_n := fun _ _ _ _ => rfl
  ev_s := fun _ _ _ _ => rfl
  ev_kids := fun _ _ _ _ => rfl
  zM := fun w base => k25_mkM w base _ z25 (Kd.R_nil _ _ _ _ _)
def EO37 : Bld.EvO S37 where
  toEvK := V37
  zE := z37
  ek := S37.f0
  eneg := S37.f1
  en := S37.f2
  es := S37.f3
  openE := fun h => k37_open h
def EN25 (k : Nat) : Bld.Env MK25 where
  one := fun y => value_One.f k y.f0 y.f1 y.f2 y.f3 y.f4
  dep := fun y => value_Depth.f k y.f0 y.f1 y.f2 y.f3 y.f4
  hone := fun y r hb W cs hy => by
    obtain ⟨A4, c4, rfl, l4, g4⟩ := k25_open hy
    exact value_One.calls k y.f0 y.f1 y.f2 y.f3 A4 c4 y.f4 r W g4 l4 hb
  hdep := fun y r hb W cs hy => by
    obtain ⟨A4, c4, rfl, l4, g4⟩ := k25_open hy
    exact value_Depth.calls k y.f0 y.f1 y.f2 y.f3 A4 c4 y.f4 r W g4 l4 hb
def event_Tree.f (k : Nat) (l0 : List (S37)) : Option (Int × Bool × Int × ByteArray × (List (S25)) × Int × Int) :=
  (Bld.treeX MK25 (EN25 k) EO37 l0 0 (Bld.newB MK25 64)).bind fun p => some (p.1.f0, p.1.f1, p.1.f2, p.1.f3, p.1.f4, p.2.1, p.2.2)
theorem event_Tree.mono : ∀ a0 k, LeO (event_Tree.f k a0) (event_Tree.f (k + 1) a0) := by
  intro a0 k
  unfold event_Tree.f
  exact LeO.bind (Bld.treeX_mono MK25 (EN25 k) (EN25 (k + 1)) EO37 (fun y => value_One.mono _ _ _ _ _ k) (fun y => value_Depth.mono _ _ _ _ _ k) _ _ _) fun p => LeO.refl _
theorem event_Tree.calls (k : Nat) (A0 : Option Addr) (c0 : Nat) (l0 : List (S37)) (r1 : Int) (r2 : Bool) (r3 : Int) (r4 : ByteArray) (r5 : List (S25)) (r6 : Int) (r7 : Int) (w : World) (hr0 : Kd.C k37 w A0 l0.length l0) (hc0 : l0.length ≤ c0) (h : event_Tree.f k l0 = some (r1, r2, r3, r4, r5, r6, r7)) :
    Calls Try.prog 22 #[.slice A0 l0.length c0] w fun e w' => ∃ v4_ : Value, e = .returned (.tuple #[.agg #[.int .i64 r1, .bool r2, .int .u64 r3, .string r4, v4_], .int .i64 r6, .int .i64 r7]) ∧ Kd.R k25 25 w' w.heap.size (fun _ => True) v4_ r5 ∧ Below w.heap.size w w' := by
  obtain ⟨⟨v, n, q⟩, hp, h⟩ := Option.bind_eq_some_iff.mp h
  simp only [Option.some.injEq, Prod.mk.injEq] at h
  obtain ⟨rfl, rfl, rfl, rfl, rfl, rfl, rfl⟩ := h
  exact Bld.tree_calls MK25 (EN25 k) EO37 A0 c0 l0 w hr0 hc0 v n q hp
end Go.Proofs.Ytcgpfclmcajekaa.PEventBack
