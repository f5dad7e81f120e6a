-- Out of texts of this seat by a program of this session: what the claim does not reach is struck
import Derived.Test.YtcgpfclmcajekaaZPEventBackx0
import Derived.Test.YtcgpfclmcajekaaZPEventBackx6
import Derived.Test.YtcgpfclmcajekaaZPEventBackx7
namespace Go.Proofs.Ytcgpfclmcajekaa.PEventBack
open Go.RowKit Go.Proofs.YtcgpfclmcajekaaW.PrintWords Go.Proofs.YtcgpfclmcajekaaW.PrintLast Go.Proofs.YtcgpfclmcajekaaW.PrintMore
attribute [local go_sem] max2_int min2_int max_two min_two max_three min_three max_four min_four
set_option linter.unusedVariables false
set_option linter.unusedSimpArgs false
def glossatorref08_One.j0 : Nat → Bool → Bool → Bool → Int → Bool → Int → Bool → Int → ByteArray → List (S25) → Option (Bool)
  | 0, _, _, _, _, _, _, _, _, _, _ => none
  | k + 1, x3, x4, x5, x18, x19, x139000, x139001, x139002, x139003, x139004 => if x19 = true then (if x3 = true then (if x4 = true then (some x5) else (some false)) else (some false)) else (if x18 = 1 then (if x3 = true then (if x5 = true then (some (decide (x139002 ≤ 1))) else (some false)) else (some false)) else (if x18 = 3 then (if x3 = true then (if x5 = true then (if x139002 ≤ 19 then (some true) else (if x139002 ≥ 32 then (some (decide (x139002 ≤ 255))) else (some false))) else (some false)) else (some false)) else (if x18 = 4 then (some x3) else (if x18 = 5 then (if x4 = true then ((glossatorref08_Big.f x139003).bind fun t139 => (some t139)) else (some false)) else (if x18 = 6 then (if x3 = true then (if x5 = true then (some (decide (x139002 < 65536))) else (some false)) else (some false)) else (if x18 = 7 then (if x3 = true then (if x5 = true then (some (decide (x139002 < 4294967296))) else (some false)) else (some false)) else (if x18 = 8 then (if x3 = true then (some x5) else (some false)) else (if x18 = 9 then (if x4 = true then (some x5) else (some false)) else (if x18 = 10 then ((glossatorref02_Check.f k x139003).bind fun bt140 => (if x4 = true then (if x5 = true then (some (bt140.2 == 0)) else (some false)) else (some false))) else (if x18 = 11 then (if x3 = true then (if x4 = true then (some x5) else (some false)) else (some false)) else (if x18 = 12 then (if x3 = true then (if x4 = true then (if x5 = true then (some (((x139004.length : Int) % 2) == 0)) else (some false)) else (some false)) else (some false)) else (if x18 = 13 then (if x3 = true then (if x5 = true then (if (x139004.length : Int) = 1 then (if x139002 = 2 then (if 0 < (x139004.length : Int) then (if ((rd_T25 x139004 0).f0) = 9 then ((glossatorref08_Big.f ((rd_T25 x139004 0).f3)).bind fun t144 => (some (!t144))) else (some (!false))) else (none)) else (if x139002 = 3 then (if 0 < (x139004.length : Int) then (if ((rd_T25 x139004 0).f0) = 9 then ((glossatorref08_Big.f ((rd_T25 x139004 0).f3)).bind fun t147 => (some (!t147))) else (some (!false))) else (none)) else (some (!false)))) else (some false)) else (some false)) else (some false)) else (if x18 = 14 then (if x5 = true then (some (decide (x139002 ≤ 255))) else (some false)) else (some false))))))))))))))
def glossatorref08_One.f (k : Nat) (a0_0 : Int) (a0_1 : Bool) (a0_2 : Int) (a0_3 : ByteArray) (l0_4 : List (S25)) : Option (Bool) := if a0_0 = 0 then (glossatorref08_One.j0 k (a0_3.toList == ([] : List UInt8)) (a0_2 == 0) (!a0_1) a0_0 (a0_0 == 0) a0_0 a0_1 a0_2 a0_3 l0_4) else (glossatorref08_One.j0 k (a0_3.toList == ([] : List UInt8)) (a0_2 == 0) (!a0_1) a0_0 (a0_0 == 2) a0_0 a0_1 a0_2 a0_3 l0_4)
theorem glossatorref08_One.mono_l : ∀ k, (∀ y0 y1 y2 y3 y4 y5 y6 y7 y8 y9, LeO (glossatorref08_One.j0 k y0 y1 y2 y3 y4 y5 y6 y7 y8 y9) (glossatorref08_One.j0 (k + 1) y0 y1 y2 y3 y4 y5 y6 y7 y8 y9))
  | 0 => fun _ _ _ _ _ _ _ _ _ _ r h => by simp [glossatorref08_One.j0] at h
  | k + 1 => by
    have ih0 := glossatorref08_One.mono_l k
    · intro y0 y1 y2 y3 y4 y5 y6 y7 y8 y9
      unfold glossatorref08_One.j0
      repeat' first
      | (with_reducible exact ih0 _ _ _ _ _ _ _ _ _ _)
      | (with_reducible exact glossatorref02_Check.mono _ _)
      | (with_reducible exact LeO.refl _)
      | (with_reducible exact LeO.none _)
      | (with_reducible refine LeO.ite ?_ ?_)
      | (with_reducible refine LeO.bind ?_ (fun _ => ?_))
      | exact ih0 _ _ _ _ _ _ _ _ _ _
      | exact glossatorref02_Check.mono _ _
      | exact LeO.none _
      | refine LeO.ite ?_ ?_
      | refine LeO.bind ?_ (fun _ => ?_)
theorem glossatorref08_One.mono : ∀ a0 a1 a2 a3 a4 k, LeO (glossatorref08_One.f k a0 a1 a2 a3 a4) (glossatorref08_One.f (k + 1) a0 a1 a2 a3 a4) := by
  intro a0 a1 a2 a3 a4 k
  have ih0 := glossatorref08_One.mono_l k
  unfold glossatorref08_One.f
  repeat' first
      | (with_reducible exact ih0 _ _ _ _ _ _ _ _ _ _)
      | (with_reducible exact glossatorref02_Check.mono _ _)
      | (with_reducible exact LeO.refl _)
      | (with_reducible exact LeO.none _)
      | (with_reducible refine LeO.ite ?_ ?_)
      | (with_reducible refine LeO.bind ?_ (fun _ => ?_))
      | exact ih0 _ _ _ _ _ _ _ _ _ _
      | exact glossatorref02_Check.mono _ _
      | exact LeO.none _
      | refine LeO.ite ?_ ?_
      | refine LeO.bind ?_ (fun _ => ?_)
set_option maxHeartbeats 8000000 in
set_option maxRecDepth 100000 in
theorem glossatorref08_One.calls (k : Nat) (a0_0 : Int) (a0_1 : Bool) (a0_2 : Int) (a0_3 : ByteArray) (A0_4 : Option Addr) (c0_4 : Nat) (l0_4 : List (S25)) (r : Bool) (w : World) (hr0_4 : Kd.C k25 w A0_4 l0_4.length l0_4) (hc0_4 : l0_4.length ≤ c0_4) (h : glossatorref08_One.f k a0_0 a0_1 a0_2 a0_3 l0_4 = some r) :
    Calls Try.prog 54 #[.agg #[.int .i64 a0_0, .bool a0_1, .int .u64 a0_2, .string a0_3, .slice A0_4 l0_4.length c0_4]] w fun e w' => e = .returned (.bool r) ∧ Below w.heap.size w w' := by
  have hu25 := Try.underlying25
  have HR0_4 := Aside0.mk hr0_4
  have HC0_4 := Aside0.mk hc0_4
  clear hr0_4 hc0_4
  have HB := Aside0.mk (Below.refl w.heap.size w)
  have H : (if a0_0 = 0 then (glossatorref08_One.j0 k (a0_3.toList == ([] : List UInt8)) (a0_2 == 0) (!a0_1) a0_0 (a0_0 == 0) a0_0 a0_1 a0_2 a0_3 l0_4) else (glossatorref08_One.j0 k (a0_3.toList == ([] : List UInt8)) (a0_2 == 0) (!a0_1) a0_0 (a0_0 == 2) a0_0 a0_1 a0_2 a0_3 l0_4)) = some r := h
  clear h
  have HC2 := Aside0.mk H
  clear H
  go_enter Try.func54, Try.ntmps54
  go_upto_if 19 with (first | ((with_reducible refine gate_dst (N := 1) rfl ?_); (try (refine gate_guard (by rfl) ?_; dsimp only)); refine box_event ?hg (N := 1) ?hd (cs := #[.int .i64 a0_0, .bool a0_1, .int .u64 a0_2, .string a0_3, .slice A0_4 l0_4.length c0_4]) (t := 25) ?hr ?_; (case hd => rfl); (case hg => rfl); (case hr => first | (go_simp; done) | (go_simp; rfl)); intro gb138 hg w3 hbox hb; have n0_ := Aside0.mk (below_step (by repeat (first | (with_reducible first | exact HB.out | apply below_alloc | apply pw_below_drewN | apply below_drew1) | exact HB.out)) hb); have n1_ := Aside0.mk (hbox); have n2_ := Aside0.mk ((by rw [hg]; exact (below_size (by repeat (first | (with_reducible first | exact HB.out | apply below_alloc | apply pw_below_drewN | apply below_drew1) | exact HB.out))) : w.heap.size ≤ gb138)); have n3_ := Aside0.mk ((by rw [hg]; exact (below_size (by repeat (first | (with_reducible first | exact HB.out | apply below_alloc | apply pw_below_drewN | apply below_drew1) | exact HB.out))) : w.heap.size ≤ gb138)); clear HB; have HB := n0_; have BK138 := n1_; have GW138 := n2_; have GE138 := n3_; clear n0_ n1_ n2_ n3_; clear hb hbox hg; have hcz4_0 : w3.cell? ⟨gb138, 0, none⟩ = some (.int .i64 a0_0) := (blk_cell BK138.out 0).trans rfl; have hcz4_1 : w3.cell? ⟨gb138, 1, none⟩ = some (.bool a0_1) := (blk_cell BK138.out 1).trans rfl; have hcz4_2 : w3.cell? ⟨gb138, 2, none⟩ = some (.int .u64 a0_2) := (blk_cell BK138.out 2).trans rfl; have hcz4_3 : w3.cell? ⟨gb138, 3, none⟩ = some (.string a0_3) := (blk_cell BK138.out 3).trans rfl; have hcz4_4 : w3.cell? ⟨gb138, 4, none⟩ = some (.slice A0_4 l0_4.length c0_4) := (blk_cell BK138.out 4).trans rfl; have hfz4_0 := blk_frozen BK138.out 0; have hfz4_1 := blk_frozen BK138.out 1; have hfz4_2 := blk_frozen BK138.out 2; have hfz4_3 := blk_frozen BK138.out 3; have hfz4_4 := blk_frozen BK138.out 4))
  (try simp only [Act.put, List.setIfInBounds_toArray, List.set_cons_zero, List.set_cons_succ])
  go_cut [19] (fun v19 wc => ∃ (kq : Nat) (x19_1 : Bool), v19 = .bool x19_1 ∧ Aside0 (glossatorref08_One.j0 kq (a0_3.toList == ([] : List UInt8)) (a0_2 == 0) (!a0_1) a0_0 x19_1 a0_0 a0_1 a0_2 a0_3 l0_4 = some r) ∧ Aside0 (kq ≤ k) ∧ Aside0 (wc.heap[gb138]? = some (.cells #[.int .i64 a0_0, .bool a0_1, .int .u64 a0_2, .string a0_3, (.slice A0_4 l0_4.length c0_4)] 25 (0, 0))) ∧ Aside0 (Below w.heap.size w wc))
  case first =>
    have H := HC2.out
    clear HC2
    by_cases c5 : a0_0 = 0
    · rw [if_pos c5] at H
      have c5b0 : (a0_0 == 0) = true := beq_iff_eq.mpr c5
      have c5b1 : (a0_0 != 0) = false := bne_eq_false_iff_eq.mpr c5
      clear c5
      (first | rw [c5b0] | (simp only [i64_w, i32_w]; rw [c5b0]) | skip)
      have H' := Aside0.mk H
      clear H
      go_wp2
      go_meet
      case rel => exact ⟨_, ((a0_0 == 0)), (by first | rfl | (simp; done) | (simp [*]; done) | (simp [*] <;> decide +kernel)), H', ⟨by first | omega | exact Nat.le_refl _⟩, ⟨by (with_reducible repeat (first | refine blk_drewN ?_ _ | refine blk_drew ?_ | refine blk_alloc ?_ _)); exact BK138.out⟩, ⟨by repeat (first | (with_reducible first | exact HB.out | apply below_alloc | apply pw_below_drewN | apply below_drew1 | refine below_set ?_ GE138.out) | exact HB.out)⟩⟩
    · rw [if_neg c5] at H
      have c5b0 : (a0_0 == 0) = false := beq_eq_false_iff_ne.mpr c5
      have c5b1 : (a0_0 != 0) = true := bne_iff_ne.mpr c5
      (first | rw [c5b0] | (simp only [i64_w, i32_w]; rw [c5b0]) | skip)
      have H' := Aside0.mk H
      clear H
      go_wp2
      go_meet
      case rel => exact ⟨_, ((a0_0 == 2)), (by first | rfl | (simp; done) | (simp [*]; done) | (simp [*] <;> decide +kernel)), H', ⟨by first | omega | exact Nat.le_refl _⟩, ⟨by (with_reducible repeat (first | refine blk_drewN ?_ _ | refine blk_drew ?_ | refine blk_alloc ?_ _)); exact BK138.out⟩, ⟨by repeat (first | (with_reducible first | exact HB.out | apply below_alloc | apply pw_below_drewN | apply below_drew1 | refine below_set ?_ GE138.out) | exact HB.out)⟩⟩
  case rest =>
    clear HC2
    try clear p2
    try clear c5
    try clear c5b0
    try clear c5b1
    try clear hcz4_0
    try clear hcz4_1
    try clear hcz4_2
    try clear hcz4_3
    try clear hcz4_4
    try clear hfz4_0
    try clear hfz4_1
    try clear hfz4_2
    try clear hfz4_3
    try clear hfz4_4
    obtain ⟨kq, x19_1, rfl, HA, HJ1, BK138, HB⟩ := hcut
    cases kq with
    | zero => exact absurd HA.out (by simp [glossatorref08_One.j0])
    | succ kj1 =>
      have H := HA.out
      clear HA
      simp only [glossatorref08_One.j0] at H
      by_cases c6 : x19_1 = true
      · subst c6
        have H1 : (if (a0_3.toList == ([] : List UInt8)) = true then (if (a0_2 == 0) = true then (some (!a0_1)) else (some false)) else (some false)) = some r := by rw [if_pos rfl] at H; exact H
        clear H
        have H := H1
        clear H1
        by_cases c7 : (a0_3.toList == ([] : List UInt8)) = true
        · rw [if_pos c7] at H
          have c7b0 : (a0_3.toList == ([] : List UInt8)) = true := c7
          (try (have c7b1 : decide (a0_3.toList = ([] : List UInt8)) = true := by simpa using c7))
          (try (have c7b2 : (a0_3.toList == ([] : List UInt8)) = true := by simpa using c7))
          (try (have c7b3 : a0_3.toList.isEmpty = true := by simpa using c7))
          clear c7
          by_cases c8 : (a0_2 == 0) = true
          · rw [if_pos c8] at H
            have c8b0 : (a0_2 == 0) = true := c8
            (try (have c8b1 : decide (a0_2 = 0) = true := by simpa using c8))
            (try (have c8b2 : (a0_2 == 0) = true := by simpa using c8))
            clear c8
            obtain rfl := Option.some.inj H
            go_wp2
            go_ret
            exact ⟨by first | rfl | (simp [errW_none, errW_some] <;> rfl) | (simp [*, errW_none, errW_some] <;> rfl), by repeat (first | (with_reducible first | exact HB.out | apply below_alloc | apply pw_below_drewN | apply below_drew1 | refine below_set ?_ GE138.out) | exact HB.out)⟩
          · rw [if_neg c8] at H
            have c8b0 : (a0_2 == 0) = false := by simpa using c8
            (try (have c8b1 : decide (a0_2 = 0) = false := by simpa using c8))
            (try (have c8b2 : (a0_2 == 0) = false := by simpa using c8))
            (try (have c8b3 : ¬ (a0_2 = 0) := by simpa using c8))
            clear c8
            obtain rfl := Option.some.inj H
            go_wp2
            go_ret
            exact ⟨by first | rfl | (simp [errW_none, errW_some] <;> rfl) | (simp [*, errW_none, errW_some] <;> rfl), by repeat (first | (with_reducible first | exact HB.out | apply below_alloc | apply pw_below_drewN | apply below_drew1 | refine below_set ?_ GE138.out) | exact HB.out)⟩
        · rw [if_neg c7] at H
          have c7b0 : (a0_3.toList == ([] : List UInt8)) = false := by simpa using c7
          (try (have c7b1 : decide (a0_3.toList = ([] : List UInt8)) = false := by simpa using c7))
          (try (have c7b2 : (a0_3.toList == ([] : List UInt8)) = false := by simpa using c7))
          (try (have c7b3 : ¬ (a0_3.toList = ([] : List UInt8)) := by simpa using c7))
          (try (have c7b4 : a0_3.toList.isEmpty = false := by simpa using c7))
          clear c7
          obtain rfl := Option.some.inj H
          go_wp2
          go_ret
          exact ⟨by first | rfl | (simp [errW_none, errW_some] <;> rfl) | (simp [*, errW_none, errW_some] <;> rfl), by repeat (first | (with_reducible first | exact HB.out | apply below_alloc | apply pw_below_drewN | apply below_drew1 | refine below_set ?_ GE138.out) | exact HB.out)⟩
      · replace c6 := Bool.eq_false_iff.mpr c6
        subst c6
        have H1 : (if a0_0 = 1 then (if (a0_3.toList == ([] : List UInt8)) = true then (if (!a0_1) = true then (some (decide (a0_2 ≤ 1))) else (some false)) else (some false)) else (if a0_0 = 3 then (if (a0_3.toList == ([] : List UInt8)) = true then (if (!a0_1) = true then (if a0_2 ≤ 19 then (some true) else (if a0_2 ≥ 32 then (some (decide (a0_2 ≤ 255))) else (some false))) else (some false)) else (some false)) else (if a0_0 = 4 then (some (a0_3.toList == ([] : List UInt8))) else (if a0_0 = 5 then (if (a0_2 == 0) = true then ((glossatorref08_Big.f a0_3).bind fun t139 => (some t139)) else (some false)) else (if a0_0 = 6 then (if (a0_3.toList == ([] : List UInt8)) = true then (if (!a0_1) = true then (some (decide (a0_2 < 65536))) else (some false)) else (some false)) else (if a0_0 = 7 then (if (a0_3.toList == ([] : List UInt8)) = true then (if (!a0_1) = true then (some (decide (a0_2 < 4294967296))) else (some false)) else (some false)) else (if a0_0 = 8 then (if (a0_3.toList == ([] : List UInt8)) = true then (some (!a0_1)) else (some false)) else (if a0_0 = 9 then (if (a0_2 == 0) = true then (some (!a0_1)) else (some false)) else (if a0_0 = 10 then ((glossatorref02_Check.f kj1 a0_3).bind fun bt140 => (if (a0_2 == 0) = true then (if (!a0_1) = true then (some (bt140.2 == 0)) else (some false)) else (some false))) else (if a0_0 = 11 then (if (a0_3.toList == ([] : List UInt8)) = true then (if (a0_2 == 0) = true then (some (!a0_1)) else (some false)) else (some false)) else (if a0_0 = 12 then (if (a0_3.toList == ([] : List UInt8)) = true then (if (a0_2 == 0) = true then (if (!a0_1) = true then (some (((l0_4.length : Int) % 2) == 0)) else (some false)) else (some false)) else (some false)) else (if a0_0 = 13 then (if (a0_3.toList == ([] : List UInt8)) = true then (if (!a0_1) = true then (if (l0_4.length : Int) = 1 then (if a0_2 = 2 then (if 0 < (l0_4.length : Int) then (if ((rd_T25 l0_4 0).f0) = 9 then ((glossatorref08_Big.f ((rd_T25 l0_4 0).f3)).bind fun t144 => (some (!t144))) else (some (!false))) else (none)) else (if a0_2 = 3 then (if 0 < (l0_4.length : Int) then (if ((rd_T25 l0_4 0).f0) = 9 then ((glossatorref08_Big.f ((rd_T25 l0_4 0).f3)).bind fun t147 => (some (!t147))) else (some (!false))) else (none)) else (some (!false)))) else (some false)) else (some false)) else (some false)) else (if a0_0 = 14 then (if (!a0_1) = true then (some (decide (a0_2 ≤ 255))) else (some false)) else (some false)))))))))))))) = some r := by rw [if_neg (show ¬ (false = true) by decide)] at H; exact H
        clear H
        have H := H1
        clear H1
        by_cases c9 : a0_0 = 1
        · rw [if_pos c9] at H
          have c9b0 : (a0_0 == 1) = true := beq_iff_eq.mpr c9
          have c9b1 : (a0_0 != 1) = false := bne_eq_false_iff_eq.mpr c9
          clear c9
          by_cases c10 : (a0_3.toList == ([] : List UInt8)) = true
          · rw [if_pos c10] at H
            have c10b0 : (a0_3.toList == ([] : List UInt8)) = true := c10
            (try (have c10b1 : decide (a0_3.toList = ([] : List UInt8)) = true := by simpa using c10))
            (try (have c10b2 : (a0_3.toList == ([] : List UInt8)) = true := by simpa using c10))
            (try (have c10b3 : a0_3.toList.isEmpty = true := by simpa using c10))
            clear c10
            by_cases c11 : (!a0_1) = true
            · rw [if_pos c11] at H
              have c11b0 : (!a0_1) = true := c11
              clear c11
              obtain rfl := Option.some.inj H
              have hcz12_0 : wc.cell? ⟨gb138, 0, none⟩ = some (.int .i64 a0_0) := (blk_cell BK138.out 0).trans rfl
              have hcz12_1 : wc.cell? ⟨gb138, 1, none⟩ = some (.bool a0_1) := (blk_cell BK138.out 1).trans rfl
              have hcz12_2 : wc.cell? ⟨gb138, 2, none⟩ = some (.int .u64 a0_2) := (blk_cell BK138.out 2).trans rfl
              have hcz12_3 : wc.cell? ⟨gb138, 3, none⟩ = some (.string a0_3) := (blk_cell BK138.out 3).trans rfl
              have hcz12_4 : wc.cell? ⟨gb138, 4, none⟩ = some (.slice A0_4 l0_4.length c0_4) := (blk_cell BK138.out 4).trans rfl
              have hfz12_0 := blk_frozen BK138.out 0
              have hfz12_1 := blk_frozen BK138.out 1
              have hfz12_2 := blk_frozen BK138.out 2
              have hfz12_3 := blk_frozen BK138.out 3
              have hfz12_4 := blk_frozen BK138.out 4
              go_wp2
              go_ret
              exact ⟨by first | rfl | (simp [errW_none, errW_some] <;> rfl) | (simp [*, errW_none, errW_some] <;> rfl), by repeat (first | (with_reducible first | exact HB.out | apply below_alloc | apply pw_below_drewN | apply below_drew1 | refine below_set ?_ GE138.out) | exact HB.out)⟩
            · rw [if_neg c11] at H
              have c11b0 : (!a0_1) = false := by simpa using c11
              clear c11
              obtain rfl := Option.some.inj H
              go_wp2
              go_ret
              exact ⟨by first | rfl | (simp [errW_none, errW_some] <;> rfl) | (simp [*, errW_none, errW_some] <;> rfl), by repeat (first | (with_reducible first | exact HB.out | apply below_alloc | apply pw_below_drewN | apply below_drew1 | refine below_set ?_ GE138.out) | exact HB.out)⟩
          · rw [if_neg c10] at H
            have c10b0 : (a0_3.toList == ([] : List UInt8)) = false := by simpa using c10
            (try (have c10b1 : decide (a0_3.toList = ([] : List UInt8)) = false := by simpa using c10))
            (try (have c10b2 : (a0_3.toList == ([] : List UInt8)) = false := by simpa using c10))
            (try (have c10b3 : ¬ (a0_3.toList = ([] : List UInt8)) := by simpa using c10))
            (try (have c10b4 : a0_3.toList.isEmpty = false := by simpa using c10))
            clear c10
            obtain rfl := Option.some.inj H
            go_wp2
            go_ret
            exact ⟨by first | rfl | (simp [errW_none, errW_some] <;> rfl) | (simp [*, errW_none, errW_some] <;> rfl), by repeat (first | (with_reducible first | exact HB.out | apply below_alloc | apply pw_below_drewN | apply below_drew1 | refine below_set ?_ GE138.out) | exact HB.out)⟩
        · rw [if_neg c9] at H
          have c9b0 : (a0_0 == 1) = false := beq_eq_false_iff_ne.mpr c9
          have c9b1 : (a0_0 != 1) = true := bne_iff_ne.mpr c9
          by_cases c13 : a0_0 = 3
          · rw [if_pos c13] at H
            have c13b0 : (a0_0 == 3) = true := beq_iff_eq.mpr c13
            have c13b1 : (a0_0 != 3) = false := bne_eq_false_iff_eq.mpr c13
            clear c13
            by_cases c14 : (a0_3.toList == ([] : List UInt8)) = true
            · rw [if_pos c14] at H
              have c14b0 : (a0_3.toList == ([] : List UInt8)) = true := c14
              (try (have c14b1 : decide (a0_3.toList = ([] : List UInt8)) = true := by simpa using c14))
              (try (have c14b2 : (a0_3.toList == ([] : List UInt8)) = true := by simpa using c14))
              (try (have c14b3 : a0_3.toList.isEmpty = true := by simpa using c14))
              clear c14
              by_cases c15 : (!a0_1) = true
              · rw [if_pos c15] at H
                have c15b0 : (!a0_1) = true := c15
                clear c15
                by_cases c16 : a0_2 ≤ 19
                · rw [if_pos c16] at H
                  have c16b0 : decide (a0_2 ≤ 19) = true := decide_eq_true c16
                  clear c16
                  obtain rfl := Option.some.inj H
                  have hcz17_0 : wc.cell? ⟨gb138, 0, none⟩ = some (.int .i64 a0_0) := (blk_cell BK138.out 0).trans rfl
                  have hcz17_1 : wc.cell? ⟨gb138, 1, none⟩ = some (.bool a0_1) := (blk_cell BK138.out 1).trans rfl
                  have hcz17_2 : wc.cell? ⟨gb138, 2, none⟩ = some (.int .u64 a0_2) := (blk_cell BK138.out 2).trans rfl
                  have hcz17_3 : wc.cell? ⟨gb138, 3, none⟩ = some (.string a0_3) := (blk_cell BK138.out 3).trans rfl
                  have hcz17_4 : wc.cell? ⟨gb138, 4, none⟩ = some (.slice A0_4 l0_4.length c0_4) := (blk_cell BK138.out 4).trans rfl
                  have hfz17_0 := blk_frozen BK138.out 0
                  have hfz17_1 := blk_frozen BK138.out 1
                  have hfz17_2 := blk_frozen BK138.out 2
                  have hfz17_3 := blk_frozen BK138.out 3
                  have hfz17_4 := blk_frozen BK138.out 4
                  go_wp2
                  go_ret
                  exact ⟨by first | rfl | (simp [errW_none, errW_some] <;> rfl) | (simp [*, errW_none, errW_some] <;> rfl), by repeat (first | (with_reducible first | exact HB.out | apply below_alloc | apply pw_below_drewN | apply below_drew1 | refine below_set ?_ GE138.out) | exact HB.out)⟩
                · rw [if_neg c16] at H
                  have c16b0 : decide (a0_2 ≤ 19) = false := decide_eq_false c16
                  clear c16
                  by_cases c18 : a0_2 ≥ 32
                  · rw [if_pos c18] at H
                    have c18b0 : decide (32 ≤ a0_2) = true := decide_eq_true c18
                    clear c18
                    obtain rfl := Option.some.inj H
                    have hcz19_0 : wc.cell? ⟨gb138, 0, none⟩ = some (.int .i64 a0_0) := (blk_cell BK138.out 0).trans rfl
                    have hcz19_1 : wc.cell? ⟨gb138, 1, none⟩ = some (.bool a0_1) := (blk_cell BK138.out 1).trans rfl
                    have hcz19_2 : wc.cell? ⟨gb138, 2, none⟩ = some (.int .u64 a0_2) := (blk_cell BK138.out 2).trans rfl
                    have hcz19_3 : wc.cell? ⟨gb138, 3, none⟩ = some (.string a0_3) := (blk_cell BK138.out 3).trans rfl
                    have hcz19_4 : wc.cell? ⟨gb138, 4, none⟩ = some (.slice A0_4 l0_4.length c0_4) := (blk_cell BK138.out 4).trans rfl
                    have hfz19_0 := blk_frozen BK138.out 0
                    have hfz19_1 := blk_frozen BK138.out 1
                    have hfz19_2 := blk_frozen BK138.out 2
                    have hfz19_3 := blk_frozen BK138.out 3
                    have hfz19_4 := blk_frozen BK138.out 4
                    go_wp2
                    go_ret
                    exact ⟨by first | rfl | (simp [errW_none, errW_some] <;> rfl) | (simp [*, errW_none, errW_some] <;> rfl), by repeat (first | (with_reducible first | exact HB.out | apply below_alloc | apply pw_below_drewN | apply below_drew1 | refine below_set ?_ GE138.out) | exact HB.out)⟩
                  · rw [if_neg c18] at H
                    have c18b0 : decide (32 ≤ a0_2) = false := decide_eq_false c18
                    clear c18
                    obtain rfl := Option.some.inj H
                    have hcz20_0 : wc.cell? ⟨gb138, 0, none⟩ = some (.int .i64 a0_0) := (blk_cell BK138.out 0).trans rfl
                    have hcz20_1 : wc.cell? ⟨gb138, 1, none⟩ = some (.bool a0_1) := (blk_cell BK138.out 1).trans rfl
                    have hcz20_2 : wc.cell? ⟨gb138, 2, none⟩ = some (.int .u64 a0_2) := (blk_cell BK138.out 2).trans rfl
                    have hcz20_3 : wc.cell? ⟨gb138, 3, none⟩ = some (.string a0_3) := (blk_cell BK138.out 3).trans rfl
                    have hcz20_4 : wc.cell? ⟨gb138, 4, none⟩ = some (.slice A0_4 l0_4.length c0_4) := (blk_cell BK138.out 4).trans rfl
                    have hfz20_0 := blk_frozen BK138.out 0
                    have hfz20_1 := blk_frozen BK138.out 1
                    have hfz20_2 := blk_frozen BK138.out 2
                    have hfz20_3 := blk_frozen BK138.out 3
                    have hfz20_4 := blk_frozen BK138.out 4
                    go_wp2
                    go_ret
                    exact ⟨by first | rfl | (simp [errW_none, errW_some] <;> rfl) | (simp [*, errW_none, errW_some] <;> rfl), by repeat (first | (with_reducible first | exact HB.out | apply below_alloc | apply pw_below_drewN | apply below_drew1 | refine below_set ?_ GE138.out) | exact HB.out)⟩
              · rw [if_neg c15] at H
                have c15b0 : (!a0_1) = false := by simpa using c15
                clear c15
                obtain rfl := Option.some.inj H
                go_wp2
                go_ret
                exact ⟨by first | rfl | (simp [errW_none, errW_some] <;> rfl) | (simp [*, errW_none, errW_some] <;> rfl), by repeat (first | (with_reducible first | exact HB.out | apply below_alloc | apply pw_below_drewN | apply below_drew1 | refine below_set ?_ GE138.out) | exact HB.out)⟩
            · rw [if_neg c14] at H
              have c14b0 : (a0_3.toList == ([] : List UInt8)) = false := by simpa using c14
              (try (have c14b1 : decide (a0_3.toList = ([] : List UInt8)) = false := by simpa using c14))
              (try (have c14b2 : (a0_3.toList == ([] : List UInt8)) = false := by simpa using c14))
              (try (have c14b3 : ¬ (a0_3.toList = ([] : List UInt8)) := by simpa using c14))
              (try (have c14b4 : a0_3.toList.isEmpty = false := by simpa using c14))
              clear c14
              obtain rfl := Option.some.inj H
              go_wp2
              go_ret
              exact ⟨by first | rfl | (simp [errW_none, errW_some] <;> rfl) | (simp [*, errW_none, errW_some] <;> rfl), by repeat (first | (with_reducible first | exact HB.out | apply below_alloc | apply pw_below_drewN | apply below_drew1 | refine below_set ?_ GE138.out) | exact HB.out)⟩
          · rw [if_neg c13] at H
            have c13b0 : (a0_0 == 3) = false := beq_eq_false_iff_ne.mpr c13
            have c13b1 : (a0_0 != 3) = true := bne_iff_ne.mpr c13
            by_cases c21 : a0_0 = 4
            · rw [if_pos c21] at H
              have c21b0 : (a0_0 == 4) = true := beq_iff_eq.mpr c21
              have c21b1 : (a0_0 != 4) = false := bne_eq_false_iff_eq.mpr c21
              clear c21
              obtain rfl := Option.some.inj H
              go_wp2
              go_ret
              exact ⟨by first | rfl | (simp [errW_none, errW_some] <;> rfl) | (simp [*, errW_none, errW_some] <;> rfl), by repeat (first | (with_reducible first | exact HB.out | apply below_alloc | apply pw_below_drewN | apply below_drew1 | refine below_set ?_ GE138.out) | exact HB.out)⟩
            · rw [if_neg c21] at H
              have c21b0 : (a0_0 == 4) = false := beq_eq_false_iff_ne.mpr c21
              have c21b1 : (a0_0 != 4) = true := bne_iff_ne.mpr c21
              by_cases c22 : a0_0 = 5
              · rw [if_pos c22] at H
                have c22b0 : (a0_0 == 5) = true := beq_iff_eq.mpr c22
                have c22b1 : (a0_0 != 5) = false := bne_eq_false_iff_eq.mpr c22
                clear c22
                by_cases c23 : (a0_2 == 0) = true
                · rw [if_pos c23] at H
                  have c23b0 : (a0_2 == 0) = true := c23
                  (try (have c23b1 : decide (a0_2 = 0) = true := by simpa using c23))
                  (try (have c23b2 : (a0_2 == 0) = true := by simpa using c23))
                  clear c23
                  replace H := Option.bind_eq_some_iff.mp H
                  obtain ⟨t139, A240, H⟩ := H
                  replace H : (some t139) = some r := H
                  have A24 := Aside0.mk A240
                  clear A240
                  obtain rfl := Option.some.inj H
                  have hcz25_0 : wc.cell? ⟨gb138, 0, none⟩ = some (.int .i64 a0_0) := (blk_cell BK138.out 0).trans rfl
                  have hcz25_1 : wc.cell? ⟨gb138, 1, none⟩ = some (.bool a0_1) := (blk_cell BK138.out 1).trans rfl
                  have hcz25_2 : wc.cell? ⟨gb138, 2, none⟩ = some (.int .u64 a0_2) := (blk_cell BK138.out 2).trans rfl
                  have hcz25_3 : wc.cell? ⟨gb138, 3, none⟩ = some (.string a0_3) := (blk_cell BK138.out 3).trans rfl
                  have hcz25_4 : wc.cell? ⟨gb138, 4, none⟩ = some (.slice A0_4 l0_4.length c0_4) := (blk_cell BK138.out 4).trans rfl
                  have hfz25_0 := blk_frozen BK138.out 0
                  have hfz25_1 := blk_frozen BK138.out 1
                  have hfz25_2 := blk_frozen BK138.out 2
                  have hfz25_3 := blk_frozen BK138.out 3
                  have hfz25_4 := blk_frozen BK138.out 4
                  go_wp2_with (first | (go_at_call 55; (with_reducible refine (glossatorref08_Big.calls a0_3 t139 _ A24.out).mono ?_); rintro e w' ⟨rfl, ⟨nd, rfl⟩⟩))
                  go_ret
                  exact ⟨by first | rfl | (simp [errW_none, errW_some] <;> rfl) | (simp [*, errW_none, errW_some] <;> rfl), by repeat (first | (with_reducible first | exact HB.out | apply below_alloc | apply pw_below_drewN | apply below_drew1 | refine below_set ?_ GE138.out) | exact HB.out)⟩
                · rw [if_neg c23] at H
                  have c23b0 : (a0_2 == 0) = false := by simpa using c23
                  (try (have c23b1 : decide (a0_2 = 0) = false := by simpa using c23))
                  (try (have c23b2 : (a0_2 == 0) = false := by simpa using c23))
                  (try (have c23b3 : ¬ (a0_2 = 0) := by simpa using c23))
                  clear c23
                  obtain rfl := Option.some.inj H
                  go_wp2
                  go_ret
                  exact ⟨by first | rfl | (simp [errW_none, errW_some] <;> rfl) | (simp [*, errW_none, errW_some] <;> rfl), by repeat (first | (with_reducible first | exact HB.out | apply below_alloc | apply pw_below_drewN | apply below_drew1 | refine below_set ?_ GE138.out) | exact HB.out)⟩
              · rw [if_neg c22] at H
                have c22b0 : (a0_0 == 5) = false := beq_eq_false_iff_ne.mpr c22
                have c22b1 : (a0_0 != 5) = true := bne_iff_ne.mpr c22
                by_cases c26 : a0_0 = 6
                · rw [if_pos c26] at H
                  have c26b0 : (a0_0 == 6) = true := beq_iff_eq.mpr c26
                  have c26b1 : (a0_0 != 6) = false := bne_eq_false_iff_eq.mpr c26
                  clear c26
                  by_cases c27 : (a0_3.toList == ([] : List UInt8)) = true
                  · rw [if_pos c27] at H
                    have c27b0 : (a0_3.toList == ([] : List UInt8)) = true := c27
                    (try (have c27b1 : decide (a0_3.toList = ([] : List UInt8)) = true := by simpa using c27))
                    (try (have c27b2 : (a0_3.toList == ([] : List UInt8)) = true := by simpa using c27))
                    (try (have c27b3 : a0_3.toList.isEmpty = true := by simpa using c27))
                    clear c27
                    by_cases c28 : (!a0_1) = true
                    · rw [if_pos c28] at H
                      have c28b0 : (!a0_1) = true := c28
                      clear c28
                      obtain rfl := Option.some.inj H
                      have hcz29_0 : wc.cell? ⟨gb138, 0, none⟩ = some (.int .i64 a0_0) := (blk_cell BK138.out 0).trans rfl
                      have hcz29_1 : wc.cell? ⟨gb138, 1, none⟩ = some (.bool a0_1) := (blk_cell BK138.out 1).trans rfl
                      have hcz29_2 : wc.cell? ⟨gb138, 2, none⟩ = some (.int .u64 a0_2) := (blk_cell BK138.out 2).trans rfl
                      have hcz29_3 : wc.cell? ⟨gb138, 3, none⟩ = some (.string a0_3) := (blk_cell BK138.out 3).trans rfl
                      have hcz29_4 : wc.cell? ⟨gb138, 4, none⟩ = some (.slice A0_4 l0_4.length c0_4) := (blk_cell BK138.out 4).trans rfl
                      have hfz29_0 := blk_frozen BK138.out 0
                      have hfz29_1 := blk_frozen BK138.out 1
                      have hfz29_2 := blk_frozen BK138.out 2
                      have hfz29_3 := blk_frozen BK138.out 3
                      have hfz29_4 := blk_frozen BK138.out 4
                      go_wp2
                      go_ret
                      exact ⟨by first | rfl | (simp [errW_none, errW_some] <;> rfl) | (simp [*, errW_none, errW_some] <;> rfl), by repeat (first | (with_reducible first | exact HB.out | apply below_alloc | apply pw_below_drewN | apply below_drew1 | refine below_set ?_ GE138.out) | exact HB.out)⟩
                    · rw [if_neg c28] at H
                      have c28b0 : (!a0_1) = false := by simpa using c28
                      clear c28
                      obtain rfl := Option.some.inj H
                      go_wp2
                      go_ret
                      exact ⟨by first | rfl | (simp [errW_none, errW_some] <;> rfl) | (simp [*, errW_none, errW_some] <;> rfl), by repeat (first | (with_reducible first | exact HB.out | apply below_alloc | apply pw_below_drewN | apply below_drew1 | refine below_set ?_ GE138.out) | exact HB.out)⟩
                  · rw [if_neg c27] at H
                    have c27b0 : (a0_3.toList == ([] : List UInt8)) = false := by simpa using c27
                    (try (have c27b1 : decide (a0_3.toList = ([] : List UInt8)) = false := by simpa using c27))
                    (try (have c27b2 : (a0_3.toList == ([] : List UInt8)) = false := by simpa using c27))
                    (try (have c27b3 : ¬ (a0_3.toList = ([] : List UInt8)) := by simpa using c27))
                    (try (have c27b4 : a0_3.toList.isEmpty = false := by simpa using c27))
                    clear c27
                    obtain rfl := Option.some.inj H
                    go_wp2
                    go_ret
                    exact ⟨by first | rfl | (simp [errW_none, errW_some] <;> rfl) | (simp [*, errW_none, errW_some] <;> rfl), by repeat (first | (with_reducible first | exact HB.out | apply below_alloc | apply pw_below_drewN | apply below_drew1 | refine below_set ?_ GE138.out) | exact HB.out)⟩
                · rw [if_neg c26] at H
                  have c26b0 : (a0_0 == 6) = false := beq_eq_false_iff_ne.mpr c26
                  have c26b1 : (a0_0 != 6) = true := bne_iff_ne.mpr c26
                  by_cases c30 : a0_0 = 7
                  · rw [if_pos c30] at H
                    have c30b0 : (a0_0 == 7) = true := beq_iff_eq.mpr c30
                    have c30b1 : (a0_0 != 7) = false := bne_eq_false_iff_eq.mpr c30
                    clear c30
                    by_cases c31 : (a0_3.toList == ([] : List UInt8)) = true
                    · rw [if_pos c31] at H
                      have c31b0 : (a0_3.toList == ([] : List UInt8)) = true := c31
                      (try (have c31b1 : decide (a0_3.toList = ([] : List UInt8)) = true := by simpa using c31))
                      (try (have c31b2 : (a0_3.toList == ([] : List UInt8)) = true := by simpa using c31))
                      (try (have c31b3 : a0_3.toList.isEmpty = true := by simpa using c31))
                      clear c31
                      by_cases c32 : (!a0_1) = true
                      · rw [if_pos c32] at H
                        have c32b0 : (!a0_1) = true := c32
                        clear c32
                        obtain rfl := Option.some.inj H
                        have hcz33_0 : wc.cell? ⟨gb138, 0, none⟩ = some (.int .i64 a0_0) := (blk_cell BK138.out 0).trans rfl
                        have hcz33_1 : wc.cell? ⟨gb138, 1, none⟩ = some (.bool a0_1) := (blk_cell BK138.out 1).trans rfl
                        have hcz33_2 : wc.cell? ⟨gb138, 2, none⟩ = some (.int .u64 a0_2) := (blk_cell BK138.out 2).trans rfl
                        have hcz33_3 : wc.cell? ⟨gb138, 3, none⟩ = some (.string a0_3) := (blk_cell BK138.out 3).trans rfl
                        have hcz33_4 : wc.cell? ⟨gb138, 4, none⟩ = some (.slice A0_4 l0_4.length c0_4) := (blk_cell BK138.out 4).trans rfl
                        have hfz33_0 := blk_frozen BK138.out 0
                        have hfz33_1 := blk_frozen BK138.out 1
                        have hfz33_2 := blk_frozen BK138.out 2
                        have hfz33_3 := blk_frozen BK138.out 3
                        have hfz33_4 := blk_frozen BK138.out 4
                        go_wp2
                        go_ret
                        exact ⟨by first | rfl | (simp [errW_none, errW_some] <;> rfl) | (simp [*, errW_none, errW_some] <;> rfl), by repeat (first | (with_reducible first | exact HB.out | apply below_alloc | apply pw_below_drewN | apply below_drew1 | refine below_set ?_ GE138.out) | exact HB.out)⟩
                      · rw [if_neg c32] at H
                        have c32b0 : (!a0_1) = false := by simpa using c32
                        clear c32
                        obtain rfl := Option.some.inj H
                        go_wp2
                        go_ret
                        exact ⟨by first | rfl | (simp [errW_none, errW_some] <;> rfl) | (simp [*, errW_none, errW_some] <;> rfl), by repeat (first | (with_reducible first | exact HB.out | apply below_alloc | apply pw_below_drewN | apply below_drew1 | refine below_set ?_ GE138.out) | exact HB.out)⟩
                    · rw [if_neg c31] at H
                      have c31b0 : (a0_3.toList == ([] : List UInt8)) = false := by simpa using c31
                      (try (have c31b1 : decide (a0_3.toList = ([] : List UInt8)) = false := by simpa using c31))
                      (try (have c31b2 : (a0_3.toList == ([] : List UInt8)) = false := by simpa using c31))
                      (try (have c31b3 : ¬ (a0_3.toList = ([] : List UInt8)) := by simpa using c31))
                      (try (have c31b4 : a0_3.toList.isEmpty = false := by simpa using c31))
                      clear c31
                      obtain rfl := Option.some.inj H
                      go_wp2
                      go_ret
                      exact ⟨by first | rfl | (simp [errW_none, errW_some] <;> rfl) | (simp [*, errW_none, errW_some] <;> rfl), by repeat (first | (with_reducible first | exact HB.out | apply below_alloc | apply pw_below_drewN | apply below_drew1 | refine below_set ?_ GE138.out) | exact HB.out)⟩
                  · rw [if_neg c30] at H
                    have c30b0 : (a0_0 == 7) = false := beq_eq_false_iff_ne.mpr c30
                    have c30b1 : (a0_0 != 7) = true := bne_iff_ne.mpr c30
                    by_cases c34 : a0_0 = 8
                    · rw [if_pos c34] at H
                      have c34b0 : (a0_0 == 8) = true := beq_iff_eq.mpr c34
                      have c34b1 : (a0_0 != 8) = false := bne_eq_false_iff_eq.mpr c34
                      clear c34
                      by_cases c35 : (a0_3.toList == ([] : List UInt8)) = true
                      · rw [if_pos c35] at H
                        have c35b0 : (a0_3.toList == ([] : List UInt8)) = true := c35
                        (try (have c35b1 : decide (a0_3.toList = ([] : List UInt8)) = true := by simpa using c35))
                        (try (have c35b2 : (a0_3.toList == ([] : List UInt8)) = true := by simpa using c35))
                        (try (have c35b3 : a0_3.toList.isEmpty = true := by simpa using c35))
                        clear c35
                        obtain rfl := Option.some.inj H
                        go_wp2
                        go_ret
                        exact ⟨by first | rfl | (simp [errW_none, errW_some] <;> rfl) | (simp [*, errW_none, errW_some] <;> rfl), by repeat (first | (with_reducible first | exact HB.out | apply below_alloc | apply pw_below_drewN | apply below_drew1 | refine below_set ?_ GE138.out) | exact HB.out)⟩
                      · rw [if_neg c35] at H
                        have c35b0 : (a0_3.toList == ([] : List UInt8)) = false := by simpa using c35
                        (try (have c35b1 : decide (a0_3.toList = ([] : List UInt8)) = false := by simpa using c35))
                        (try (have c35b2 : (a0_3.toList == ([] : List UInt8)) = false := by simpa using c35))
                        (try (have c35b3 : ¬ (a0_3.toList = ([] : List UInt8)) := by simpa using c35))
                        (try (have c35b4 : a0_3.toList.isEmpty = false := by simpa using c35))
                        clear c35
                        obtain rfl := Option.some.inj H
                        go_wp2
                        go_ret
                        exact ⟨by first | rfl | (simp [errW_none, errW_some] <;> rfl) | (simp [*, errW_none, errW_some] <;> rfl), by repeat (first | (with_reducible first | exact HB.out | apply below_alloc | apply pw_below_drewN | apply below_drew1 | refine below_set ?_ GE138.out) | exact HB.out)⟩
                    · rw [if_neg c34] at H
                      have c34b0 : (a0_0 == 8) = false := beq_eq_false_iff_ne.mpr c34
                      have c34b1 : (a0_0 != 8) = true := bne_iff_ne.mpr c34
                      by_cases c36 : a0_0 = 9
                      · rw [if_pos c36] at H
                        have c36b0 : (a0_0 == 9) = true := beq_iff_eq.mpr c36
                        have c36b1 : (a0_0 != 9) = false := bne_eq_false_iff_eq.mpr c36
                        clear c36
                        by_cases c37 : (a0_2 == 0) = true
                        · rw [if_pos c37] at H
                          have c37b0 : (a0_2 == 0) = true := c37
                          (try (have c37b1 : decide (a0_2 = 0) = true := by simpa using c37))
                          (try (have c37b2 : (a0_2 == 0) = true := by simpa using c37))
                          clear c37
                          obtain rfl := Option.some.inj H
                          go_wp2
                          go_ret
                          exact ⟨by first | rfl | (simp [errW_none, errW_some] <;> rfl) | (simp [*, errW_none, errW_some] <;> rfl), by repeat (first | (with_reducible first | exact HB.out | apply below_alloc | apply pw_below_drewN | apply below_drew1 | refine below_set ?_ GE138.out) | exact HB.out)⟩
                        · rw [if_neg c37] at H
                          have c37b0 : (a0_2 == 0) = false := by simpa using c37
                          (try (have c37b1 : decide (a0_2 = 0) = false := by simpa using c37))
                          (try (have c37b2 : (a0_2 == 0) = false := by simpa using c37))
                          (try (have c37b3 : ¬ (a0_2 = 0) := by simpa using c37))
                          clear c37
                          obtain rfl := Option.some.inj H
                          go_wp2
                          go_ret
                          exact ⟨by first | rfl | (simp [errW_none, errW_some] <;> rfl) | (simp [*, errW_none, errW_some] <;> rfl), by repeat (first | (with_reducible first | exact HB.out | apply below_alloc | apply pw_below_drewN | apply below_drew1 | refine below_set ?_ GE138.out) | exact HB.out)⟩
                      · rw [if_neg c36] at H
                        have c36b0 : (a0_0 == 9) = false := beq_eq_false_iff_ne.mpr c36
                        have c36b1 : (a0_0 != 9) = true := bne_iff_ne.mpr c36
                        by_cases c38 : a0_0 = 10
                        · rw [if_pos c38] at H
                          have c38b0 : (a0_0 == 10) = true := beq_iff_eq.mpr c38
                          have c38b1 : (a0_0 != 10) = false := bne_eq_false_iff_eq.mpr c38
                          clear c38
                          replace H := Option.bind_eq_some_iff.mp H
                          obtain ⟨⟨t140, t141⟩, A390, H⟩ := H
                          replace H : (if (a0_2 == 0) = true then (if (!a0_1) = true then (some (t141 == 0)) else (some false)) else (some false)) = some r := H
                          have A39 := Aside0.mk A390
                          clear A390
                          by_cases c40 : (a0_2 == 0) = true
                          · rw [if_pos c40] at H
                            have c40b0 : (a0_2 == 0) = true := c40
                            (try (have c40b1 : decide (a0_2 = 0) = true := by simpa using c40))
                            (try (have c40b2 : (a0_2 == 0) = true := by simpa using c40))
                            clear c40
                            by_cases c41 : (!a0_1) = true
                            · rw [if_pos c41] at H
                              have c41b0 : (!a0_1) = true := c41
                              clear c41
                              obtain rfl := Option.some.inj H
                              have hcz42_0 : wc.cell? ⟨gb138, 0, none⟩ = some (.int .i64 a0_0) := (blk_cell BK138.out 0).trans rfl
                              have hcz42_1 : wc.cell? ⟨gb138, 1, none⟩ = some (.bool a0_1) := (blk_cell BK138.out 1).trans rfl
                              have hcz42_2 : wc.cell? ⟨gb138, 2, none⟩ = some (.int .u64 a0_2) := (blk_cell BK138.out 2).trans rfl
                              have hcz42_3 : wc.cell? ⟨gb138, 3, none⟩ = some (.string a0_3) := (blk_cell BK138.out 3).trans rfl
                              have hcz42_4 : wc.cell? ⟨gb138, 4, none⟩ = some (.slice A0_4 l0_4.length c0_4) := (blk_cell BK138.out 4).trans rfl
                              have hfz42_0 := blk_frozen BK138.out 0
                              have hfz42_1 := blk_frozen BK138.out 1
                              have hfz42_2 := blk_frozen BK138.out 2
                              have hfz42_3 := blk_frozen BK138.out 3
                              have hfz42_4 := blk_frozen BK138.out 4
                              go_wp2_with (first | ((with_reducible refine gate_callee (f := 57) rfl ?_); refine goesL_ (some 111) rfl rfl Try.func57 (by kernel_rfl) rfl #[.string a0_3] rfl (by (try simp only [List.map_toArray, List.map_cons, List.map_nil]); first | done | rfl | (simp only [List.length_drop, List.length_take]; rfl)) ?_; (with_reducible refine (glossatorref02_Check.calls kj1 a0_3 t140 t141 _ A39.out).mono ?_); rintro e w' ⟨rfl, ⟨nd, rfl⟩⟩; refine ⟨_, rfl, ?_⟩))
                              go_ret
                              exact ⟨by first | rfl | (simp [errW_none, errW_some] <;> rfl) | (simp [*, errW_none, errW_some] <;> rfl), by repeat (first | (with_reducible first | exact HB.out | apply below_alloc | apply pw_below_drewN | apply below_drew1 | refine below_set ?_ GE138.out) | exact HB.out)⟩
                            · rw [if_neg c41] at H
                              have c41b0 : (!a0_1) = false := by simpa using c41
                              clear c41
                              obtain rfl := Option.some.inj H
                              have hcz43_0 : wc.cell? ⟨gb138, 0, none⟩ = some (.int .i64 a0_0) := (blk_cell BK138.out 0).trans rfl
                              have hcz43_1 : wc.cell? ⟨gb138, 1, none⟩ = some (.bool a0_1) := (blk_cell BK138.out 1).trans rfl
                              have hcz43_2 : wc.cell? ⟨gb138, 2, none⟩ = some (.int .u64 a0_2) := (blk_cell BK138.out 2).trans rfl
                              have hcz43_3 : wc.cell? ⟨gb138, 3, none⟩ = some (.string a0_3) := (blk_cell BK138.out 3).trans rfl
                              have hcz43_4 : wc.cell? ⟨gb138, 4, none⟩ = some (.slice A0_4 l0_4.length c0_4) := (blk_cell BK138.out 4).trans rfl
                              have hfz43_0 := blk_frozen BK138.out 0
                              have hfz43_1 := blk_frozen BK138.out 1
                              have hfz43_2 := blk_frozen BK138.out 2
                              have hfz43_3 := blk_frozen BK138.out 3
                              have hfz43_4 := blk_frozen BK138.out 4
                              go_wp2_with (first | ((with_reducible refine gate_callee (f := 57) rfl ?_); refine goesL_ (some 111) rfl rfl Try.func57 (by kernel_rfl) rfl #[.string a0_3] rfl (by (try simp only [List.map_toArray, List.map_cons, List.map_nil]); first | done | rfl | (simp only [List.length_drop, List.length_take]; rfl)) ?_; (with_reducible refine (glossatorref02_Check.calls kj1 a0_3 t140 t141 _ A39.out).mono ?_); rintro e w' ⟨rfl, ⟨nd, rfl⟩⟩; refine ⟨_, rfl, ?_⟩))
                              go_ret
                              exact ⟨by first | rfl | (simp [errW_none, errW_some] <;> rfl) | (simp [*, errW_none, errW_some] <;> rfl), by repeat (first | (with_reducible first | exact HB.out | apply below_alloc | apply pw_below_drewN | apply below_drew1 | refine below_set ?_ GE138.out) | exact HB.out)⟩
                          · rw [if_neg c40] at H
                            have c40b0 : (a0_2 == 0) = false := by simpa using c40
                            (try (have c40b1 : decide (a0_2 = 0) = false := by simpa using c40))
                            (try (have c40b2 : (a0_2 == 0) = false := by simpa using c40))
                            (try (have c40b3 : ¬ (a0_2 = 0) := by simpa using c40))
                            clear c40
                            obtain rfl := Option.some.inj H
                            have hcz44_0 : wc.cell? ⟨gb138, 0, none⟩ = some (.int .i64 a0_0) := (blk_cell BK138.out 0).trans rfl
                            have hcz44_1 : wc.cell? ⟨gb138, 1, none⟩ = some (.bool a0_1) := (blk_cell BK138.out 1).trans rfl
                            have hcz44_2 : wc.cell? ⟨gb138, 2, none⟩ = some (.int .u64 a0_2) := (blk_cell BK138.out 2).trans rfl
                            have hcz44_3 : wc.cell? ⟨gb138, 3, none⟩ = some (.string a0_3) := (blk_cell BK138.out 3).trans rfl
                            have hcz44_4 : wc.cell? ⟨gb138, 4, none⟩ = some (.slice A0_4 l0_4.length c0_4) := (blk_cell BK138.out 4).trans rfl
                            have hfz44_0 := blk_frozen BK138.out 0
                            have hfz44_1 := blk_frozen BK138.out 1
                            have hfz44_2 := blk_frozen BK138.out 2
                            have hfz44_3 := blk_frozen BK138.out 3
                            have hfz44_4 := blk_frozen BK138.out 4
                            go_wp2_with (first | ((with_reducible refine gate_callee (f := 57) rfl ?_); refine goesL_ (some 111) rfl rfl Try.func57 (by kernel_rfl) rfl #[.string a0_3] rfl (by (try simp only [List.map_toArray, List.map_cons, List.map_nil]); first | done | rfl | (simp only [List.length_drop, List.length_take]; rfl)) ?_; (with_reducible refine (glossatorref02_Check.calls kj1 a0_3 t140 t141 _ A39.out).mono ?_); rintro e w' ⟨rfl, ⟨nd, rfl⟩⟩; refine ⟨_, rfl, ?_⟩))
                            go_ret
                            exact ⟨by first | rfl | (simp [errW_none, errW_some] <;> rfl) | (simp [*, errW_none, errW_some] <;> rfl), by repeat (first | (with_reducible first | exact HB.out | apply below_alloc | apply pw_below_drewN | apply below_drew1 | refine below_set ?_ GE138.out) | exact HB.out)⟩
                        · rw [if_neg c38] at H
                          have c38b0 : (a0_0 == 10) = false := beq_eq_false_iff_ne.mpr c38
                          have c38b1 : (a0_0 != 10) = true := bne_iff_ne.mpr c38
                          by_cases c45 : a0_0 = 11
                          · rw [if_pos c45] at H
                            have c45b0 : (a0_0 == 11) = true := beq_iff_eq.mpr c45
                            have c45b1 : (a0_0 != 11) = false := bne_eq_false_iff_eq.mpr c45
                            clear c45
                            by_cases c46 : (a0_3.toList == ([] : List UInt8)) = true
                            · rw [if_pos c46] at H
                              have c46b0 : (a0_3.toList == ([] : List UInt8)) = true := c46
                              (try (have c46b1 : decide (a0_3.toList = ([] : List UInt8)) = true := by simpa using c46))
                              (try (have c46b2 : (a0_3.toList == ([] : List UInt8)) = true := by simpa using c46))
                              (try (have c46b3 : a0_3.toList.isEmpty = true := by simpa using c46))
                              clear c46
                              by_cases c47 : (a0_2 == 0) = true
                              · rw [if_pos c47] at H
                                have c47b0 : (a0_2 == 0) = true := c47
                                (try (have c47b1 : decide (a0_2 = 0) = true := by simpa using c47))
                                (try (have c47b2 : (a0_2 == 0) = true := by simpa using c47))
                                clear c47
                                obtain rfl := Option.some.inj H
                                go_wp2
                                go_ret
                                exact ⟨by first | rfl | (simp [errW_none, errW_some] <;> rfl) | (simp [*, errW_none, errW_some] <;> rfl), by repeat (first | (with_reducible first | exact HB.out | apply below_alloc | apply pw_below_drewN | apply below_drew1 | refine below_set ?_ GE138.out) | exact HB.out)⟩
                              · rw [if_neg c47] at H
                                have c47b0 : (a0_2 == 0) = false := by simpa using c47
                                (try (have c47b1 : decide (a0_2 = 0) = false := by simpa using c47))
                                (try (have c47b2 : (a0_2 == 0) = false := by simpa using c47))
                                (try (have c47b3 : ¬ (a0_2 = 0) := by simpa using c47))
                                clear c47
                                obtain rfl := Option.some.inj H
                                go_wp2
                                go_ret
                                exact ⟨by first | rfl | (simp [errW_none, errW_some] <;> rfl) | (simp [*, errW_none, errW_some] <;> rfl), by repeat (first | (with_reducible first | exact HB.out | apply below_alloc | apply pw_below_drewN | apply below_drew1 | refine below_set ?_ GE138.out) | exact HB.out)⟩
                            · rw [if_neg c46] at H
                              have c46b0 : (a0_3.toList == ([] : List UInt8)) = false := by simpa using c46
                              (try (have c46b1 : decide (a0_3.toList = ([] : List UInt8)) = false := by simpa using c46))
                              (try (have c46b2 : (a0_3.toList == ([] : List UInt8)) = false := by simpa using c46))
                              (try (have c46b3 : ¬ (a0_3.toList = ([] : List UInt8)) := by simpa using c46))
                              (try (have c46b4 : a0_3.toList.isEmpty = false := by simpa using c46))
                              clear c46
                              obtain rfl := Option.some.inj H
                              go_wp2
                              go_ret
                              exact ⟨by first | rfl | (simp [errW_none, errW_some] <;> rfl) | (simp [*, errW_none, errW_some] <;> rfl), by repeat (first | (with_reducible first | exact HB.out | apply below_alloc | apply pw_below_drewN | apply below_drew1 | refine below_set ?_ GE138.out) | exact HB.out)⟩
                          · rw [if_neg c45] at H
                            have c45b0 : (a0_0 == 11) = false := beq_eq_false_iff_ne.mpr c45
                            have c45b1 : (a0_0 != 11) = true := bne_iff_ne.mpr c45
                            by_cases c48 : a0_0 = 12
                            · rw [if_pos c48] at H
                              have c48b0 : (a0_0 == 12) = true := beq_iff_eq.mpr c48
                              have c48b1 : (a0_0 != 12) = false := bne_eq_false_iff_eq.mpr c48
                              clear c48
                              by_cases c49 : (a0_3.toList == ([] : List UInt8)) = true
                              · rw [if_pos c49] at H
                                have c49b0 : (a0_3.toList == ([] : List UInt8)) = true := c49
                                (try (have c49b1 : decide (a0_3.toList = ([] : List UInt8)) = true := by simpa using c49))
                                (try (have c49b2 : (a0_3.toList == ([] : List UInt8)) = true := by simpa using c49))
                                (try (have c49b3 : a0_3.toList.isEmpty = true := by simpa using c49))
                                clear c49
                                by_cases c50 : (a0_2 == 0) = true
                                · rw [if_pos c50] at H
                                  have c50b0 : (a0_2 == 0) = true := c50
                                  (try (have c50b1 : decide (a0_2 = 0) = true := by simpa using c50))
                                  (try (have c50b2 : (a0_2 == 0) = true := by simpa using c50))
                                  clear c50
                                  by_cases c51 : (!a0_1) = true
                                  · rw [if_pos c51] at H
                                    have c51b0 : (!a0_1) = true := c51
                                    clear c51
                                    obtain rfl := Option.some.inj H
                                    have hcz52_0 : wc.cell? ⟨gb138, 0, none⟩ = some (.int .i64 a0_0) := (blk_cell BK138.out 0).trans rfl
                                    have hcz52_1 : wc.cell? ⟨gb138, 1, none⟩ = some (.bool a0_1) := (blk_cell BK138.out 1).trans rfl
                                    have hcz52_2 : wc.cell? ⟨gb138, 2, none⟩ = some (.int .u64 a0_2) := (blk_cell BK138.out 2).trans rfl
                                    have hcz52_3 : wc.cell? ⟨gb138, 3, none⟩ = some (.string a0_3) := (blk_cell BK138.out 3).trans rfl
                                    have hcz52_4 : wc.cell? ⟨gb138, 4, none⟩ = some (.slice A0_4 l0_4.length c0_4) := (blk_cell BK138.out 4).trans rfl
                                    have hfz52_0 := blk_frozen BK138.out 0
                                    have hfz52_1 := blk_frozen BK138.out 1
                                    have hfz52_2 := blk_frozen BK138.out 2
                                    have hfz52_3 := blk_frozen BK138.out 3
                                    have hfz52_4 := blk_frozen BK138.out 4
                                    go_wp2
                                    go_ret
                                    exact ⟨by first | rfl | (simp [errW_none, errW_some] <;> rfl) | (simp [*, errW_none, errW_some] <;> rfl), by repeat (first | (with_reducible first | exact HB.out | apply below_alloc | apply pw_below_drewN | apply below_drew1 | refine below_set ?_ GE138.out) | exact HB.out)⟩
                                  · rw [if_neg c51] at H
                                    have c51b0 : (!a0_1) = false := by simpa using c51
                                    clear c51
                                    obtain rfl := Option.some.inj H
                                    go_wp2
                                    go_ret
                                    exact ⟨by first | rfl | (simp [errW_none, errW_some] <;> rfl) | (simp [*, errW_none, errW_some] <;> rfl), by repeat (first | (with_reducible first | exact HB.out | apply below_alloc | apply pw_below_drewN | apply below_drew1 | refine below_set ?_ GE138.out) | exact HB.out)⟩
                                · rw [if_neg c50] at H
                                  have c50b0 : (a0_2 == 0) = false := by simpa using c50
                                  (try (have c50b1 : decide (a0_2 = 0) = false := by simpa using c50))
                                  (try (have c50b2 : (a0_2 == 0) = false := by simpa using c50))
                                  (try (have c50b3 : ¬ (a0_2 = 0) := by simpa using c50))
                                  clear c50
                                  obtain rfl := Option.some.inj H
                                  go_wp2
                                  go_ret
                                  exact ⟨by first | rfl | (simp [errW_none, errW_some] <;> rfl) | (simp [*, errW_none, errW_some] <;> rfl), by repeat (first | (with_reducible first | exact HB.out | apply below_alloc | apply pw_below_drewN | apply below_drew1 | refine below_set ?_ GE138.out) | exact HB.out)⟩
                              · rw [if_neg c49] at H
                                have c49b0 : (a0_3.toList == ([] : List UInt8)) = false := by simpa using c49
                                (try (have c49b1 : decide (a0_3.toList = ([] : List UInt8)) = false := by simpa using c49))
                                (try (have c49b2 : (a0_3.toList == ([] : List UInt8)) = false := by simpa using c49))
                                (try (have c49b3 : ¬ (a0_3.toList = ([] : List UInt8)) := by simpa using c49))
                                (try (have c49b4 : a0_3.toList.isEmpty = false := by simpa using c49))
                                clear c49
                                obtain rfl := Option.some.inj H
                                go_wp2
                                go_ret
                                exact ⟨by first | rfl | (simp [errW_none, errW_some] <;> rfl) | (simp [*, errW_none, errW_some] <;> rfl), by repeat (first | (with_reducible first | exact HB.out | apply below_alloc | apply pw_below_drewN | apply below_drew1 | refine below_set ?_ GE138.out) | exact HB.out)⟩
                            · rw [if_neg c48] at H
                              have c48b0 : (a0_0 == 12) = false := beq_eq_false_iff_ne.mpr c48
                              have c48b1 : (a0_0 != 12) = true := bne_iff_ne.mpr c48
                              by_cases c53 : a0_0 = 13
                              · rw [if_pos c53] at H
                                have c53b0 : (a0_0 == 13) = true := beq_iff_eq.mpr c53
                                have c53b1 : (a0_0 != 13) = false := bne_eq_false_iff_eq.mpr c53
                                clear c53
                                by_cases c54 : (a0_3.toList == ([] : List UInt8)) = true
                                · rw [if_pos c54] at H
                                  have c54b0 : (a0_3.toList == ([] : List UInt8)) = true := c54
                                  (try (have c54b1 : decide (a0_3.toList = ([] : List UInt8)) = true := by simpa using c54))
                                  (try (have c54b2 : (a0_3.toList == ([] : List UInt8)) = true := by simpa using c54))
                                  (try (have c54b3 : a0_3.toList.isEmpty = true := by simpa using c54))
                                  clear c54
                                  by_cases c55 : (!a0_1) = true
                                  · rw [if_pos c55] at H
                                    have c55b0 : (!a0_1) = true := c55
                                    clear c55
                                    by_cases c56 : (l0_4.length : Int) = 1
                                    · rw [if_pos c56] at H
                                      have c56b0 : ((l0_4.length : Int) == 1) = true := beq_iff_eq.mpr c56
                                      have c56b1 : ((l0_4.length : Int) != 1) = false := bne_eq_false_iff_eq.mpr c56
                                      clear c56
                                      by_cases c57 : a0_2 = 2
                                      · rw [if_pos c57] at H
                                        have c57b0 : (a0_2 == 2) = true := beq_iff_eq.mpr c57
                                        have c57b1 : (a0_2 != 2) = false := bne_eq_false_iff_eq.mpr c57
                                        clear c57
                                        by_cases c58 : 0 < (l0_4.length : Int)
                                        · rw [if_pos c58] at H
                                          have c58b0 : decide (0 < (l0_4.length : Int)) = true := decide_eq_true c58
                                          have c58b1 : decide (0 < l0_4.length) = true := decide_eq_true (by omega)
                                          clear c58
                                          by_cases c59 : ((rd_T25 l0_4 0).f0) = 9
                                          · rw [if_pos c59] at H
                                            have c59b0 : (((rd_T25 l0_4 0).f0) == 9) = true := beq_iff_eq.mpr c59
                                            have c59b1 : (((rd_T25 l0_4 0).f0) != 9) = false := bne_eq_false_iff_eq.mpr c59
                                            clear c59
                                            replace H := Option.bind_eq_some_iff.mp H
                                            obtain ⟨t144, A600, H⟩ := H
                                            replace H : (some (!t144)) = some r := H
                                            have A60 := Aside0.mk A600
                                            clear A600
                                            obtain rfl := Option.some.inj H
                                            have hcz61_0 : wc.cell? ⟨gb138, 0, none⟩ = some (.int .i64 a0_0) := (blk_cell BK138.out 0).trans rfl
                                            have hcz61_1 : wc.cell? ⟨gb138, 1, none⟩ = some (.bool a0_1) := (blk_cell BK138.out 1).trans rfl
                                            have hcz61_2 : wc.cell? ⟨gb138, 2, none⟩ = some (.int .u64 a0_2) := (blk_cell BK138.out 2).trans rfl
                                            have hcz61_3 : wc.cell? ⟨gb138, 3, none⟩ = some (.string a0_3) := (blk_cell BK138.out 3).trans rfl
                                            have hcz61_4 : wc.cell? ⟨gb138, 4, none⟩ = some (.slice A0_4 l0_4.length c0_4) := (blk_cell BK138.out 4).trans rfl
                                            have hfz61_0 := blk_frozen BK138.out 0
                                            have hfz61_1 := blk_frozen BK138.out 1
                                            have hfz61_2 := blk_frozen BK138.out 2
                                            have hfz61_3 := blk_frozen BK138.out 3
                                            have hfz61_4 := blk_frozen BK138.out 4
                                            have p142 : 0 ≤ (0 : Int) := (by omega)
                                            have q142 : 0 < (l0_4.length : Int) := of_decide_eq_true (by first | (with_reducible assumption) | assumption)
                                            obtain ⟨ad142, A142_4, c142_4, e142, hx142_0, hx142_1, hx142_2, hx142_3, hx142_4, hl142_4, hi142_4⟩ := at_T25 HR0_4.out 0 p142 q142
                                            cases e142
                                            have qi142 : (0 < l0_4.length) = True := eq_true (by omega)
                                            (try rw [show ((0 : Int)).toNat = 0 from rfl] at hx142_0)
                                            (try rw [show 0 * 5 = 0 from rfl] at hx142_0)
                                            (try rw [Addr.add_zero'] at hx142_0)
                                            (try rw [show ((0 : Int)).toNat = 0 from rfl] at hx142_1)
                                            (try rw [show 0 * 5 = 0 from rfl] at hx142_1)
                                            (try rw [Addr.add_zero'] at hx142_1)
                                            (try rw [show ((0 : Int)).toNat = 0 from rfl] at hx142_2)
                                            (try rw [show 0 * 5 = 0 from rfl] at hx142_2)
                                            (try rw [Addr.add_zero'] at hx142_2)
                                            (try rw [show ((0 : Int)).toNat = 0 from rfl] at hx142_3)
                                            (try rw [show 0 * 5 = 0 from rfl] at hx142_3)
                                            (try rw [Addr.add_zero'] at hx142_3)
                                            (try rw [show ((0 : Int)).toNat = 0 from rfl] at hx142_4)
                                            (try rw [show 0 * 5 = 0 from rfl] at hx142_4)
                                            (try rw [Addr.add_zero'] at hx142_4)
                                            replace hx142_0 := (HB.out.cell (World.block_lt_of_cell? w _ hx142_0)).trans hx142_0
                                            replace hx142_1 := (HB.out.cell (World.block_lt_of_cell? w _ hx142_1)).trans hx142_1
                                            replace hx142_2 := (HB.out.cell (World.block_lt_of_cell? w _ hx142_2)).trans hx142_2
                                            replace hx142_3 := (HB.out.cell (World.block_lt_of_cell? w _ hx142_3)).trans hx142_3
                                            replace hx142_4 := (HB.out.cell (World.block_lt_of_cell? w _ hx142_4)).trans hx142_4
                                            have HR142_4 := Aside0.mk hi142_4
                                            have HC142_4 := Aside0.mk hl142_4
                                            clear hi142_4 hl142_4
                                            replace p142 := eq_true p142
                                            replace q142 := eq_true q142
                                            have p143 : 0 ≤ (0 : Int) := (by omega)
                                            have q143 : 0 < (l0_4.length : Int) := of_decide_eq_true (by first | (with_reducible assumption) | assumption)
                                            obtain ⟨ad143, A143_4, c143_4, e143, hx143_0, hx143_1, hx143_2, hx143_3, hx143_4, hl143_4, hi143_4⟩ := at_T25 HR0_4.out 0 p143 q143
                                            obtain rfl : ad142 = ad143 := (by injection e143)
                                            have qi143 : (0 < l0_4.length) = True := eq_true (by omega)
                                            (try rw [show ((0 : Int)).toNat = 0 from rfl] at hx143_0)
                                            (try rw [show 0 * 5 = 0 from rfl] at hx143_0)
                                            (try rw [Addr.add_zero'] at hx143_0)
                                            (try rw [show ((0 : Int)).toNat = 0 from rfl] at hx143_1)
                                            (try rw [show 0 * 5 = 0 from rfl] at hx143_1)
                                            (try rw [Addr.add_zero'] at hx143_1)
                                            (try rw [show ((0 : Int)).toNat = 0 from rfl] at hx143_2)
                                            (try rw [show 0 * 5 = 0 from rfl] at hx143_2)
                                            (try rw [Addr.add_zero'] at hx143_2)
                                            (try rw [show ((0 : Int)).toNat = 0 from rfl] at hx143_3)
                                            (try rw [show 0 * 5 = 0 from rfl] at hx143_3)
                                            (try rw [Addr.add_zero'] at hx143_3)
                                            (try rw [show ((0 : Int)).toNat = 0 from rfl] at hx143_4)
                                            (try rw [show 0 * 5 = 0 from rfl] at hx143_4)
                                            (try rw [Addr.add_zero'] at hx143_4)
                                            replace hx143_0 := (HB.out.cell (World.block_lt_of_cell? w _ hx143_0)).trans hx143_0
                                            replace hx143_1 := (HB.out.cell (World.block_lt_of_cell? w _ hx143_1)).trans hx143_1
                                            replace hx143_2 := (HB.out.cell (World.block_lt_of_cell? w _ hx143_2)).trans hx143_2
                                            replace hx143_3 := (HB.out.cell (World.block_lt_of_cell? w _ hx143_3)).trans hx143_3
                                            replace hx143_4 := (HB.out.cell (World.block_lt_of_cell? w _ hx143_4)).trans hx143_4
                                            have HR143_4 := Aside0.mk hi143_4
                                            have HC143_4 := Aside0.mk hl143_4
                                            clear hi143_4 hl143_4
                                            replace p143 := eq_true p143
                                            replace q143 := eq_true q143
                                            have ea_ := Option.some.inj (hx142_4.symm.trans hx143_4)
                                            injection ea_ with ea_ en_ ec_
                                            subst ea_
                                            subst ec_
                                            clear en_
                                            go_wp2_with (first | (go_at_call 55; (with_reducible refine (glossatorref08_Big.calls ((rd_T25 l0_4 0).f3) t144 _ A60.out).mono ?_); rintro e w' ⟨rfl, ⟨nd, rfl⟩⟩))
                                            go_ret
                                            exact ⟨by first | rfl | (simp [errW_none, errW_some] <;> rfl) | (simp [*, errW_none, errW_some] <;> rfl), by repeat (first | (with_reducible first | exact HB.out | apply below_alloc | apply pw_below_drewN | apply below_drew1 | refine below_set ?_ GE138.out) | exact HB.out)⟩
                                          · rw [if_neg c59] at H
                                            have c59b0 : (((rd_T25 l0_4 0).f0) == 9) = false := beq_eq_false_iff_ne.mpr c59
                                            have c59b1 : (((rd_T25 l0_4 0).f0) != 9) = true := bne_iff_ne.mpr c59
                                            obtain rfl := Option.some.inj H
                                            have hcz62_0 : wc.cell? ⟨gb138, 0, none⟩ = some (.int .i64 a0_0) := (blk_cell BK138.out 0).trans rfl
                                            have hcz62_1 : wc.cell? ⟨gb138, 1, none⟩ = some (.bool a0_1) := (blk_cell BK138.out 1).trans rfl
                                            have hcz62_2 : wc.cell? ⟨gb138, 2, none⟩ = some (.int .u64 a0_2) := (blk_cell BK138.out 2).trans rfl
                                            have hcz62_3 : wc.cell? ⟨gb138, 3, none⟩ = some (.string a0_3) := (blk_cell BK138.out 3).trans rfl
                                            have hcz62_4 : wc.cell? ⟨gb138, 4, none⟩ = some (.slice A0_4 l0_4.length c0_4) := (blk_cell BK138.out 4).trans rfl
                                            have hfz62_0 := blk_frozen BK138.out 0
                                            have hfz62_1 := blk_frozen BK138.out 1
                                            have hfz62_2 := blk_frozen BK138.out 2
                                            have hfz62_3 := blk_frozen BK138.out 3
                                            have hfz62_4 := blk_frozen BK138.out 4
                                            have p142 : 0 ≤ (0 : Int) := (by omega)
                                            have q142 : 0 < (l0_4.length : Int) := of_decide_eq_true (by first | (with_reducible assumption) | assumption)
                                            obtain ⟨ad142, A142_4, c142_4, e142, hx142_0, hx142_1, hx142_2, hx142_3, hx142_4, hl142_4, hi142_4⟩ := at_T25 HR0_4.out 0 p142 q142
                                            cases e142
                                            have qi142 : (0 < l0_4.length) = True := eq_true (by omega)
                                            (try rw [show ((0 : Int)).toNat = 0 from rfl] at hx142_0)
                                            (try rw [show 0 * 5 = 0 from rfl] at hx142_0)
                                            (try rw [Addr.add_zero'] at hx142_0)
                                            (try rw [show ((0 : Int)).toNat = 0 from rfl] at hx142_1)
                                            (try rw [show 0 * 5 = 0 from rfl] at hx142_1)
                                            (try rw [Addr.add_zero'] at hx142_1)
                                            (try rw [show ((0 : Int)).toNat = 0 from rfl] at hx142_2)
                                            (try rw [show 0 * 5 = 0 from rfl] at hx142_2)
                                            (try rw [Addr.add_zero'] at hx142_2)
                                            (try rw [show ((0 : Int)).toNat = 0 from rfl] at hx142_3)
                                            (try rw [show 0 * 5 = 0 from rfl] at hx142_3)
                                            (try rw [Addr.add_zero'] at hx142_3)
                                            (try rw [show ((0 : Int)).toNat = 0 from rfl] at hx142_4)
                                            (try rw [show 0 * 5 = 0 from rfl] at hx142_4)
                                            (try rw [Addr.add_zero'] at hx142_4)
                                            replace hx142_0 := (HB.out.cell (World.block_lt_of_cell? w _ hx142_0)).trans hx142_0
                                            replace hx142_1 := (HB.out.cell (World.block_lt_of_cell? w _ hx142_1)).trans hx142_1
                                            replace hx142_2 := (HB.out.cell (World.block_lt_of_cell? w _ hx142_2)).trans hx142_2
                                            replace hx142_3 := (HB.out.cell (World.block_lt_of_cell? w _ hx142_3)).trans hx142_3
                                            replace hx142_4 := (HB.out.cell (World.block_lt_of_cell? w _ hx142_4)).trans hx142_4
                                            have HR142_4 := Aside0.mk hi142_4
                                            have HC142_4 := Aside0.mk hl142_4
                                            clear hi142_4 hl142_4
                                            replace p142 := eq_true p142
                                            replace q142 := eq_true q142
                                            go_wp2
                                            go_ret
                                            exact ⟨by first | rfl | (simp [errW_none, errW_some] <;> rfl) | (simp [*, errW_none, errW_some] <;> rfl), by repeat (first | (with_reducible first | exact HB.out | apply below_alloc | apply pw_below_drewN | apply below_drew1 | refine below_set ?_ GE138.out) | exact HB.out)⟩
                                        · rw [if_neg c58] at H
                                          exact absurd H (by simp)
                                      · rw [if_neg c57] at H
                                        have c57b0 : (a0_2 == 2) = false := beq_eq_false_iff_ne.mpr c57
                                        have c57b1 : (a0_2 != 2) = true := bne_iff_ne.mpr c57
                                        by_cases c63 : a0_2 = 3
                                        · rw [if_pos c63] at H
                                          have c63b0 : (a0_2 == 3) = true := beq_iff_eq.mpr c63
                                          have c63b1 : (a0_2 != 3) = false := bne_eq_false_iff_eq.mpr c63
                                          clear c63
                                          by_cases c64 : 0 < (l0_4.length : Int)
                                          · rw [if_pos c64] at H
                                            have c64b0 : decide (0 < (l0_4.length : Int)) = true := decide_eq_true c64
                                            have c64b1 : decide (0 < l0_4.length) = true := decide_eq_true (by omega)
                                            clear c64
                                            by_cases c65 : ((rd_T25 l0_4 0).f0) = 9
                                            · rw [if_pos c65] at H
                                              have c65b0 : (((rd_T25 l0_4 0).f0) == 9) = true := beq_iff_eq.mpr c65
                                              have c65b1 : (((rd_T25 l0_4 0).f0) != 9) = false := bne_eq_false_iff_eq.mpr c65
                                              clear c65
                                              replace H := Option.bind_eq_some_iff.mp H
                                              obtain ⟨t147, A660, H⟩ := H
                                              replace H : (some (!t147)) = some r := H
                                              have A66 := Aside0.mk A660
                                              clear A660
                                              obtain rfl := Option.some.inj H
                                              have hcz67_0 : wc.cell? ⟨gb138, 0, none⟩ = some (.int .i64 a0_0) := (blk_cell BK138.out 0).trans rfl
                                              have hcz67_1 : wc.cell? ⟨gb138, 1, none⟩ = some (.bool a0_1) := (blk_cell BK138.out 1).trans rfl
                                              have hcz67_2 : wc.cell? ⟨gb138, 2, none⟩ = some (.int .u64 a0_2) := (blk_cell BK138.out 2).trans rfl
                                              have hcz67_3 : wc.cell? ⟨gb138, 3, none⟩ = some (.string a0_3) := (blk_cell BK138.out 3).trans rfl
                                              have hcz67_4 : wc.cell? ⟨gb138, 4, none⟩ = some (.slice A0_4 l0_4.length c0_4) := (blk_cell BK138.out 4).trans rfl
                                              have hfz67_0 := blk_frozen BK138.out 0
                                              have hfz67_1 := blk_frozen BK138.out 1
                                              have hfz67_2 := blk_frozen BK138.out 2
                                              have hfz67_3 := blk_frozen BK138.out 3
                                              have hfz67_4 := blk_frozen BK138.out 4
                                              have p145 : 0 ≤ (0 : Int) := (by omega)
                                              have q145 : 0 < (l0_4.length : Int) := of_decide_eq_true (by first | (with_reducible assumption) | assumption)
                                              obtain ⟨ad145, A145_4, c145_4, e145, hx145_0, hx145_1, hx145_2, hx145_3, hx145_4, hl145_4, hi145_4⟩ := at_T25 HR0_4.out 0 p145 q145
                                              cases e145
                                              have qi145 : (0 < l0_4.length) = True := eq_true (by omega)
                                              (try rw [show ((0 : Int)).toNat = 0 from rfl] at hx145_0)
                                              (try rw [show 0 * 5 = 0 from rfl] at hx145_0)
                                              (try rw [Addr.add_zero'] at hx145_0)
                                              (try rw [show ((0 : Int)).toNat = 0 from rfl] at hx145_1)
                                              (try rw [show 0 * 5 = 0 from rfl] at hx145_1)
                                              (try rw [Addr.add_zero'] at hx145_1)
                                              (try rw [show ((0 : Int)).toNat = 0 from rfl] at hx145_2)
                                              (try rw [show 0 * 5 = 0 from rfl] at hx145_2)
                                              (try rw [Addr.add_zero'] at hx145_2)
                                              (try rw [show ((0 : Int)).toNat = 0 from rfl] at hx145_3)
                                              (try rw [show 0 * 5 = 0 from rfl] at hx145_3)
                                              (try rw [Addr.add_zero'] at hx145_3)
                                              (try rw [show ((0 : Int)).toNat = 0 from rfl] at hx145_4)
                                              (try rw [show 0 * 5 = 0 from rfl] at hx145_4)
                                              (try rw [Addr.add_zero'] at hx145_4)
                                              replace hx145_0 := (HB.out.cell (World.block_lt_of_cell? w _ hx145_0)).trans hx145_0
                                              replace hx145_1 := (HB.out.cell (World.block_lt_of_cell? w _ hx145_1)).trans hx145_1
                                              replace hx145_2 := (HB.out.cell (World.block_lt_of_cell? w _ hx145_2)).trans hx145_2
                                              replace hx145_3 := (HB.out.cell (World.block_lt_of_cell? w _ hx145_3)).trans hx145_3
                                              replace hx145_4 := (HB.out.cell (World.block_lt_of_cell? w _ hx145_4)).trans hx145_4
                                              have HR145_4 := Aside0.mk hi145_4
                                              have HC145_4 := Aside0.mk hl145_4
                                              clear hi145_4 hl145_4
                                              replace p145 := eq_true p145
                                              replace q145 := eq_true q145
                                              have p146 : 0 ≤ (0 : Int) := (by omega)
                                              have q146 : 0 < (l0_4.length : Int) := of_decide_eq_true (by first | (with_reducible assumption) | assumption)
                                              obtain ⟨ad146, A146_4, c146_4, e146, hx146_0, hx146_1, hx146_2, hx146_3, hx146_4, hl146_4, hi146_4⟩ := at_T25 HR0_4.out 0 p146 q146
                                              obtain rfl : ad145 = ad146 := (by injection e146)
                                              have qi146 : (0 < l0_4.length) = True := eq_true (by omega)
                                              (try rw [show ((0 : Int)).toNat = 0 from rfl] at hx146_0)
                                              (try rw [show 0 * 5 = 0 from rfl] at hx146_0)
                                              (try rw [Addr.add_zero'] at hx146_0)
                                              (try rw [show ((0 : Int)).toNat = 0 from rfl] at hx146_1)
                                              (try rw [show 0 * 5 = 0 from rfl] at hx146_1)
                                              (try rw [Addr.add_zero'] at hx146_1)
                                              (try rw [show ((0 : Int)).toNat = 0 from rfl] at hx146_2)
                                              (try rw [show 0 * 5 = 0 from rfl] at hx146_2)
                                              (try rw [Addr.add_zero'] at hx146_2)
                                              (try rw [show ((0 : Int)).toNat = 0 from rfl] at hx146_3)
                                              (try rw [show 0 * 5 = 0 from rfl] at hx146_3)
                                              (try rw [Addr.add_zero'] at hx146_3)
                                              (try rw [show ((0 : Int)).toNat = 0 from rfl] at hx146_4)
                                              (try rw [show 0 * 5 = 0 from rfl] at hx146_4)
                                              (try rw [Addr.add_zero'] at hx146_4)
                                              replace hx146_0 := (HB.out.cell (World.block_lt_of_cell? w _ hx146_0)).trans hx146_0
                                              replace hx146_1 := (HB.out.cell (World.block_lt_of_cell? w _ hx146_1)).trans hx146_1
                                              replace hx146_2 := (HB.out.cell (World.block_lt_of_cell? w _ hx146_2)).trans hx146_2
                                              replace hx146_3 := (HB.out.cell (World.block_lt_of_cell? w _ hx146_3)).trans hx146_3
                                              replace hx146_4 := (HB.out.cell (World.block_lt_of_cell? w _ hx146_4)).trans hx146_4
                                              have HR146_4 := Aside0.mk hi146_4
                                              have HC146_4 := Aside0.mk hl146_4
                                              clear hi146_4 hl146_4
                                              replace p146 := eq_true p146
                                              replace q146 := eq_true q146
                                              have ea_ := Option.some.inj (hx145_4.symm.trans hx146_4)
                                              injection ea_ with ea_ en_ ec_
                                              subst ea_
                                              subst ec_
                                              clear en_
                                              go_wp2_with (first | (go_at_call 55; (with_reducible refine (glossatorref08_Big.calls ((rd_T25 l0_4 0).f3) t147 _ A66.out).mono ?_); rintro e w' ⟨rfl, ⟨nd, rfl⟩⟩))
                                              go_ret
                                              exact ⟨by first | rfl | (simp [errW_none, errW_some] <;> rfl) | (simp [*, errW_none, errW_some] <;> rfl), by repeat (first | (with_reducible first | exact HB.out | apply below_alloc | apply pw_below_drewN | apply below_drew1 | refine below_set ?_ GE138.out) | exact HB.out)⟩
                                            · rw [if_neg c65] at H
                                              have c65b0 : (((rd_T25 l0_4 0).f0) == 9) = false := beq_eq_false_iff_ne.mpr c65
                                              have c65b1 : (((rd_T25 l0_4 0).f0) != 9) = true := bne_iff_ne.mpr c65
                                              obtain rfl := Option.some.inj H
                                              have hcz68_0 : wc.cell? ⟨gb138, 0, none⟩ = some (.int .i64 a0_0) := (blk_cell BK138.out 0).trans rfl
                                              have hcz68_1 : wc.cell? ⟨gb138, 1, none⟩ = some (.bool a0_1) := (blk_cell BK138.out 1).trans rfl
                                              have hcz68_2 : wc.cell? ⟨gb138, 2, none⟩ = some (.int .u64 a0_2) := (blk_cell BK138.out 2).trans rfl
                                              have hcz68_3 : wc.cell? ⟨gb138, 3, none⟩ = some (.string a0_3) := (blk_cell BK138.out 3).trans rfl
                                              have hcz68_4 : wc.cell? ⟨gb138, 4, none⟩ = some (.slice A0_4 l0_4.length c0_4) := (blk_cell BK138.out 4).trans rfl
                                              have hfz68_0 := blk_frozen BK138.out 0
                                              have hfz68_1 := blk_frozen BK138.out 1
                                              have hfz68_2 := blk_frozen BK138.out 2
                                              have hfz68_3 := blk_frozen BK138.out 3
                                              have hfz68_4 := blk_frozen BK138.out 4
                                              have p145 : 0 ≤ (0 : Int) := (by omega)
                                              have q145 : 0 < (l0_4.length : Int) := of_decide_eq_true (by first | (with_reducible assumption) | assumption)
                                              obtain ⟨ad145, A145_4, c145_4, e145, hx145_0, hx145_1, hx145_2, hx145_3, hx145_4, hl145_4, hi145_4⟩ := at_T25 HR0_4.out 0 p145 q145
                                              cases e145
                                              have qi145 : (0 < l0_4.length) = True := eq_true (by omega)
                                              (try rw [show ((0 : Int)).toNat = 0 from rfl] at hx145_0)
                                              (try rw [show 0 * 5 = 0 from rfl] at hx145_0)
                                              (try rw [Addr.add_zero'] at hx145_0)
                                              (try rw [show ((0 : Int)).toNat = 0 from rfl] at hx145_1)
                                              (try rw [show 0 * 5 = 0 from rfl] at hx145_1)
                                              (try rw [Addr.add_zero'] at hx145_1)
                                              (try rw [show ((0 : Int)).toNat = 0 from rfl] at hx145_2)
                                              (try rw [show 0 * 5 = 0 from rfl] at hx145_2)
                                              (try rw [Addr.add_zero'] at hx145_2)
                                              (try rw [show ((0 : Int)).toNat = 0 from rfl] at hx145_3)
                                              (try rw [show 0 * 5 = 0 from rfl] at hx145_3)
                                              (try rw [Addr.add_zero'] at hx145_3)
                                              (try rw [show ((0 : Int)).toNat = 0 from rfl] at hx145_4)
                                              (try rw [show 0 * 5 = 0 from rfl] at hx145_4)
                                              (try rw [Addr.add_zero'] at hx145_4)
                                              replace hx145_0 := (HB.out.cell (World.block_lt_of_cell? w _ hx145_0)).trans hx145_0
                                              replace hx145_1 := (HB.out.cell (World.block_lt_of_cell? w _ hx145_1)).trans hx145_1
                                              replace hx145_2 := (HB.out.cell (World.block_lt_of_cell? w _ hx145_2)).trans hx145_2
                                              replace hx145_3 := (HB.out.cell (World.block_lt_of_cell? w _ hx145_3)).trans hx145_3
                                              replace hx145_4 := (HB.out.cell (World.block_lt_of_cell? w _ hx145_4)).trans hx145_4
                                              have HR145_4 := Aside0.mk hi145_4
                                              have HC145_4 := Aside0.mk hl145_4
                                              clear hi145_4 hl145_4
                                              replace p145 := eq_true p145
                                              replace q145 := eq_true q145
                                              go_wp2
                                              go_ret
                                              exact ⟨by first | rfl | (simp [errW_none, errW_some] <;> rfl) | (simp [*, errW_none, errW_some] <;> rfl), by repeat (first | (with_reducible first | exact HB.out | apply below_alloc | apply pw_below_drewN | apply below_drew1 | refine below_set ?_ GE138.out) | exact HB.out)⟩
                                          · rw [if_neg c64] at H
                                            exact absurd H (by simp)
                                        · rw [if_neg c63] at H
                                          have c63b0 : (a0_2 == 3) = false := beq_eq_false_iff_ne.mpr c63
                                          have c63b1 : (a0_2 != 3) = true := bne_iff_ne.mpr c63
                                          obtain rfl := Option.some.inj H
                                          have hcz69_0 : wc.cell? ⟨gb138, 0, none⟩ = some (.int .i64 a0_0) := (blk_cell BK138.out 0).trans rfl
                                          have hcz69_1 : wc.cell? ⟨gb138, 1, none⟩ = some (.bool a0_1) := (blk_cell BK138.out 1).trans rfl
                                          have hcz69_2 : wc.cell? ⟨gb138, 2, none⟩ = some (.int .u64 a0_2) := (blk_cell BK138.out 2).trans rfl
                                          have hcz69_3 : wc.cell? ⟨gb138, 3, none⟩ = some (.string a0_3) := (blk_cell BK138.out 3).trans rfl
                                          have hcz69_4 : wc.cell? ⟨gb138, 4, none⟩ = some (.slice A0_4 l0_4.length c0_4) := (blk_cell BK138.out 4).trans rfl
                                          have hfz69_0 := blk_frozen BK138.out 0
                                          have hfz69_1 := blk_frozen BK138.out 1
                                          have hfz69_2 := blk_frozen BK138.out 2
                                          have hfz69_3 := blk_frozen BK138.out 3
                                          have hfz69_4 := blk_frozen BK138.out 4
                                          go_wp2
                                          go_ret
                                          exact ⟨by first | rfl | (simp [errW_none, errW_some] <;> rfl) | (simp [*, errW_none, errW_some] <;> rfl), by repeat (first | (with_reducible first | exact HB.out | apply below_alloc | apply pw_below_drewN | apply below_drew1 | refine below_set ?_ GE138.out) | exact HB.out)⟩
                                    · rw [if_neg c56] at H
                                      have c56b0 : ((l0_4.length : Int) == 1) = false := beq_eq_false_iff_ne.mpr c56
                                      have c56b1 : ((l0_4.length : Int) != 1) = true := bne_iff_ne.mpr c56
                                      obtain rfl := Option.some.inj H
                                      have hcz70_0 : wc.cell? ⟨gb138, 0, none⟩ = some (.int .i64 a0_0) := (blk_cell BK138.out 0).trans rfl
                                      have hcz70_1 : wc.cell? ⟨gb138, 1, none⟩ = some (.bool a0_1) := (blk_cell BK138.out 1).trans rfl
                                      have hcz70_2 : wc.cell? ⟨gb138, 2, none⟩ = some (.int .u64 a0_2) := (blk_cell BK138.out 2).trans rfl
                                      have hcz70_3 : wc.cell? ⟨gb138, 3, none⟩ = some (.string a0_3) := (blk_cell BK138.out 3).trans rfl
                                      have hcz70_4 : wc.cell? ⟨gb138, 4, none⟩ = some (.slice A0_4 l0_4.length c0_4) := (blk_cell BK138.out 4).trans rfl
                                      have hfz70_0 := blk_frozen BK138.out 0
                                      have hfz70_1 := blk_frozen BK138.out 1
                                      have hfz70_2 := blk_frozen BK138.out 2
                                      have hfz70_3 := blk_frozen BK138.out 3
                                      have hfz70_4 := blk_frozen BK138.out 4
                                      go_wp2
                                      go_ret
                                      exact ⟨by first | rfl | (simp [errW_none, errW_some] <;> rfl) | (simp [*, errW_none, errW_some] <;> rfl), by repeat (first | (with_reducible first | exact HB.out | apply below_alloc | apply pw_below_drewN | apply below_drew1 | refine below_set ?_ GE138.out) | exact HB.out)⟩
                                  · rw [if_neg c55] at H
                                    have c55b0 : (!a0_1) = false := by simpa using c55
                                    clear c55
                                    obtain rfl := Option.some.inj H
                                    go_wp2
                                    go_ret
                                    exact ⟨by first | rfl | (simp [errW_none, errW_some] <;> rfl) | (simp [*, errW_none, errW_some] <;> rfl), by repeat (first | (with_reducible first | exact HB.out | apply below_alloc | apply pw_below_drewN | apply below_drew1 | refine below_set ?_ GE138.out) | exact HB.out)⟩
                                · rw [if_neg c54] at H
                                  have c54b0 : (a0_3.toList == ([] : List UInt8)) = false := by simpa using c54
                                  (try (have c54b1 : decide (a0_3.toList = ([] : List UInt8)) = false := by simpa using c54))
                                  (try (have c54b2 : (a0_3.toList == ([] : List UInt8)) = false := by simpa using c54))
                                  (try (have c54b3 : ¬ (a0_3.toList = ([] : List UInt8)) := by simpa using c54))
                                  (try (have c54b4 : a0_3.toList.isEmpty = false := by simpa using c54))
                                  clear c54
                                  obtain rfl := Option.some.inj H
                                  go_wp2
                                  go_ret
                                  exact ⟨by first | rfl | (simp [errW_none, errW_some] <;> rfl) | (simp [*, errW_none, errW_some] <;> rfl), by repeat (first | (with_reducible first | exact HB.out | apply below_alloc | apply pw_below_drewN | apply below_drew1 | refine below_set ?_ GE138.out) | exact HB.out)⟩
                              · rw [if_neg c53] at H
                                have c53b0 : (a0_0 == 13) = false := beq_eq_false_iff_ne.mpr c53
                                have c53b1 : (a0_0 != 13) = true := bne_iff_ne.mpr c53
                                by_cases c71 : a0_0 = 14
                                · rw [if_pos c71] at H
                                  have c71b0 : (a0_0 == 14) = true := beq_iff_eq.mpr c71
                                  have c71b1 : (a0_0 != 14) = false := bne_eq_false_iff_eq.mpr c71
                                  clear c71
                                  by_cases c72 : (!a0_1) = true
                                  · rw [if_pos c72] at H
                                    have c72b0 : (!a0_1) = true := c72
                                    clear c72
                                    obtain rfl := Option.some.inj H
                                    have hcz73_0 : wc.cell? ⟨gb138, 0, none⟩ = some (.int .i64 a0_0) := (blk_cell BK138.out 0).trans rfl
                                    have hcz73_1 : wc.cell? ⟨gb138, 1, none⟩ = some (.bool a0_1) := (blk_cell BK138.out 1).trans rfl
                                    have hcz73_2 : wc.cell? ⟨gb138, 2, none⟩ = some (.int .u64 a0_2) := (blk_cell BK138.out 2).trans rfl
                                    have hcz73_3 : wc.cell? ⟨gb138, 3, none⟩ = some (.string a0_3) := (blk_cell BK138.out 3).trans rfl
                                    have hcz73_4 : wc.cell? ⟨gb138, 4, none⟩ = some (.slice A0_4 l0_4.length c0_4) := (blk_cell BK138.out 4).trans rfl
                                    have hfz73_0 := blk_frozen BK138.out 0
                                    have hfz73_1 := blk_frozen BK138.out 1
                                    have hfz73_2 := blk_frozen BK138.out 2
                                    have hfz73_3 := blk_frozen BK138.out 3
                                    have hfz73_4 := blk_frozen BK138.out 4
                                    go_wp2
                                    go_ret
                                    exact ⟨by first | rfl | (simp [errW_none, errW_some] <;> rfl) | (simp [*, errW_none, errW_some] <;> rfl), by repeat (first | (with_reducible first | exact HB.out | apply below_alloc | apply pw_below_drewN | apply below_drew1 | refine below_set ?_ GE138.out) | exact HB.out)⟩
                                  · rw [if_neg c72] at H
                                    have c72b0 : (!a0_1) = false := by simpa using c72
                                    clear c72
                                    obtain rfl := Option.some.inj H
                                    go_wp2
                                    go_ret
                                    exact ⟨by first | rfl | (simp [errW_none, errW_some] <;> rfl) | (simp [*, errW_none, errW_some] <;> rfl), by repeat (first | (with_reducible first | exact HB.out | apply below_alloc | apply pw_below_drewN | apply below_drew1 | refine below_set ?_ GE138.out) | exact HB.out)⟩
                                · rw [if_neg c71] at H
                                  have c71b0 : (a0_0 == 14) = false := beq_eq_false_iff_ne.mpr c71
                                  have c71b1 : (a0_0 != 14) = true := bne_iff_ne.mpr c71
                                  obtain rfl := Option.some.inj H
                                  go_wp2
                                  go_ret
                                  exact ⟨by first | rfl | (simp [errW_none, errW_some] <;> rfl) | (simp [*, errW_none, errW_some] <;> rfl), by repeat (first | (with_reducible first | exact HB.out | apply below_alloc | apply pw_below_drewN | apply below_drew1 | refine below_set ?_ GE138.out) | exact HB.out)⟩
end Go.Proofs.Ytcgpfclmcajekaa.PEventBack
