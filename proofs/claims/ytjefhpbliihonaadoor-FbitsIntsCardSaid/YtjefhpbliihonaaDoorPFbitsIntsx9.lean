-- Written by a program of this session out of the kit's print (print.py, its switches or its text changed): not the kit's own print
import Derived.Test.YtjefhpbliihonaaDoorPFbitsIntsx0
import Derived.Test.YtjefhpbliihonaaDoorPFbitsIntsx1
import Derived.Test.YtjefhpbliihonaaDoorPFbitsIntsx6
import Derived.Test.YtjefhpbliihonaaDoorPFbitsIntsx8
namespace Go.Proofs.YtjefhpbliihonaaDoor.PFbitsInts
open Go.RowKit Go.Proofs.YtjefhpbliihonaaDoorW.PrintWords Go.Proofs.YtjefhpbliihonaaDoorW.PrintLast Go.Proofs.YtjefhpbliihonaaDoorW.PrintMore
attribute [local go_sem] max2_int min2_int max_two min_two max_three min_three max_four min_four   -- for this text's walks alone
set_option linter.unusedVariables false
set_option linter.unusedSimpArgs false

/-! ### fbits_Least: function 15 -/
def fbits_Least.l0 : Nat → Int → Int → Option (Int × Int)
  | 0, _, _ => none
  | k + 1, x0, x10 => if x10 < 3 then (if x10 = 0 then ((fbits_Narrow.f k 16 x0).bind fun bt289 => (if bt289.2.1 = true then (some (16, bt289.1)) else (fbits_Least.l0 k x0 (wrap64 (x10 + 1))))) else (if x10 = 1 then ((fbits_Narrow.f k 32 x0).bind fun bt293 => (if bt293.2.1 = true then (some (32, bt293.1)) else (fbits_Least.l0 k x0 (wrap64 (x10 + 1))))) else (if x10 = 2 then ((fbits_Narrow.f k 64 x0).bind fun bt297 => (if bt297.2.1 = true then (some (64, bt297.1)) else (fbits_Least.l0 k x0 (wrap64 (x10 + 1))))) else (none)))) else (some (64, x0))
def fbits_Least.f (k : Nat) (a0 : Int) : Option (Int × Int) := (fbits_widths.f).bind fun bt279 => (fbits_Least.l0 k a0 0)
theorem fbits_Least.mono_l : ∀ k, (∀ y0 y1, LeO (fbits_Least.l0 k y0 y1) (fbits_Least.l0 (k + 1) y0 y1))
  | 0 => fun _ _ r h => by simp [fbits_Least.l0] at h
  | k + 1 => by
    have ih0 := fbits_Least.mono_l k
    · intro y0 y1
      unfold fbits_Least.l0
      repeat' first
      | (with_reducible exact ih0 _ _)
      | (with_reducible exact fbits_Narrow.mono _ _ _)
      | (with_reducible exact LeO.refl _)
      | (with_reducible exact LeO.none _)
      | (with_reducible refine LeO.ite ?_ ?_)
      | (with_reducible refine LeO.bind ?_ (fun _ => ?_))
      | exact ih0 _ _
      | exact fbits_Narrow.mono _ _ _
      | exact LeO.none _
      | refine LeO.ite ?_ ?_
      | refine LeO.bind ?_ (fun _ => ?_)
theorem fbits_Least.mono : ∀ a0 k, LeO (fbits_Least.f k a0) (fbits_Least.f (k + 1) a0) := by
  intro a0 k
  have ih0 := fbits_Least.mono_l k
  unfold fbits_Least.f
  repeat' first
      | (with_reducible exact ih0 _ _)
      | (with_reducible exact fbits_Narrow.mono _ _ _)
      | (with_reducible exact LeO.refl _)
      | (with_reducible exact LeO.none _)
      | (with_reducible refine LeO.ite ?_ ?_)
      | (with_reducible refine LeO.bind ?_ (fun _ => ?_))
      | exact ih0 _ _
      | exact fbits_Narrow.mono _ _ _
      | exact LeO.none _
      | refine LeO.ite ?_ ?_
      | refine LeO.bind ?_ (fun _ => ?_)
set_option maxHeartbeats 8000000 in
set_option maxRecDepth 100000 in
theorem fbits_Least.calls (k : Nat) (a0 : Int) (r1 : Int) (r2 : Int) (w : World) (h : fbits_Least.f k a0 = some (r1, r2)) :
    Calls Tryd.prog 15 #[.int .u64 a0] w fun e w' => e = .returned (.tuple #[.int .i64 r1, .int .u64 r2]) ∧ Below w.heap.size w w' := by
  have hu45 := Tryd.underlying45
  have HB := Aside0.mk (Below.refl w.heap.size w)
  have H : ((fbits_widths.f).bind fun bt279 => (fbits_Least.l0 k a0 0)) = some (r1, r2) := h
  clear h
  replace H := Option.bind_eq_some_iff.mp H
  obtain ⟨⟨t279, t280, t281, t282, t283, t284, t285, t286, t287⟩, A20, H⟩ := H
  replace H : (fbits_Least.l0 k a0 0) = some (r1, r2) := H
  cases (Option.some.inj A20)
  have A2 := Aside0.mk A20
  clear A20
  have H' := Aside0.mk H
  clear H
  go_enter Tryd.func15, Tryd.ntmps15
  go_wp2_with (first | ((with_reducible refine gate_callee (f := 19) rfl ?_); refine goesL_ (some 9) rfl rfl Tryd.func19 (by kernel_rfl) rfl #[] rfl (by (try simp only [List.map_toArray, List.map_cons, List.map_nil]); first | done | rfl | (simp only [List.length_drop, List.length_take]; rfl)) ?_; (with_reducible refine (fbits_widths.calls  16 5 10 32 8 23 64 11 52 _ A2.out).mono ?_); rintro e w3 ⟨rfl, hb⟩; refine ⟨_, rfl, ?_⟩; have n0_ := Aside0.mk (below_step (by repeat (first | (with_reducible first | exact HB.out | apply below_alloc | apply pw_below_drewN | apply below_drew1) | exact HB.out)) hb); clear HB; have HB := n0_; clear n0_; (try clear hb); (try clear hb2); (try clear hk); (try clear hi)))
  go_loopg [10] k (fun kq v10 w' => ∃ (x10_1 : Int), v10 = .int .i64 x10_1 ∧ Aside0 (fbits_Least.l0 kq a0 x10_1 = some (r1, r2)) ∧ Aside0 (kq ≤ k) ∧ Aside0 (Below w.heap.size w w'))
  case atStart => exact ⟨(0), (by first | rfl | (simp; done) | (simp [*]; done) | (simp [*] <;> decide +kernel)), H', ⟨Nat.le_refl _⟩, ⟨by repeat (first | (with_reducible first | exact HB.out | apply below_alloc | apply pw_below_drewN | apply below_drew1) | exact HB.out)⟩⟩
  case round =>
    clear H'
    try clear c1
    try clear p2
    obtain ⟨x10_1, rfl, HA, HK1, HB⟩ := hrel
    cases gk with
    | zero => exact absurd HA.out (by simp [fbits_Least.l0])
    | succ k1 =>
      have H := HA.out
      clear HA
      simp only [fbits_Least.l0] at H
      by_cases c4 : x10_1 < 3
      · rw [if_pos c4] at H
        have c4b0 : decide (x10_1 < 3) = true := decide_eq_true c4
        clear c4
        by_cases c5 : x10_1 = 0
        · rw [if_pos c5] at H
          have hix6 : ∀ w_ : World, (Instr.index 46 (.agg #[.int .i64 16, .int .i64 5, .int .i64 10, .int .i64 32, .int .i64 8, .int .i64 23, .int .i64 64, .int .i64 11, .int .i64 52]) (.int .i64 0)).run Tryd.prog w_ = .ok (.agg #[.int .i64 16, .int .i64 5, .int .i64 10]) w_ := fun _ => by kernel_rfl
          replace H := Option.bind_eq_some_iff.mp H
          obtain ⟨⟨t289, t290, t291⟩, A70, H⟩ := H
          replace H : (if t290 = true then (some (16, t289)) else (fbits_Least.l0 k1 a0 (wrap64 (x10_1 + 1)))) = some (r1, r2) := H
          have A7 := Aside0.mk A70
          clear A70
          by_cases c8 : t290 = true
          · subst c8
            have H1 : (some (16, t289)) = some (r1, r2) := by rw [if_pos rfl] at H; exact H
            clear H
            have H := H1
            clear H1
            simp only [Option.some.injEq, Prod.mk.injEq] at H
            obtain ⟨rfl, rfl⟩ := H
            go_wp2_with (first | ((with_reducible refine gate_dst (N := 5) rfl ?_); refine box_event ?hg (N := 5) ?hd (cs := #[.int .i64 0, .int .i64 0, .int .i64 0]) (t := 45) ?hr ?_; (case hd => rfl); (case hg => rfl); (case hr => first | (go_simp; done) | (go_simp; rfl)); intro gb288 hg w9 hbox hb; have n0_ := Aside0.mk (below_step (by repeat (first | (with_reducible first | exact HB.out | apply below_alloc | apply pw_below_drewN | apply below_drew1) | exact HB.out)) hb); have n1_ := Aside0.mk (hbox); have n2_ := Aside0.mk ((by rw [hg]; exact (below_size (by repeat (first | (with_reducible first | exact HB.out | apply below_alloc | apply pw_below_drewN | apply below_drew1) | exact HB.out))) : w.heap.size ≤ gb288)); have n3_ := Aside0.mk ((by rw [hg]; exact (below_size (by repeat (first | (with_reducible first | exact HB.out | apply below_alloc | apply pw_below_drewN | apply below_drew1) | exact HB.out))) : w.heap.size ≤ gb288)); clear HB; have HB := n0_; have BK288 := n1_; have GW288 := n2_; have GE288 := n3_; clear n0_ n1_ n2_ n3_; clear hb hbox hg; have hcz10_0 : w9.cell? ⟨gb288, 0, none⟩ = some (.int .i64 0) := (blk_cell BK288.out 0).trans rfl; have hcz10_1 : w9.cell? ⟨gb288, 1, none⟩ = some (.int .i64 0) := (blk_cell BK288.out 1).trans rfl; have hcz10_2 : w9.cell? ⟨gb288, 2, none⟩ = some (.int .i64 0) := (blk_cell BK288.out 2).trans rfl; have hfz10_0 := blk_frozen BK288.out 0; have hfz10_1 := blk_frozen BK288.out 1; have hfz10_2 := blk_frozen BK288.out 2) | ((with_reducible refine gate_callee (f := 10) rfl ?_); refine goesL_ (some 17) rfl rfl Tryd.func10 (by kernel_rfl) rfl #[.int .i64 16, .int .u64 a0] rfl (by (try simp only [List.map_toArray, List.map_cons, List.map_nil]); first | done | rfl | (simp only [List.length_drop, List.length_take]; rfl)) ?_; (with_reducible refine (fbits_Narrow.calls k1 16 a0 t289 true t291 _ A7.out).mono ?_); rintro e w11 ⟨rfl, hb⟩; refine ⟨_, rfl, ?_⟩; have n0_ := Aside0.mk (blk_below (g := gb288) (o := .cells #[.int .i64 16, .int .i64 5, .int .i64 10] 45 (0, 0)) (by (with_reducible repeat (first | refine blk_drewN ?_ _ | refine blk_drew ?_ | refine blk_alloc ?_ _)); refine blk_put (cs := #[.int .i64 16, .int .i64 5, .int .i64 0]) ?_ 2 _ rfl; (with_reducible repeat (first | refine blk_drewN ?_ _ | refine blk_drew ?_ | refine blk_alloc ?_ _)); refine blk_put (cs := #[.int .i64 16, .int .i64 0, .int .i64 0]) ?_ 1 _ rfl; (with_reducible repeat (first | refine blk_drewN ?_ _ | refine blk_drew ?_ | refine blk_alloc ?_ _)); refine blk_put (cs := #[.int .i64 0, .int .i64 0, .int .i64 0]) ?_ 0 _ rfl; (with_reducible repeat (first | refine blk_drewN ?_ _ | refine blk_drew ?_ | refine blk_alloc ?_ _)); exact BK288.out) hb); have n1_ := Aside0.mk (below_step (by repeat (first | (with_reducible first | exact HB.out | apply below_alloc | apply pw_below_drewN | apply below_drew1 | refine below_set ?_ GE288.out) | exact HB.out)) hb); clear BK288; clear HB; have BK288 := n0_; have HB := n1_; clear n0_ n1_; (try clear hb); (try clear hb2); (try clear hk); (try clear hi); have hcz12_0 : w11.cell? ⟨gb288, 0, none⟩ = some (.int .i64 16) := (blk_cell BK288.out 0).trans rfl; have hcz12_1 : w11.cell? ⟨gb288, 1, none⟩ = some (.int .i64 5) := (blk_cell BK288.out 1).trans rfl; have hcz12_2 : w11.cell? ⟨gb288, 2, none⟩ = some (.int .i64 10) := (blk_cell BK288.out 2).trans rfl; have hfz12_0 := blk_frozen BK288.out 0; have hfz12_1 := blk_frozen BK288.out 1; have hfz12_2 := blk_frozen BK288.out 2))
            go_ret2
            exact ⟨by first | rfl | (simp [errW_none, errW_some] <;> rfl) | (simp [*, errW_none, errW_some] <;> rfl), by repeat (first | (with_reducible first | exact HB.out | apply below_alloc | apply pw_below_drewN | apply below_drew1 | refine below_set ?_ GE288.out) | exact HB.out)⟩
          · replace c8 := Bool.eq_false_iff.mpr c8
            subst c8
            have H1 : (fbits_Least.l0 k1 a0 (wrap64 (x10_1 + 1))) = some (r1, r2) := by rw [if_neg (show ¬ (false = true) by decide)] at H; exact H
            clear H
            have H := H1
            clear H1
            have H' := Aside0.mk H
            clear H
            go_wp2_with (first | ((with_reducible refine gate_dst (N := 5) rfl ?_); refine box_event ?hg (N := 5) ?hd (cs := #[.int .i64 0, .int .i64 0, .int .i64 0]) (t := 45) ?hr ?_; (case hd => rfl); (case hg => rfl); (case hr => first | (go_simp; done) | (go_simp; rfl)); intro gb288 hg w13 hbox hb; have n0_ := Aside0.mk (below_step (by repeat (first | (with_reducible first | exact HB.out | apply below_alloc | apply pw_below_drewN | apply below_drew1) | exact HB.out)) hb); have n1_ := Aside0.mk (hbox); have n2_ := Aside0.mk ((by rw [hg]; exact (below_size (by repeat (first | (with_reducible first | exact HB.out | apply below_alloc | apply pw_below_drewN | apply below_drew1) | exact HB.out))) : w.heap.size ≤ gb288)); have n3_ := Aside0.mk ((by rw [hg]; exact (below_size (by repeat (first | (with_reducible first | exact HB.out | apply below_alloc | apply pw_below_drewN | apply below_drew1) | exact HB.out))) : w.heap.size ≤ gb288)); clear HB; have HB := n0_; have BK288 := n1_; have GW288 := n2_; have GE288 := n3_; clear n0_ n1_ n2_ n3_; clear hb hbox hg; have hcz14_0 : w13.cell? ⟨gb288, 0, none⟩ = some (.int .i64 0) := (blk_cell BK288.out 0).trans rfl; have hcz14_1 : w13.cell? ⟨gb288, 1, none⟩ = some (.int .i64 0) := (blk_cell BK288.out 1).trans rfl; have hcz14_2 : w13.cell? ⟨gb288, 2, none⟩ = some (.int .i64 0) := (blk_cell BK288.out 2).trans rfl; have hfz14_0 := blk_frozen BK288.out 0; have hfz14_1 := blk_frozen BK288.out 1; have hfz14_2 := blk_frozen BK288.out 2) | ((with_reducible refine gate_callee (f := 10) rfl ?_); refine goesL_ (some 17) rfl rfl Tryd.func10 (by kernel_rfl) rfl #[.int .i64 16, .int .u64 a0] rfl (by (try simp only [List.map_toArray, List.map_cons, List.map_nil]); first | done | rfl | (simp only [List.length_drop, List.length_take]; rfl)) ?_; (with_reducible refine (fbits_Narrow.calls k1 16 a0 t289 false t291 _ A7.out).mono ?_); rintro e w15 ⟨rfl, hb⟩; refine ⟨_, rfl, ?_⟩; have n0_ := Aside0.mk (blk_below (g := gb288) (o := .cells #[.int .i64 16, .int .i64 5, .int .i64 10] 45 (0, 0)) (by (with_reducible repeat (first | refine blk_drewN ?_ _ | refine blk_drew ?_ | refine blk_alloc ?_ _)); refine blk_put (cs := #[.int .i64 16, .int .i64 5, .int .i64 0]) ?_ 2 _ rfl; (with_reducible repeat (first | refine blk_drewN ?_ _ | refine blk_drew ?_ | refine blk_alloc ?_ _)); refine blk_put (cs := #[.int .i64 16, .int .i64 0, .int .i64 0]) ?_ 1 _ rfl; (with_reducible repeat (first | refine blk_drewN ?_ _ | refine blk_drew ?_ | refine blk_alloc ?_ _)); refine blk_put (cs := #[.int .i64 0, .int .i64 0, .int .i64 0]) ?_ 0 _ rfl; (with_reducible repeat (first | refine blk_drewN ?_ _ | refine blk_drew ?_ | refine blk_alloc ?_ _)); exact BK288.out) hb); have n1_ := Aside0.mk (below_step (by repeat (first | (with_reducible first | exact HB.out | apply below_alloc | apply pw_below_drewN | apply below_drew1 | refine below_set ?_ GE288.out) | exact HB.out)) hb); clear BK288; clear HB; have BK288 := n0_; have HB := n1_; clear n0_ n1_; (try clear hb); (try clear hb2); (try clear hk); (try clear hi)))
            go_roundg k1
            case measure => have := HK1.out; omega
            case rel => exact ⟨(wrap64 (x10_1 + 1)), (by first | rfl | (simp; done) | (simp [*]; done) | (simp [*] <;> decide +kernel)), H', ⟨by have := HK1.out; omega⟩, ⟨by repeat (first | (with_reducible first | exact HB.out | apply below_alloc | apply pw_below_drewN | apply below_drew1 | refine below_set ?_ GE288.out) | exact HB.out)⟩⟩
        · rw [if_neg c5] at H
          clear c5
          by_cases c16 : x10_1 = 1
          · rw [if_pos c16] at H
            have hix17 : ∀ w_ : World, (Instr.index 46 (.agg #[.int .i64 16, .int .i64 5, .int .i64 10, .int .i64 32, .int .i64 8, .int .i64 23, .int .i64 64, .int .i64 11, .int .i64 52]) (.int .i64 1)).run Tryd.prog w_ = .ok (.agg #[.int .i64 32, .int .i64 8, .int .i64 23]) w_ := fun _ => by kernel_rfl
            replace H := Option.bind_eq_some_iff.mp H
            obtain ⟨⟨t293, t294, t295⟩, A180, H⟩ := H
            replace H : (if t294 = true then (some (32, t293)) else (fbits_Least.l0 k1 a0 (wrap64 (x10_1 + 1)))) = some (r1, r2) := H
            have A18 := Aside0.mk A180
            clear A180
            by_cases c19 : t294 = true
            · subst c19
              have H1 : (some (32, t293)) = some (r1, r2) := by rw [if_pos rfl] at H; exact H
              clear H
              have H := H1
              clear H1
              simp only [Option.some.injEq, Prod.mk.injEq] at H
              obtain ⟨rfl, rfl⟩ := H
              go_wp2_with (first | ((with_reducible refine gate_dst (N := 5) rfl ?_); refine box_event ?hg (N := 5) ?hd (cs := #[.int .i64 0, .int .i64 0, .int .i64 0]) (t := 45) ?hr ?_; (case hd => rfl); (case hg => rfl); (case hr => first | (go_simp; done) | (go_simp; rfl)); intro gb292 hg w20 hbox hb; have n0_ := Aside0.mk (below_step (by repeat (first | (with_reducible first | exact HB.out | apply below_alloc | apply pw_below_drewN | apply below_drew1) | exact HB.out)) hb); have n1_ := Aside0.mk (hbox); have n2_ := Aside0.mk ((by rw [hg]; exact (below_size (by repeat (first | (with_reducible first | exact HB.out | apply below_alloc | apply pw_below_drewN | apply below_drew1) | exact HB.out))) : w.heap.size ≤ gb292)); have n3_ := Aside0.mk ((by rw [hg]; exact (below_size (by repeat (first | (with_reducible first | exact HB.out | apply below_alloc | apply pw_below_drewN | apply below_drew1) | exact HB.out))) : w.heap.size ≤ gb292)); clear HB; have HB := n0_; have BK292 := n1_; have GW292 := n2_; have GE292 := n3_; clear n0_ n1_ n2_ n3_; clear hb hbox hg; have hcz21_0 : w20.cell? ⟨gb292, 0, none⟩ = some (.int .i64 0) := (blk_cell BK292.out 0).trans rfl; have hcz21_1 : w20.cell? ⟨gb292, 1, none⟩ = some (.int .i64 0) := (blk_cell BK292.out 1).trans rfl; have hcz21_2 : w20.cell? ⟨gb292, 2, none⟩ = some (.int .i64 0) := (blk_cell BK292.out 2).trans rfl; have hfz21_0 := blk_frozen BK292.out 0; have hfz21_1 := blk_frozen BK292.out 1; have hfz21_2 := blk_frozen BK292.out 2) | ((with_reducible refine gate_callee (f := 10) rfl ?_); refine goesL_ (some 17) rfl rfl Tryd.func10 (by kernel_rfl) rfl #[.int .i64 32, .int .u64 a0] rfl (by (try simp only [List.map_toArray, List.map_cons, List.map_nil]); first | done | rfl | (simp only [List.length_drop, List.length_take]; rfl)) ?_; (with_reducible refine (fbits_Narrow.calls k1 32 a0 t293 true t295 _ A18.out).mono ?_); rintro e w22 ⟨rfl, hb⟩; refine ⟨_, rfl, ?_⟩; have n0_ := Aside0.mk (blk_below (g := gb292) (o := .cells #[.int .i64 32, .int .i64 8, .int .i64 23] 45 (0, 0)) (by (with_reducible repeat (first | refine blk_drewN ?_ _ | refine blk_drew ?_ | refine blk_alloc ?_ _)); refine blk_put (cs := #[.int .i64 32, .int .i64 8, .int .i64 0]) ?_ 2 _ rfl; (with_reducible repeat (first | refine blk_drewN ?_ _ | refine blk_drew ?_ | refine blk_alloc ?_ _)); refine blk_put (cs := #[.int .i64 32, .int .i64 0, .int .i64 0]) ?_ 1 _ rfl; (with_reducible repeat (first | refine blk_drewN ?_ _ | refine blk_drew ?_ | refine blk_alloc ?_ _)); refine blk_put (cs := #[.int .i64 0, .int .i64 0, .int .i64 0]) ?_ 0 _ rfl; (with_reducible repeat (first | refine blk_drewN ?_ _ | refine blk_drew ?_ | refine blk_alloc ?_ _)); exact BK292.out) hb); have n1_ := Aside0.mk (below_step (by repeat (first | (with_reducible first | exact HB.out | apply below_alloc | apply pw_below_drewN | apply below_drew1 | refine below_set ?_ GE292.out) | exact HB.out)) hb); clear BK292; clear HB; have BK292 := n0_; have HB := n1_; clear n0_ n1_; (try clear hb); (try clear hb2); (try clear hk); (try clear hi); have hcz23_0 : w22.cell? ⟨gb292, 0, none⟩ = some (.int .i64 32) := (blk_cell BK292.out 0).trans rfl; have hcz23_1 : w22.cell? ⟨gb292, 1, none⟩ = some (.int .i64 8) := (blk_cell BK292.out 1).trans rfl; have hcz23_2 : w22.cell? ⟨gb292, 2, none⟩ = some (.int .i64 23) := (blk_cell BK292.out 2).trans rfl; have hfz23_0 := blk_frozen BK292.out 0; have hfz23_1 := blk_frozen BK292.out 1; have hfz23_2 := blk_frozen BK292.out 2))
              go_ret2
              exact ⟨by first | rfl | (simp [errW_none, errW_some] <;> rfl) | (simp [*, errW_none, errW_some] <;> rfl), by repeat (first | (with_reducible first | exact HB.out | apply below_alloc | apply pw_below_drewN | apply below_drew1 | refine below_set ?_ GE292.out) | exact HB.out)⟩
            · replace c19 := Bool.eq_false_iff.mpr c19
              subst c19
              have H1 : (fbits_Least.l0 k1 a0 (wrap64 (x10_1 + 1))) = some (r1, r2) := by rw [if_neg (show ¬ (false = true) by decide)] at H; exact H
              clear H
              have H := H1
              clear H1
              have H' := Aside0.mk H
              clear H
              go_wp2_with (first | ((with_reducible refine gate_dst (N := 5) rfl ?_); refine box_event ?hg (N := 5) ?hd (cs := #[.int .i64 0, .int .i64 0, .int .i64 0]) (t := 45) ?hr ?_; (case hd => rfl); (case hg => rfl); (case hr => first | (go_simp; done) | (go_simp; rfl)); intro gb292 hg w24 hbox hb; have n0_ := Aside0.mk (below_step (by repeat (first | (with_reducible first | exact HB.out | apply below_alloc | apply pw_below_drewN | apply below_drew1) | exact HB.out)) hb); have n1_ := Aside0.mk (hbox); have n2_ := Aside0.mk ((by rw [hg]; exact (below_size (by repeat (first | (with_reducible first | exact HB.out | apply below_alloc | apply pw_below_drewN | apply below_drew1) | exact HB.out))) : w.heap.size ≤ gb292)); have n3_ := Aside0.mk ((by rw [hg]; exact (below_size (by repeat (first | (with_reducible first | exact HB.out | apply below_alloc | apply pw_below_drewN | apply below_drew1) | exact HB.out))) : w.heap.size ≤ gb292)); clear HB; have HB := n0_; have BK292 := n1_; have GW292 := n2_; have GE292 := n3_; clear n0_ n1_ n2_ n3_; clear hb hbox hg; have hcz25_0 : w24.cell? ⟨gb292, 0, none⟩ = some (.int .i64 0) := (blk_cell BK292.out 0).trans rfl; have hcz25_1 : w24.cell? ⟨gb292, 1, none⟩ = some (.int .i64 0) := (blk_cell BK292.out 1).trans rfl; have hcz25_2 : w24.cell? ⟨gb292, 2, none⟩ = some (.int .i64 0) := (blk_cell BK292.out 2).trans rfl; have hfz25_0 := blk_frozen BK292.out 0; have hfz25_1 := blk_frozen BK292.out 1; have hfz25_2 := blk_frozen BK292.out 2) | ((with_reducible refine gate_callee (f := 10) rfl ?_); refine goesL_ (some 17) rfl rfl Tryd.func10 (by kernel_rfl) rfl #[.int .i64 32, .int .u64 a0] rfl (by (try simp only [List.map_toArray, List.map_cons, List.map_nil]); first | done | rfl | (simp only [List.length_drop, List.length_take]; rfl)) ?_; (with_reducible refine (fbits_Narrow.calls k1 32 a0 t293 false t295 _ A18.out).mono ?_); rintro e w26 ⟨rfl, hb⟩; refine ⟨_, rfl, ?_⟩; have n0_ := Aside0.mk (blk_below (g := gb292) (o := .cells #[.int .i64 32, .int .i64 8, .int .i64 23] 45 (0, 0)) (by (with_reducible repeat (first | refine blk_drewN ?_ _ | refine blk_drew ?_ | refine blk_alloc ?_ _)); refine blk_put (cs := #[.int .i64 32, .int .i64 8, .int .i64 0]) ?_ 2 _ rfl; (with_reducible repeat (first | refine blk_drewN ?_ _ | refine blk_drew ?_ | refine blk_alloc ?_ _)); refine blk_put (cs := #[.int .i64 32, .int .i64 0, .int .i64 0]) ?_ 1 _ rfl; (with_reducible repeat (first | refine blk_drewN ?_ _ | refine blk_drew ?_ | refine blk_alloc ?_ _)); refine blk_put (cs := #[.int .i64 0, .int .i64 0, .int .i64 0]) ?_ 0 _ rfl; (with_reducible repeat (first | refine blk_drewN ?_ _ | refine blk_drew ?_ | refine blk_alloc ?_ _)); exact BK292.out) hb); have n1_ := Aside0.mk (below_step (by repeat (first | (with_reducible first | exact HB.out | apply below_alloc | apply pw_below_drewN | apply below_drew1 | refine below_set ?_ GE292.out) | exact HB.out)) hb); clear BK292; clear HB; have BK292 := n0_; have HB := n1_; clear n0_ n1_; (try clear hb); (try clear hb2); (try clear hk); (try clear hi)))
              go_roundg k1
              case measure => have := HK1.out; omega
              case rel => exact ⟨(wrap64 (x10_1 + 1)), (by first | rfl | (simp; done) | (simp [*]; done) | (simp [*] <;> decide +kernel)), H', ⟨by have := HK1.out; omega⟩, ⟨by repeat (first | (with_reducible first | exact HB.out | apply below_alloc | apply pw_below_drewN | apply below_drew1 | refine below_set ?_ GE292.out) | exact HB.out)⟩⟩
          · rw [if_neg c16] at H
            clear c16
            by_cases c27 : x10_1 = 2
            · rw [if_pos c27] at H
              have hix28 : ∀ w_ : World, (Instr.index 46 (.agg #[.int .i64 16, .int .i64 5, .int .i64 10, .int .i64 32, .int .i64 8, .int .i64 23, .int .i64 64, .int .i64 11, .int .i64 52]) (.int .i64 2)).run Tryd.prog w_ = .ok (.agg #[.int .i64 64, .int .i64 11, .int .i64 52]) w_ := fun _ => by kernel_rfl
              replace H := Option.bind_eq_some_iff.mp H
              obtain ⟨⟨t297, t298, t299⟩, A290, H⟩ := H
              replace H : (if t298 = true then (some (64, t297)) else (fbits_Least.l0 k1 a0 (wrap64 (x10_1 + 1)))) = some (r1, r2) := H
              have A29 := Aside0.mk A290
              clear A290
              by_cases c30 : t298 = true
              · subst c30
                have H1 : (some (64, t297)) = some (r1, r2) := by rw [if_pos rfl] at H; exact H
                clear H
                have H := H1
                clear H1
                simp only [Option.some.injEq, Prod.mk.injEq] at H
                obtain ⟨rfl, rfl⟩ := H
                go_wp2_with (first | ((with_reducible refine gate_dst (N := 5) rfl ?_); refine box_event ?hg (N := 5) ?hd (cs := #[.int .i64 0, .int .i64 0, .int .i64 0]) (t := 45) ?hr ?_; (case hd => rfl); (case hg => rfl); (case hr => first | (go_simp; done) | (go_simp; rfl)); intro gb296 hg w31 hbox hb; have n0_ := Aside0.mk (below_step (by repeat (first | (with_reducible first | exact HB.out | apply below_alloc | apply pw_below_drewN | apply below_drew1) | exact HB.out)) hb); have n1_ := Aside0.mk (hbox); have n2_ := Aside0.mk ((by rw [hg]; exact (below_size (by repeat (first | (with_reducible first | exact HB.out | apply below_alloc | apply pw_below_drewN | apply below_drew1) | exact HB.out))) : w.heap.size ≤ gb296)); have n3_ := Aside0.mk ((by rw [hg]; exact (below_size (by repeat (first | (with_reducible first | exact HB.out | apply below_alloc | apply pw_below_drewN | apply below_drew1) | exact HB.out))) : w.heap.size ≤ gb296)); clear HB; have HB := n0_; have BK296 := n1_; have GW296 := n2_; have GE296 := n3_; clear n0_ n1_ n2_ n3_; clear hb hbox hg; have hcz32_0 : w31.cell? ⟨gb296, 0, none⟩ = some (.int .i64 0) := (blk_cell BK296.out 0).trans rfl; have hcz32_1 : w31.cell? ⟨gb296, 1, none⟩ = some (.int .i64 0) := (blk_cell BK296.out 1).trans rfl; have hcz32_2 : w31.cell? ⟨gb296, 2, none⟩ = some (.int .i64 0) := (blk_cell BK296.out 2).trans rfl; have hfz32_0 := blk_frozen BK296.out 0; have hfz32_1 := blk_frozen BK296.out 1; have hfz32_2 := blk_frozen BK296.out 2) | ((with_reducible refine gate_callee (f := 10) rfl ?_); refine goesL_ (some 17) rfl rfl Tryd.func10 (by kernel_rfl) rfl #[.int .i64 64, .int .u64 a0] rfl (by (try simp only [List.map_toArray, List.map_cons, List.map_nil]); first | done | rfl | (simp only [List.length_drop, List.length_take]; rfl)) ?_; (with_reducible refine (fbits_Narrow.calls k1 64 a0 t297 true t299 _ A29.out).mono ?_); rintro e w33 ⟨rfl, hb⟩; refine ⟨_, rfl, ?_⟩; have n0_ := Aside0.mk (blk_below (g := gb296) (o := .cells #[.int .i64 64, .int .i64 11, .int .i64 52] 45 (0, 0)) (by (with_reducible repeat (first | refine blk_drewN ?_ _ | refine blk_drew ?_ | refine blk_alloc ?_ _)); refine blk_put (cs := #[.int .i64 64, .int .i64 11, .int .i64 0]) ?_ 2 _ rfl; (with_reducible repeat (first | refine blk_drewN ?_ _ | refine blk_drew ?_ | refine blk_alloc ?_ _)); refine blk_put (cs := #[.int .i64 64, .int .i64 0, .int .i64 0]) ?_ 1 _ rfl; (with_reducible repeat (first | refine blk_drewN ?_ _ | refine blk_drew ?_ | refine blk_alloc ?_ _)); refine blk_put (cs := #[.int .i64 0, .int .i64 0, .int .i64 0]) ?_ 0 _ rfl; (with_reducible repeat (first | refine blk_drewN ?_ _ | refine blk_drew ?_ | refine blk_alloc ?_ _)); exact BK296.out) hb); have n1_ := Aside0.mk (below_step (by repeat (first | (with_reducible first | exact HB.out | apply below_alloc | apply pw_below_drewN | apply below_drew1 | refine below_set ?_ GE296.out) | exact HB.out)) hb); clear BK296; clear HB; have BK296 := n0_; have HB := n1_; clear n0_ n1_; (try clear hb); (try clear hb2); (try clear hk); (try clear hi); have hcz34_0 : w33.cell? ⟨gb296, 0, none⟩ = some (.int .i64 64) := (blk_cell BK296.out 0).trans rfl; have hcz34_1 : w33.cell? ⟨gb296, 1, none⟩ = some (.int .i64 11) := (blk_cell BK296.out 1).trans rfl; have hcz34_2 : w33.cell? ⟨gb296, 2, none⟩ = some (.int .i64 52) := (blk_cell BK296.out 2).trans rfl; have hfz34_0 := blk_frozen BK296.out 0; have hfz34_1 := blk_frozen BK296.out 1; have hfz34_2 := blk_frozen BK296.out 2))
                go_ret2
                exact ⟨by first | rfl | (simp [errW_none, errW_some] <;> rfl) | (simp [*, errW_none, errW_some] <;> rfl), by repeat (first | (with_reducible first | exact HB.out | apply below_alloc | apply pw_below_drewN | apply below_drew1 | refine below_set ?_ GE296.out) | exact HB.out)⟩
              · replace c30 := Bool.eq_false_iff.mpr c30
                subst c30
                have H1 : (fbits_Least.l0 k1 a0 (wrap64 (x10_1 + 1))) = some (r1, r2) := by rw [if_neg (show ¬ (false = true) by decide)] at H; exact H
                clear H
                have H := H1
                clear H1
                have H' := Aside0.mk H
                clear H
                go_wp2_with (first | ((with_reducible refine gate_dst (N := 5) rfl ?_); refine box_event ?hg (N := 5) ?hd (cs := #[.int .i64 0, .int .i64 0, .int .i64 0]) (t := 45) ?hr ?_; (case hd => rfl); (case hg => rfl); (case hr => first | (go_simp; done) | (go_simp; rfl)); intro gb296 hg w35 hbox hb; have n0_ := Aside0.mk (below_step (by repeat (first | (with_reducible first | exact HB.out | apply below_alloc | apply pw_below_drewN | apply below_drew1) | exact HB.out)) hb); have n1_ := Aside0.mk (hbox); have n2_ := Aside0.mk ((by rw [hg]; exact (below_size (by repeat (first | (with_reducible first | exact HB.out | apply below_alloc | apply pw_below_drewN | apply below_drew1) | exact HB.out))) : w.heap.size ≤ gb296)); have n3_ := Aside0.mk ((by rw [hg]; exact (below_size (by repeat (first | (with_reducible first | exact HB.out | apply below_alloc | apply pw_below_drewN | apply below_drew1) | exact HB.out))) : w.heap.size ≤ gb296)); clear HB; have HB := n0_; have BK296 := n1_; have GW296 := n2_; have GE296 := n3_; clear n0_ n1_ n2_ n3_; clear hb hbox hg; have hcz36_0 : w35.cell? ⟨gb296, 0, none⟩ = some (.int .i64 0) := (blk_cell BK296.out 0).trans rfl; have hcz36_1 : w35.cell? ⟨gb296, 1, none⟩ = some (.int .i64 0) := (blk_cell BK296.out 1).trans rfl; have hcz36_2 : w35.cell? ⟨gb296, 2, none⟩ = some (.int .i64 0) := (blk_cell BK296.out 2).trans rfl; have hfz36_0 := blk_frozen BK296.out 0; have hfz36_1 := blk_frozen BK296.out 1; have hfz36_2 := blk_frozen BK296.out 2) | ((with_reducible refine gate_callee (f := 10) rfl ?_); refine goesL_ (some 17) rfl rfl Tryd.func10 (by kernel_rfl) rfl #[.int .i64 64, .int .u64 a0] rfl (by (try simp only [List.map_toArray, List.map_cons, List.map_nil]); first | done | rfl | (simp only [List.length_drop, List.length_take]; rfl)) ?_; (with_reducible refine (fbits_Narrow.calls k1 64 a0 t297 false t299 _ A29.out).mono ?_); rintro e w37 ⟨rfl, hb⟩; refine ⟨_, rfl, ?_⟩; have n0_ := Aside0.mk (blk_below (g := gb296) (o := .cells #[.int .i64 64, .int .i64 11, .int .i64 52] 45 (0, 0)) (by (with_reducible repeat (first | refine blk_drewN ?_ _ | refine blk_drew ?_ | refine blk_alloc ?_ _)); refine blk_put (cs := #[.int .i64 64, .int .i64 11, .int .i64 0]) ?_ 2 _ rfl; (with_reducible repeat (first | refine blk_drewN ?_ _ | refine blk_drew ?_ | refine blk_alloc ?_ _)); refine blk_put (cs := #[.int .i64 64, .int .i64 0, .int .i64 0]) ?_ 1 _ rfl; (with_reducible repeat (first | refine blk_drewN ?_ _ | refine blk_drew ?_ | refine blk_alloc ?_ _)); refine blk_put (cs := #[.int .i64 0, .int .i64 0, .int .i64 0]) ?_ 0 _ rfl; (with_reducible repeat (first | refine blk_drewN ?_ _ | refine blk_drew ?_ | refine blk_alloc ?_ _)); exact BK296.out) hb); have n1_ := Aside0.mk (below_step (by repeat (first | (with_reducible first | exact HB.out | apply below_alloc | apply pw_below_drewN | apply below_drew1 | refine below_set ?_ GE296.out) | exact HB.out)) hb); clear BK296; clear HB; have BK296 := n0_; have HB := n1_; clear n0_ n1_; (try clear hb); (try clear hb2); (try clear hk); (try clear hi)))
                go_roundg k1
                case measure => have := HK1.out; omega
                case rel => exact ⟨(wrap64 (x10_1 + 1)), (by first | rfl | (simp; done) | (simp [*]; done) | (simp [*] <;> decide +kernel)), H', ⟨by have := HK1.out; omega⟩, ⟨by repeat (first | (with_reducible first | exact HB.out | apply below_alloc | apply pw_below_drewN | apply below_drew1 | refine below_set ?_ GE296.out) | exact HB.out)⟩⟩
            · rw [if_neg c27] at H
              exact absurd H (by simp)
      · rw [if_neg c4] at H
        have c4b0 : decide (x10_1 < 3) = false := decide_eq_false c4
        clear c4
        simp only [Option.some.injEq, Prod.mk.injEq] at H
        obtain ⟨rfl, rfl⟩ := H
        go_wp2
        go_ret2
        exact ⟨by first | rfl | (simp [errW_none, errW_some] <;> rfl) | (simp [*, errW_none, errW_some] <;> rfl), by repeat (first | (with_reducible first | exact HB.out | apply below_alloc | apply pw_below_drewN | apply below_drew1) | exact HB.out)⟩

/-! ### glossatorref05_Narrow: function 29 -/
mutual
def glossatorref05_Narrow.j0 : Nat → Int → Int → Int → Int → Int → Option (Int × Bool × Int)
  | 0, _, _, _, _, _ => none
  | k + 1, x7, x8, x10, x11, x13 => if 0 ≤ (wrap64 (x7 - 1)) then (if x10 = 0 then (glossatorref05_Narrow.j1 k x7 x8 x10 x11 x13 (wrap64 ((wrap64 (x10 - 1023)) + (wrap64 ((shl .i64 1 (wrap64 (x7 - 1))) - 1)))) (x11 == 0)) else (glossatorref05_Narrow.j1 k x7 x8 x10 x11 x13 (wrap64 ((wrap64 (x10 - 1023)) + (wrap64 ((shl .i64 1 (wrap64 (x7 - 1))) - 1)))) false)) else (none)
def glossatorref05_Narrow.j1 : Nat → Int → Int → Int → Int → Int → Int → Bool → Option (Int × Bool × Int)
  | 0, _, _, _, _, _, _, _ => none
  | k + 1, x7, x8, x10, x11, x13, x15, x52 => if x52 = true then (some (x13, true, 0)) else (if x10 = 0 then (some (0, false, 0)) else (if x10 = 2047 then ((glossatorref05_shift.f k x11 (wrap64 (52 - x8))).bind fun bt306 => (if bt306.2 = true then (if 0 ≤ x7 then (if 0 ≤ x8 then (some (Go.bits .or .u64 (Go.bits .or .u64 x13 (shl .u64 (IntKind.u64.wrap ((shl .u64 1 x7) - 1)) x8)) bt306.1, true, 0)) else (none)) else (none)) else (some (0, false, 0)))) else (if 0 ≤ x7 then (if x15 ≥ (wrap64 ((shl .i64 1 x7) - 1)) then (glossatorref05_Narrow.j2 k x8 x11 x13 x15 true) else (glossatorref05_Narrow.j2 k x8 x11 x13 x15 (decide (x15 < (wrap64 (-x8)))))) else (none))))
def glossatorref05_Narrow.j2 : Nat → Int → Int → Int → Int → Bool → Option (Int × Bool × Int)
  | 0, _, _, _, _, _ => none
  | k + 1, x8, x11, x13, x15, x84 => if x84 = true then (some (0, false, 0)) else (if x15 ≥ 1 then ((glossatorref05_shift.f k x11 (wrap64 (52 - x8))).bind fun bt308 => (if bt308.2 = true then (if 0 ≤ x8 then (some (Go.bits .or .u64 (Go.bits .or .u64 x13 (shl .u64 (IntKind.u64.wrap (x15)) x8)) bt308.1, true, 0)) else (none)) else (some (0, false, 0)))) else ((glossatorref05_shift.f k (Go.bits .or .u64 x11 4503599627370496) (wrap64 ((wrap64 ((wrap64 (52 - x8)) + 1)) - x15))).bind fun bt310 => (if bt310.2 = true then (some (Go.bits .or .u64 x13 bt310.1, true, 0)) else (some (0, false, 0)))))
end
def glossatorref05_Narrow.f (k : Nat) (a0 : Int) (a1 : Int) : Option (Int × Bool × Int) := (glossatorref05_widths.f a0).bind fun bt300 => (if bt300.1 = 0 then (some (0, false, 1)) else (if a0 = 64 then (some (a1, true, 0)) else ((glossatorref05_Parts.f 64 a1).bind fun bt302 => (if bt302.1 = true then (if 0 ≤ (wrap64 (bt300.1 + bt300.2)) then (glossatorref05_Narrow.j0 k bt300.1 bt300.2 bt302.2.1 bt302.2.2.1 (shl .u64 1 (wrap64 (bt300.1 + bt300.2)))) else (none)) else (glossatorref05_Narrow.j0 k bt300.1 bt300.2 bt302.2.1 bt302.2.2.1 0)))))
theorem glossatorref05_Narrow.mono_l : ∀ k, (∀ y0 y1 y2 y3 y4, LeO (glossatorref05_Narrow.j0 k y0 y1 y2 y3 y4) (glossatorref05_Narrow.j0 (k + 1) y0 y1 y2 y3 y4)) ∧ (∀ y0 y1 y2 y3 y4 y5 y6, LeO (glossatorref05_Narrow.j1 k y0 y1 y2 y3 y4 y5 y6) (glossatorref05_Narrow.j1 (k + 1) y0 y1 y2 y3 y4 y5 y6)) ∧ (∀ y0 y1 y2 y3 y4, LeO (glossatorref05_Narrow.j2 k y0 y1 y2 y3 y4) (glossatorref05_Narrow.j2 (k + 1) y0 y1 y2 y3 y4))
  | 0 => ⟨fun _ _ _ _ _ r h => by simp [glossatorref05_Narrow.j0] at h, fun _ _ _ _ _ _ _ r h => by simp [glossatorref05_Narrow.j1] at h, fun _ _ _ _ _ r h => by simp [glossatorref05_Narrow.j2] at h⟩
  | k + 1 => by
    obtain ⟨ih0, ih1, ih2⟩ := glossatorref05_Narrow.mono_l k
    refine ⟨?_, ?_, ?_⟩
    · intro y0 y1 y2 y3 y4
      unfold glossatorref05_Narrow.j0
      repeat' first
      | (with_reducible exact ih0 _ _ _ _ _)
      | (with_reducible exact ih1 _ _ _ _ _ _ _)
      | (with_reducible exact ih2 _ _ _ _ _)
      | (with_reducible exact glossatorref05_shift.mono _ _ _)
      | (with_reducible exact LeO.refl _)
      | (with_reducible exact LeO.none _)
      | (with_reducible refine LeO.ite ?_ ?_)
      | (with_reducible refine LeO.bind ?_ (fun _ => ?_))
      | exact ih0 _ _ _ _ _
      | exact ih1 _ _ _ _ _ _ _
      | exact ih2 _ _ _ _ _
      | exact glossatorref05_shift.mono _ _ _
      | exact LeO.none _
      | refine LeO.ite ?_ ?_
      | refine LeO.bind ?_ (fun _ => ?_)
    · intro y0 y1 y2 y3 y4 y5 y6
      unfold glossatorref05_Narrow.j1
      repeat' first
      | (with_reducible exact ih0 _ _ _ _ _)
      | (with_reducible exact ih1 _ _ _ _ _ _ _)
      | (with_reducible exact ih2 _ _ _ _ _)
      | (with_reducible exact glossatorref05_shift.mono _ _ _)
      | (with_reducible exact LeO.refl _)
      | (with_reducible exact LeO.none _)
      | (with_reducible refine LeO.ite ?_ ?_)
      | (with_reducible refine LeO.bind ?_ (fun _ => ?_))
      | exact ih0 _ _ _ _ _
      | exact ih1 _ _ _ _ _ _ _
      | exact ih2 _ _ _ _ _
      | exact glossatorref05_shift.mono _ _ _
      | exact LeO.none _
      | refine LeO.ite ?_ ?_
      | refine LeO.bind ?_ (fun _ => ?_)
    · intro y0 y1 y2 y3 y4
      unfold glossatorref05_Narrow.j2
      repeat' first
      | (with_reducible exact ih0 _ _ _ _ _)
      | (with_reducible exact ih1 _ _ _ _ _ _ _)
      | (with_reducible exact ih2 _ _ _ _ _)
      | (with_reducible exact glossatorref05_shift.mono _ _ _)
      | (with_reducible exact LeO.refl _)
      | (with_reducible exact LeO.none _)
      | (with_reducible refine LeO.ite ?_ ?_)
      | (with_reducible refine LeO.bind ?_ (fun _ => ?_))
      | exact ih0 _ _ _ _ _
      | exact ih1 _ _ _ _ _ _ _
      | exact ih2 _ _ _ _ _
      | exact glossatorref05_shift.mono _ _ _
      | exact LeO.none _
      | refine LeO.ite ?_ ?_
      | refine LeO.bind ?_ (fun _ => ?_)
theorem glossatorref05_Narrow.mono : ∀ a0 a1 k, LeO (glossatorref05_Narrow.f k a0 a1) (glossatorref05_Narrow.f (k + 1) a0 a1) := by
  intro a0 a1 k
  obtain ⟨ih0, ih1, ih2⟩ := glossatorref05_Narrow.mono_l k
  unfold glossatorref05_Narrow.f
  repeat' first
      | (with_reducible exact ih0 _ _ _ _ _)
      | (with_reducible exact ih1 _ _ _ _ _ _ _)
      | (with_reducible exact ih2 _ _ _ _ _)
      | (with_reducible exact glossatorref05_shift.mono _ _ _)
      | (with_reducible exact LeO.refl _)
      | (with_reducible exact LeO.none _)
      | (with_reducible refine LeO.ite ?_ ?_)
      | (with_reducible refine LeO.bind ?_ (fun _ => ?_))
      | exact ih0 _ _ _ _ _
      | exact ih1 _ _ _ _ _ _ _
      | exact ih2 _ _ _ _ _
      | exact glossatorref05_shift.mono _ _ _
      | exact LeO.none _
      | refine LeO.ite ?_ ?_
      | refine LeO.bind ?_ (fun _ => ?_)
set_option maxHeartbeats 8000000 in
set_option maxRecDepth 100000 in
theorem glossatorref05_Narrow.calls (k : Nat) (a0 : Int) (a1 : Int) (r1 : Int) (r2 : Bool) (r3 : Int) (w : World) (h : glossatorref05_Narrow.f k a0 a1 = some (r1, r2, r3)) :
    Calls Tryd.prog 29 #[.int .i64 a0, .int .u64 a1] w fun e w' => e = .returned (.tuple #[.int .u64 r1, .bool r2, .int .i64 r3]) ∧ Drawn0 w w' := by
  have H : ((glossatorref05_widths.f a0).bind fun bt300 => (if bt300.1 = 0 then (some (0, false, 1)) else (if a0 = 64 then (some (a1, true, 0)) else ((glossatorref05_Parts.f 64 a1).bind fun bt302 => (if bt302.1 = true then (if 0 ≤ (wrap64 (bt300.1 + bt300.2)) then (glossatorref05_Narrow.j0 k bt300.1 bt300.2 bt302.2.1 bt302.2.2.1 (shl .u64 1 (wrap64 (bt300.1 + bt300.2)))) else (none)) else (glossatorref05_Narrow.j0 k bt300.1 bt300.2 bt302.2.1 bt302.2.2.1 0)))))) = some (r1, r2, r3) := h
  clear h
  replace H := Option.bind_eq_some_iff.mp H
  obtain ⟨⟨t300, t301⟩, A30, H⟩ := H
  replace H : (if t300 = 0 then (some (0, false, 1)) else (if a0 = 64 then (some (a1, true, 0)) else ((glossatorref05_Parts.f 64 a1).bind fun bt302 => (if bt302.1 = true then (if 0 ≤ (wrap64 (t300 + t301)) then (glossatorref05_Narrow.j0 k t300 t301 bt302.2.1 bt302.2.2.1 (shl .u64 1 (wrap64 (t300 + t301)))) else (none)) else (glossatorref05_Narrow.j0 k t300 t301 bt302.2.1 bt302.2.2.1 0))))) = some (r1, r2, r3) := H
  have A3 := Aside0.mk A30
  clear A30
  by_cases c4 : t300 = 0
  · rw [if_pos c4] at H
    have c4b0 : (t300 == 0) = true := beq_iff_eq.mpr c4
    have c4b1 : (t300 != 0) = false := bne_eq_false_iff_eq.mpr c4
    clear c4
    simp only [Option.some.injEq, Prod.mk.injEq] at H
    obtain ⟨rfl, rfl, rfl⟩ := H
    go_enter Tryd.func29, Tryd.ntmps29
    go_wp2_with (first | ((with_reducible refine gate_callee (f := 30) rfl ?_); refine goesL_ (some 24) rfl rfl Tryd.func30 (by kernel_rfl) rfl #[.int .i64 a0] rfl (by (try simp only [List.map_toArray, List.map_cons, List.map_nil]); first | done | rfl | (simp only [List.length_drop, List.length_take]; rfl)) ?_; (with_reducible refine (glossatorref05_widths.calls a0 t300 t301 _ A3.out).mono ?_); rintro e w' ⟨rfl, ⟨nd, rfl⟩⟩; refine ⟨_, rfl, ?_⟩))
    go_ret3
    exact ⟨by first | rfl | (simp; done) | (simp [*]; done), by repeat (first | exact Drawn0.refl _ | apply Drawn0.step)⟩
  · rw [if_neg c4] at H
    have c4b0 : (t300 == 0) = false := beq_eq_false_iff_ne.mpr c4
    have c4b1 : (t300 != 0) = true := bne_iff_ne.mpr c4
    by_cases c5 : a0 = 64
    · rw [if_pos c5] at H
      have c5b0 : (a0 == 64) = true := beq_iff_eq.mpr c5
      have c5b1 : (a0 != 64) = false := bne_eq_false_iff_eq.mpr c5
      clear c5
      simp only [Option.some.injEq, Prod.mk.injEq] at H
      obtain ⟨rfl, rfl, rfl⟩ := H
      go_enter Tryd.func29, Tryd.ntmps29
      go_wp2_with (first | ((with_reducible refine gate_callee (f := 30) rfl ?_); refine goesL_ (some 24) rfl rfl Tryd.func30 (by kernel_rfl) rfl #[.int .i64 a0] rfl (by (try simp only [List.map_toArray, List.map_cons, List.map_nil]); first | done | rfl | (simp only [List.length_drop, List.length_take]; rfl)) ?_; (with_reducible refine (glossatorref05_widths.calls a0 t300 t301 _ A3.out).mono ?_); rintro e w' ⟨rfl, ⟨nd, rfl⟩⟩; refine ⟨_, rfl, ?_⟩))
      go_ret3
      exact ⟨by first | rfl | (simp; done) | (simp [*]; done), by repeat (first | exact Drawn0.refl _ | apply Drawn0.step)⟩
    · rw [if_neg c5] at H
      have c5b0 : (a0 == 64) = false := beq_eq_false_iff_ne.mpr c5
      have c5b1 : (a0 != 64) = true := bne_iff_ne.mpr c5
      replace H := Option.bind_eq_some_iff.mp H
      obtain ⟨⟨t302, t303, t304, t305⟩, A60, H⟩ := H
      replace H : (if t302 = true then (if 0 ≤ (wrap64 (t300 + t301)) then (glossatorref05_Narrow.j0 k t300 t301 t303 t304 (shl .u64 1 (wrap64 (t300 + t301)))) else (none)) else (glossatorref05_Narrow.j0 k t300 t301 t303 t304 0)) = some (r1, r2, r3) := H
      have A6 := Aside0.mk A60
      clear A60
      have HC7 := Aside0.mk H
      clear H
      go_enter Tryd.func29, Tryd.ntmps29
      go_upto_if 39 with (first | ((with_reducible refine gate_callee (f := 30) rfl ?_); refine goesL_ (some 24) rfl rfl Tryd.func30 (by kernel_rfl) rfl #[.int .i64 a0] rfl (by (try simp only [List.map_toArray, List.map_cons, List.map_nil]); first | done | rfl | (simp only [List.length_drop, List.length_take]; rfl)) ?_; (with_reducible refine (glossatorref05_widths.calls a0 t300 t301 _ A3.out).mono ?_); rintro e w' ⟨rfl, ⟨nd, rfl⟩⟩; refine ⟨_, rfl, ?_⟩) | ((with_reducible refine gate_callee (f := 26) rfl ?_); refine goesL_ (some 34) rfl rfl Tryd.func26 (by kernel_rfl) rfl #[.int .i64 64, .int .u64 a1] rfl (by (try simp only [List.map_toArray, List.map_cons, List.map_nil]); first | done | rfl | (simp only [List.length_drop, List.length_take]; rfl)) ?_; (with_reducible refine (glossatorref05_Parts.calls 64 a1 t302 t303 t304 t305 _ A6.out).mono ?_); rintro e w' ⟨rfl, ⟨nd, rfl⟩⟩; refine ⟨_, rfl, ?_⟩))
      (try simp only [Act.put, List.setIfInBounds_toArray, List.set_cons_zero, List.set_cons_succ])
      go_cut [13] (fun v13 wc => ∃ (kq : Nat) (x13_6 : Int), v13 = .int .u64 x13_6 ∧ Aside0 (glossatorref05_Narrow.j0 kq t300 t301 t303 t304 x13_6 = some (r1, r2, r3)) ∧ Aside0 (kq ≤ k) ∧ Drawn0 w wc)
      case first =>
        have H := HC7.out
        clear HC7
        by_cases c8 : t302 = true
        · subst c8
          have H1 : (if 0 ≤ (wrap64 (t300 + t301)) then (glossatorref05_Narrow.j0 k t300 t301 t303 t304 (shl .u64 1 (wrap64 (t300 + t301)))) else (none)) = some (r1, r2, r3) := by rw [if_pos rfl] at H; exact H
          clear H
          have H := H1
          clear H1
          obtain ⟨ji9, hji9⟩ : ∃ j_ : Int, (wrap64 (t300 + t301)) = j_ := ⟨_, rfl⟩
          replace H : (if 0 ≤ (ji9) then (glossatorref05_Narrow.j0 k t300 t301 t303 t304 (shl .u64 1 (ji9))) else (none)) = some (r1, r2, r3) := by first | (rw [hji9] at H; exact H) | (simp only [hji9] at H ⊢; exact H)
          have hji9w : (IntKind.i64.wrap (t300 + t301)) = ji9 := (i64_w _).trans hji9
          by_cases c10 : 0 ≤ (ji9)
          · rw [if_pos c10] at H
            have c10b0 := eq_true c10
            have c10b1 : decide (0 ≤ (ji9)) = true := decide_eq_true c10
            clear c10
            obtain ⟨ji11, hji11⟩ : ∃ j_ : Int, (shl .u64 1 (ji9)) = j_ := ⟨_, rfl⟩
            replace H : (glossatorref05_Narrow.j0 k t300 t301 t303 t304 ji11) = some (r1, r2, r3) := by first | (rw [hji11] at H; exact H) | (simp only [hji11] at H ⊢; exact H)
            have hji11_ : (IntKind.u64.wrap (1 * 2 ^ min (ji9).toNat 64)) = ji11 := hji11
            have hji11z : (ji9) ≤ 64 → (IntKind.u64.wrap (1 * 2 ^ (ji9).toNat)) = ji11 := shl_small hji11
            have hji11u : (IntKind.u64.wrap (2 ^ min (ji9).toNat 64)) = ji11 := by have h_ := hji11_; rw [Int.one_mul] at h_; exact h_
            have hji11v : (ji9) ≤ 64 → (IntKind.u64.wrap (2 ^ (ji9).toNat)) = ji11 := fun hle_ => by have h_ := hji11z hle_; rw [Int.one_mul] at h_; exact h_
            (try have hji11tz := hji11z (by simp only [beq_iff_eq, decide_eq_true_eq] at *; omega))
            (try have hji11tv := hji11v (by simp only [beq_iff_eq, decide_eq_true_eq] at *; omega))
            have H' := Aside0.mk H
            clear H
            go_wp2
            go_meet
            case rel => exact ⟨_, (ji11), (by first | rfl | (simp; done) | (simp only [← hji11] <;> (first | rfl | simp)) | (simp [*]; done)), H', ⟨by first | omega | exact Nat.le_refl _⟩, by repeat (first | exact Drawn0.refl _ | apply Drawn0.step)⟩
          · rw [if_neg c10] at H
            exact absurd H (by simp)
        · replace c8 := Bool.eq_false_iff.mpr c8
          subst c8
          have H1 : (glossatorref05_Narrow.j0 k t300 t301 t303 t304 0) = some (r1, r2, r3) := by rw [if_neg (show ¬ (false = true) by decide)] at H; exact H
          clear H
          have H := H1
          clear H1
          have H' := Aside0.mk H
          clear H
          go_wp2
          go_meet
          case rel => exact ⟨_, (0), (by first | rfl | (simp; done) | (simp [*]; done) | (simp [*] <;> decide +kernel)), H', ⟨by first | omega | exact Nat.le_refl _⟩, by repeat (first | exact Drawn0.refl _ | apply Drawn0.step)⟩
      case rest =>
        clear HC7
        try clear c1
        try clear c2
        try clear p2
        try clear c3
        try clear c4
        try clear c4b0
        try clear c4b1
        try clear c5
        try clear c5b0
        try clear c5b1
        try clear p6
        try clear c8
        try clear c10
        try clear c10b0
        try clear c10b1
        obtain ⟨kq, x13_6, rfl, HA, HJ6, ⟨mc6, rfl⟩⟩ := hcut
        cases kq with
        | zero => exact absurd HA.out (by simp [glossatorref05_Narrow.j0])
        | succ kj6 =>
          have H := HA.out
          clear HA
          simp only [glossatorref05_Narrow.j0] at H
          obtain ⟨ji12, hji12⟩ : ∃ j_ : Int, (wrap64 (t300 - 1)) = j_ := ⟨_, rfl⟩
          replace H : (if 0 ≤ (ji12) then (if t303 = 0 then (glossatorref05_Narrow.j1 kj6 t300 t301 t303 t304 x13_6 (wrap64 ((wrap64 (t303 - 1023)) + (wrap64 ((shl .i64 1 (ji12)) - 1)))) (t304 == 0)) else (glossatorref05_Narrow.j1 kj6 t300 t301 t303 t304 x13_6 (wrap64 ((wrap64 (t303 - 1023)) + (wrap64 ((shl .i64 1 (ji12)) - 1)))) false)) else (none)) = some (r1, r2, r3) := by first | (rw [hji12] at H; exact H) | (simp only [hji12] at H ⊢; exact H)
          have hji12w : (IntKind.i64.wrap (t300 - 1)) = ji12 := (i64_w _).trans hji12
          by_cases c13 : 0 ≤ (ji12)
          · rw [if_pos c13] at H
            have c13b0 := eq_true c13
            have c13b1 : decide (0 ≤ (ji12)) = true := decide_eq_true c13
            clear c13
            obtain ⟨ji14, hji14⟩ : ∃ j_ : Int, (shl .i64 1 (ji12)) = j_ := ⟨_, rfl⟩
            replace H : (if t303 = 0 then (glossatorref05_Narrow.j1 kj6 t300 t301 t303 t304 x13_6 (wrap64 ((wrap64 (t303 - 1023)) + (wrap64 ((ji14) - 1)))) (t304 == 0)) else (glossatorref05_Narrow.j1 kj6 t300 t301 t303 t304 x13_6 (wrap64 ((wrap64 (t303 - 1023)) + (wrap64 ((ji14) - 1)))) false)) = some (r1, r2, r3) := by first | (rw [hji14] at H; exact H) | (simp only [hji14] at H ⊢; exact H)
            have hji14_ : (IntKind.i64.wrap (1 * 2 ^ min (ji12).toNat 64)) = ji14 := hji14
            have hji14z : (ji12) ≤ 64 → (IntKind.i64.wrap (1 * 2 ^ (ji12).toNat)) = ji14 := shl_small hji14
            have hji14u : (IntKind.i64.wrap (2 ^ min (ji12).toNat 64)) = ji14 := by have h_ := hji14_; rw [Int.one_mul] at h_; exact h_
            have hji14v : (ji12) ≤ 64 → (IntKind.i64.wrap (2 ^ (ji12).toNat)) = ji14 := fun hle_ => by have h_ := hji14z hle_; rw [Int.one_mul] at h_; exact h_
            have hji14y : (wrap64 (1 * 2 ^ min (ji12).toNat 64)) = ji14 := (i64_w _).symm.trans hji14_
            have hji14x : (ji12) ≤ 64 → (wrap64 (1 * 2 ^ (ji12).toNat)) = ji14 := fun h_ => (i64_w _).symm.trans (hji14z h_)
            (try have hji14tz := hji14z (by simp only [beq_iff_eq, decide_eq_true_eq] at *; omega))
            (try have hji14tv := hji14v (by simp only [beq_iff_eq, decide_eq_true_eq] at *; omega))
            (try have hji14tx := hji14x (by simp only [beq_iff_eq, decide_eq_true_eq] at *; omega))
            have HC15 := Aside0.mk H
            clear H
            go_upto_region 12 with (fail)
            go_cut [52] (fun v52 wc => ∃ (kq : Nat) (x52_14 : Bool), v52 = .bool x52_14 ∧ Aside0 (glossatorref05_Narrow.j1 kq t300 t301 t303 t304 x13_6 (wrap64 ((wrap64 (t303 - 1023)) + (wrap64 ((ji14) - 1)))) x52_14 = some (r1, r2, r3)) ∧ Aside0 (kq ≤ kj6) ∧ Drawn0 w wc)
            case first =>
              have H := HC15.out
              clear HC15
              by_cases c16 : t303 = 0
              · rw [if_pos c16] at H
                have c16b0 : (t303 == 0) = true := beq_iff_eq.mpr c16
                have c16b1 : (t303 != 0) = false := bne_eq_false_iff_eq.mpr c16
                clear c16
                (first | rw [c16b0] | (simp only [i64_w, i32_w]; rw [c16b0]) | skip)
                have H' := Aside0.mk H
                clear H
                go_wp2
                go_meet
                case rel => exact ⟨_, ((t304 == 0)), (by first | rfl | (simp; done) | (simp [*]; done) | (simp [*] <;> decide +kernel)), H', ⟨by have := HJ6.out; first | omega | exact Nat.le_refl _⟩, by repeat (first | exact Drawn0.refl _ | apply Drawn0.step)⟩
              · rw [if_neg c16] at H
                have c16b0 : (t303 == 0) = false := beq_eq_false_iff_ne.mpr c16
                have c16b1 : (t303 != 0) = true := bne_iff_ne.mpr c16
                (first | rw [c16b0] | (simp only [i64_w, i32_w]; rw [c16b0]) | skip)
                have H' := Aside0.mk H
                clear H
                go_wp2
                go_meet
                case rel => exact ⟨_, (false), (by first | rfl | (simp; done) | (simp [*]; done) | (simp [*] <;> decide +kernel)), H', ⟨by have := HJ6.out; first | omega | exact Nat.le_refl _⟩, by repeat (first | exact Drawn0.refl _ | apply Drawn0.step)⟩
            case rest =>
              clear HC15
              try clear c1
              try clear c2
              try clear p2
              try clear c3
              try clear c4
              try clear c4b0
              try clear c4b1
              try clear c5
              try clear c5b0
              try clear c5b1
              try clear c6
              try clear p6
              try clear c8
              try clear c10
              try clear c10b0
              try clear c10b1
              try clear c13
              try clear c13b0
              try clear c13b1
              try clear c16
              try clear c16b0
              try clear c16b1
              try clear p2
              try clear p6
              obtain ⟨kq, x52_14, rfl, HA, HJ14, ⟨mc14, rfl⟩⟩ := hcut
              cases kq with
              | zero => exact absurd HA.out (by simp [glossatorref05_Narrow.j1])
              | succ kj14 =>
                have H := HA.out
                clear HA
                simp only [glossatorref05_Narrow.j1] at H
                by_cases c17 : x52_14 = true
                · subst c17
                  have H1 : (some (x13_6, true, 0)) = some (r1, r2, r3) := by rw [if_pos rfl] at H; exact H
                  clear H
                  have H := H1
                  clear H1
                  simp only [Option.some.injEq, Prod.mk.injEq] at H
                  obtain ⟨rfl, rfl, rfl⟩ := H
                  go_wp2
                  go_ret3
                  exact ⟨by first | rfl | (simp; done) | (simp only [← hji12, ← hji14] <;> (first | rfl | simp)) | (simp [*]; done), by repeat (first | exact Drawn0.refl _ | apply Drawn0.step)⟩
                · replace c17 := Bool.eq_false_iff.mpr c17
                  subst c17
                  have H1 : (if t303 = 0 then (some (0, false, 0)) else (if t303 = 2047 then ((glossatorref05_shift.f kj14 t304 (wrap64 (52 - t301))).bind fun bt306 => (if bt306.2 = true then (if 0 ≤ t300 then (if 0 ≤ t301 then (some (Go.bits .or .u64 (Go.bits .or .u64 x13_6 (shl .u64 (IntKind.u64.wrap ((shl .u64 1 t300) - 1)) t301)) bt306.1, true, 0)) else (none)) else (none)) else (some (0, false, 0)))) else (if 0 ≤ t300 then (if (wrap64 ((wrap64 (t303 - 1023)) + (wrap64 ((ji14) - 1)))) ≥ (wrap64 ((shl .i64 1 t300) - 1)) then (glossatorref05_Narrow.j2 kj14 t301 t304 x13_6 (wrap64 ((wrap64 (t303 - 1023)) + (wrap64 ((ji14) - 1)))) true) else (glossatorref05_Narrow.j2 kj14 t301 t304 x13_6 (wrap64 ((wrap64 (t303 - 1023)) + (wrap64 ((ji14) - 1)))) (decide ((wrap64 ((wrap64 (t303 - 1023)) + (wrap64 ((ji14) - 1)))) < (wrap64 (-t301)))))) else (none)))) = some (r1, r2, r3) := by rw [if_neg (show ¬ (false = true) by decide)] at H; exact H
                  clear H
                  have H := H1
                  clear H1
                  by_cases c18 : t303 = 0
                  · rw [if_pos c18] at H
                    have c18b0 : (t303 == 0) = true := beq_iff_eq.mpr c18
                    have c18b1 : (t303 != 0) = false := bne_eq_false_iff_eq.mpr c18
                    clear c18
                    simp only [Option.some.injEq, Prod.mk.injEq] at H
                    obtain ⟨rfl, rfl, rfl⟩ := H
                    go_wp2
                    go_ret3
                    exact ⟨by first | rfl | (simp; done) | (simp only [← hji12, ← hji14] <;> (first | rfl | simp)) | (simp [*]; done), by repeat (first | exact Drawn0.refl _ | apply Drawn0.step)⟩
                  · rw [if_neg c18] at H
                    have c18b0 : (t303 == 0) = false := beq_eq_false_iff_ne.mpr c18
                    have c18b1 : (t303 != 0) = true := bne_iff_ne.mpr c18
                    by_cases c19 : t303 = 2047
                    · rw [if_pos c19] at H
                      have c19b0 : (t303 == 2047) = true := beq_iff_eq.mpr c19
                      have c19b1 : (t303 != 2047) = false := bne_eq_false_iff_eq.mpr c19
                      clear c19
                      replace H := Option.bind_eq_some_iff.mp H
                      obtain ⟨⟨t306, t307⟩, A200, H⟩ := H
                      replace H : (if t307 = true then (if 0 ≤ t300 then (if 0 ≤ t301 then (some (Go.bits .or .u64 (Go.bits .or .u64 x13_6 (shl .u64 (IntKind.u64.wrap ((shl .u64 1 t300) - 1)) t301)) t306, true, 0)) else (none)) else (none)) else (some (0, false, 0))) = some (r1, r2, r3) := H
                      have A20 := Aside0.mk A200
                      clear A200
                      by_cases c21 : t307 = true
                      · subst c21
                        have H1 : (if 0 ≤ t300 then (if 0 ≤ t301 then (some (Go.bits .or .u64 (Go.bits .or .u64 x13_6 (shl .u64 (IntKind.u64.wrap ((shl .u64 1 t300) - 1)) t301)) t306, true, 0)) else (none)) else (none)) = some (r1, r2, r3) := by rw [if_pos rfl] at H; exact H
                        clear H
                        have H := H1
                        clear H1
                        by_cases c22 : 0 ≤ t300
                        · rw [if_pos c22] at H
                          have c22b0 := eq_true c22
                          have c22b1 : decide (0 ≤ t300) = true := decide_eq_true c22
                          clear c22
                          obtain ⟨ji23, hji23⟩ : ∃ j_ : Int, (shl .u64 1 t300) = j_ := ⟨_, rfl⟩
                          replace H : (if 0 ≤ t301 then (some (Go.bits .or .u64 (Go.bits .or .u64 x13_6 (shl .u64 (IntKind.u64.wrap ((ji23) - 1)) t301)) t306, true, 0)) else (none)) = some (r1, r2, r3) := by first | (rw [hji23] at H; exact H) | (simp only [hji23] at H ⊢; exact H)
                          (try rw [hji23] at A20)
                          have hji23_ : (IntKind.u64.wrap (1 * 2 ^ min t300.toNat 64)) = ji23 := hji23
                          have hji23z : t300 ≤ 64 → (IntKind.u64.wrap (1 * 2 ^ t300.toNat)) = ji23 := shl_small hji23
                          have hji23u : (IntKind.u64.wrap (2 ^ min t300.toNat 64)) = ji23 := by have h_ := hji23_; rw [Int.one_mul] at h_; exact h_
                          have hji23v : t300 ≤ 64 → (IntKind.u64.wrap (2 ^ t300.toNat)) = ji23 := fun hle_ => by have h_ := hji23z hle_; rw [Int.one_mul] at h_; exact h_
                          (try have hji23tz := hji23z (by simp only [beq_iff_eq, decide_eq_true_eq] at *; omega))
                          (try have hji23tv := hji23v (by simp only [beq_iff_eq, decide_eq_true_eq] at *; omega))
                          by_cases c24 : 0 ≤ t301
                          · rw [if_pos c24] at H
                            have c24b0 := eq_true c24
                            have c24b1 : decide (0 ≤ t301) = true := decide_eq_true c24
                            clear c24
                            obtain ⟨ji25, hji25⟩ : ∃ j_ : Int, (shl .u64 (IntKind.u64.wrap ((ji23) - 1)) t301) = j_ := ⟨_, rfl⟩
                            replace H : (some (Go.bits .or .u64 (Go.bits .or .u64 x13_6 (ji25)) t306, true, 0)) = some (r1, r2, r3) := by first | (rw [hji25] at H; exact H) | (simp only [hji25] at H ⊢; exact H)
                            (try rw [hji25] at A20)
                            have hji25_ : (IntKind.u64.wrap ((IntKind.u64.wrap ((ji23) - 1)) * 2 ^ min t301.toNat 64)) = ji25 := hji25
                            have hji25z : t301 ≤ 64 → (IntKind.u64.wrap ((IntKind.u64.wrap ((ji23) - 1)) * 2 ^ t301.toNat)) = ji25 := shl_small hji25
                            (try have hji25tz := hji25z (by simp only [beq_iff_eq, decide_eq_true_eq] at *; omega))
                            simp only [Option.some.injEq, Prod.mk.injEq] at H
                            obtain ⟨rfl, rfl, rfl⟩ := H
                            go_wp2_with (first | ((with_reducible refine gate_callee (f := 27) rfl ?_); refine goesL_ (some 70) rfl rfl Tryd.func27 (by kernel_rfl) rfl #[.int .u64 t304, .int .i64 (wrap64 (52 - t301))] rfl (by (try simp only [List.map_toArray, List.map_cons, List.map_nil]); first | done | rfl | (simp only [List.length_drop, List.length_take]; rfl)) ?_; (with_reducible refine (glossatorref05_shift.calls kj14 t304 (wrap64 (52 - t301)) t306 true _ A20.out).mono ?_); rintro e w' ⟨rfl, ⟨nd, rfl⟩⟩; refine ⟨_, rfl, ?_⟩))
                            go_ret3
                            exact ⟨by first | rfl | (simp; done) | (simp only [← hji12, ← hji14, ← hji23, ← hji25] <;> (first | rfl | simp)) | (simp [*]; done), by repeat (first | exact Drawn0.refl _ | apply Drawn0.step)⟩
                          · rw [if_neg c24] at H
                            exact absurd H (by simp)
                        · rw [if_neg c22] at H
                          exact absurd H (by simp)
                      · replace c21 := Bool.eq_false_iff.mpr c21
                        subst c21
                        have H1 : (some (0, false, 0)) = some (r1, r2, r3) := by rw [if_neg (show ¬ (false = true) by decide)] at H; exact H
                        clear H
                        have H := H1
                        clear H1
                        simp only [Option.some.injEq, Prod.mk.injEq] at H
                        obtain ⟨rfl, rfl, rfl⟩ := H
                        go_wp2_with (first | ((with_reducible refine gate_callee (f := 27) rfl ?_); refine goesL_ (some 70) rfl rfl Tryd.func27 (by kernel_rfl) rfl #[.int .u64 t304, .int .i64 (wrap64 (52 - t301))] rfl (by (try simp only [List.map_toArray, List.map_cons, List.map_nil]); first | done | rfl | (simp only [List.length_drop, List.length_take]; rfl)) ?_; (with_reducible refine (glossatorref05_shift.calls kj14 t304 (wrap64 (52 - t301)) t306 false _ A20.out).mono ?_); rintro e w' ⟨rfl, ⟨nd, rfl⟩⟩; refine ⟨_, rfl, ?_⟩))
                        go_ret3
                        exact ⟨by first | rfl | (simp; done) | (simp only [← hji12, ← hji14] <;> (first | rfl | simp)) | (simp [*]; done), by repeat (first | exact Drawn0.refl _ | apply Drawn0.step)⟩
                    · rw [if_neg c19] at H
                      have c19b0 : (t303 == 2047) = false := beq_eq_false_iff_ne.mpr c19
                      have c19b1 : (t303 != 2047) = true := bne_iff_ne.mpr c19
                      have HC26 := Aside0.mk H
                      clear H
                      go_upto_region 21 with (fail)
                      go_cut [84] (fun v84 wc => ∃ (kq : Nat) (x84_25 : Bool), v84 = .bool x84_25 ∧ Aside0 (glossatorref05_Narrow.j2 kq t301 t304 x13_6 (wrap64 ((wrap64 (t303 - 1023)) + (wrap64 ((ji14) - 1)))) x84_25 = some (r1, r2, r3)) ∧ Aside0 (kq ≤ kj14) ∧ Drawn0 w wc)
                      case first =>
                        have H := HC26.out
                        clear HC26
                        by_cases c27 : 0 ≤ t300
                        · rw [if_pos c27] at H
                          have c27b0 := eq_true c27
                          have c27b1 : decide (0 ≤ t300) = true := decide_eq_true c27
                          clear c27
                          obtain ⟨ji28, hji28⟩ : ∃ j_ : Int, (shl .i64 1 t300) = j_ := ⟨_, rfl⟩
                          replace H : (if (wrap64 ((wrap64 (t303 - 1023)) + (wrap64 ((ji14) - 1)))) ≥ (wrap64 ((ji28) - 1)) then (glossatorref05_Narrow.j2 kj14 t301 t304 x13_6 (wrap64 ((wrap64 (t303 - 1023)) + (wrap64 ((ji14) - 1)))) true) else (glossatorref05_Narrow.j2 kj14 t301 t304 x13_6 (wrap64 ((wrap64 (t303 - 1023)) + (wrap64 ((ji14) - 1)))) (decide ((wrap64 ((wrap64 (t303 - 1023)) + (wrap64 ((ji14) - 1)))) < (wrap64 (-t301)))))) = some (r1, r2, r3) := by first | (rw [hji28] at H; exact H) | (simp only [hji28] at H ⊢; exact H)
                          have hji28_ : (IntKind.i64.wrap (1 * 2 ^ min t300.toNat 64)) = ji28 := hji28
                          have hji28z : t300 ≤ 64 → (IntKind.i64.wrap (1 * 2 ^ t300.toNat)) = ji28 := shl_small hji28
                          have hji28u : (IntKind.i64.wrap (2 ^ min t300.toNat 64)) = ji28 := by have h_ := hji28_; rw [Int.one_mul] at h_; exact h_
                          have hji28v : t300 ≤ 64 → (IntKind.i64.wrap (2 ^ t300.toNat)) = ji28 := fun hle_ => by have h_ := hji28z hle_; rw [Int.one_mul] at h_; exact h_
                          have hji28y : (wrap64 (1 * 2 ^ min t300.toNat 64)) = ji28 := (i64_w _).symm.trans hji28_
                          have hji28x : t300 ≤ 64 → (wrap64 (1 * 2 ^ t300.toNat)) = ji28 := fun h_ => (i64_w _).symm.trans (hji28z h_)
                          (try have hji28tz := hji28z (by simp only [beq_iff_eq, decide_eq_true_eq] at *; omega))
                          (try have hji28tv := hji28v (by simp only [beq_iff_eq, decide_eq_true_eq] at *; omega))
                          (try have hji28tx := hji28x (by simp only [beq_iff_eq, decide_eq_true_eq] at *; omega))
                          by_cases c29 : (wrap64 ((wrap64 (t303 - 1023)) + (wrap64 ((ji14) - 1)))) ≥ (wrap64 ((ji28) - 1))
                          · rw [if_pos c29] at H
                            have c29b0 : decide ((wrap64 ((ji28) - 1)) ≤ (wrap64 ((wrap64 (t303 - 1023)) + (wrap64 ((ji14) - 1))))) = true := decide_eq_true c29
                            clear c29
                            (first | rw [c29b0] | (simp only [i64_w, i32_w]; rw [c29b0]) | skip)
                            have H' := Aside0.mk H
                            clear H
                            go_wp2
                            go_meet
                            case rel => exact ⟨_, (true), (by first | rfl | (simp; done) | (simp [*]; done) | (simp [*] <;> decide +kernel)), H', ⟨by have := HJ6.out; have := HJ14.out; first | omega | exact Nat.le_refl _⟩, by repeat (first | exact Drawn0.refl _ | apply Drawn0.step)⟩
                          · rw [if_neg c29] at H
                            have c29b0 : decide ((wrap64 ((ji28) - 1)) ≤ (wrap64 ((wrap64 (t303 - 1023)) + (wrap64 ((ji14) - 1))))) = false := decide_eq_false c29
                            clear c29
                            (first | rw [c29b0] | (simp only [i64_w, i32_w]; rw [c29b0]) | skip)
                            have H' := Aside0.mk H
                            clear H
                            go_wp2
                            go_meet
                            case rel => exact ⟨_, (decide ((wrap64 ((wrap64 (t303 - 1023)) + (wrap64 ((ji14) - 1)))) < (wrap64 (-t301)))), (by first | rfl | (simp; done) | (simp only [← hji14] <;> (first | rfl | simp)) | (simp [*]; done)), H', ⟨by have := HJ6.out; have := HJ14.out; first | omega | exact Nat.le_refl _⟩, by repeat (first | exact Drawn0.refl _ | apply Drawn0.step)⟩
                        · rw [if_neg c27] at H
                          exact absurd H (by simp)
                      case rest =>
                        clear HC26
                        try clear c1
                        try clear c2
                        try clear p2
                        try clear c3
                        try clear c4
                        try clear c4b0
                        try clear c4b1
                        try clear c5
                        try clear c5b0
                        try clear c5b1
                        try clear c6
                        try clear p6
                        try clear c8
                        try clear c10
                        try clear c10b0
                        try clear c10b1
                        try clear c13
                        try clear c13b0
                        try clear c13b1
                        try clear c14
                        try clear c16
                        try clear c16b0
                        try clear c16b1
                        try clear c17
                        try clear c18
                        try clear c18b0
                        try clear c18b1
                        try clear c19
                        try clear c19b0
                        try clear c19b1
                        try clear c21
                        try clear c22
                        try clear c22b0
                        try clear c22b1
                        try clear c24
                        try clear c24b0
                        try clear c24b1
                        try clear c26
                        try clear c27
                        try clear c27b0
                        try clear c27b1
                        try clear c29
                        try clear c29b0
                        try clear p2
                        try clear p6
                        obtain ⟨kq, x84_25, rfl, HA, HJ25, ⟨mc25, rfl⟩⟩ := hcut
                        cases kq with
                        | zero => exact absurd HA.out (by simp [glossatorref05_Narrow.j2])
                        | succ kj25 =>
                          have H := HA.out
                          clear HA
                          simp only [glossatorref05_Narrow.j2] at H
                          by_cases c30 : x84_25 = true
                          · subst c30
                            have H1 : (some (0, false, 0)) = some (r1, r2, r3) := by rw [if_pos rfl] at H; exact H
                            clear H
                            have H := H1
                            clear H1
                            simp only [Option.some.injEq, Prod.mk.injEq] at H
                            obtain ⟨rfl, rfl, rfl⟩ := H
                            go_wp2
                            go_ret3
                            exact ⟨by first | rfl | (simp; done) | (simp only [← hji12, ← hji14] <;> (first | rfl | simp)) | (simp [*]; done), by repeat (first | exact Drawn0.refl _ | apply Drawn0.step)⟩
                          · replace c30 := Bool.eq_false_iff.mpr c30
                            subst c30
                            have H1 : (if (wrap64 ((wrap64 (t303 - 1023)) + (wrap64 ((ji14) - 1)))) ≥ 1 then ((glossatorref05_shift.f kj25 t304 (wrap64 (52 - t301))).bind fun bt308 => (if bt308.2 = true then (if 0 ≤ t301 then (some (Go.bits .or .u64 (Go.bits .or .u64 x13_6 (shl .u64 (IntKind.u64.wrap ((wrap64 ((wrap64 (t303 - 1023)) + (wrap64 ((ji14) - 1)))))) t301)) bt308.1, true, 0)) else (none)) else (some (0, false, 0)))) else ((glossatorref05_shift.f kj25 (Go.bits .or .u64 t304 4503599627370496) (wrap64 ((wrap64 ((wrap64 (52 - t301)) + 1)) - (wrap64 ((wrap64 (t303 - 1023)) + (wrap64 ((ji14) - 1))))))).bind fun bt310 => (if bt310.2 = true then (some (Go.bits .or .u64 x13_6 bt310.1, true, 0)) else (some (0, false, 0))))) = some (r1, r2, r3) := by rw [if_neg (show ¬ (false = true) by decide)] at H; exact H
                            clear H
                            have H := H1
                            clear H1
                            by_cases c31 : (wrap64 ((wrap64 (t303 - 1023)) + (wrap64 ((ji14) - 1)))) ≥ 1
                            · rw [if_pos c31] at H
                              have c31b0 : decide (1 ≤ (wrap64 ((wrap64 (t303 - 1023)) + (wrap64 ((ji14) - 1))))) = true := decide_eq_true c31
                              clear c31
                              replace H := Option.bind_eq_some_iff.mp H
                              obtain ⟨⟨t308, t309⟩, A320, H⟩ := H
                              replace H : (if t309 = true then (if 0 ≤ t301 then (some (Go.bits .or .u64 (Go.bits .or .u64 x13_6 (shl .u64 (IntKind.u64.wrap ((wrap64 ((wrap64 (t303 - 1023)) + (wrap64 ((ji14) - 1)))))) t301)) t308, true, 0)) else (none)) else (some (0, false, 0))) = some (r1, r2, r3) := H
                              have A32 := Aside0.mk A320
                              clear A320
                              by_cases c33 : t309 = true
                              · subst c33
                                have H1 : (if 0 ≤ t301 then (some (Go.bits .or .u64 (Go.bits .or .u64 x13_6 (shl .u64 (IntKind.u64.wrap ((wrap64 ((wrap64 (t303 - 1023)) + (wrap64 ((ji14) - 1)))))) t301)) t308, true, 0)) else (none)) = some (r1, r2, r3) := by rw [if_pos rfl] at H; exact H
                                clear H
                                have H := H1
                                clear H1
                                by_cases c34 : 0 ≤ t301
                                · rw [if_pos c34] at H
                                  have c34b0 := eq_true c34
                                  have c34b1 : decide (0 ≤ t301) = true := decide_eq_true c34
                                  clear c34
                                  obtain ⟨ji35, hji35⟩ : ∃ j_ : Int, (shl .u64 (IntKind.u64.wrap ((wrap64 ((wrap64 (t303 - 1023)) + (wrap64 ((ji14) - 1)))))) t301) = j_ := ⟨_, rfl⟩
                                  replace H : (some (Go.bits .or .u64 (Go.bits .or .u64 x13_6 (ji35)) t308, true, 0)) = some (r1, r2, r3) := by first | (rw [hji35] at H; exact H) | (simp only [hji35] at H ⊢; exact H)
                                  (try rw [hji35] at A32)
                                  have hji35_ : (IntKind.u64.wrap ((IntKind.u64.wrap ((wrap64 ((wrap64 (t303 - 1023)) + (wrap64 ((ji14) - 1)))))) * 2 ^ min t301.toNat 64)) = ji35 := hji35
                                  have hji35z : t301 ≤ 64 → (IntKind.u64.wrap ((IntKind.u64.wrap ((wrap64 ((wrap64 (t303 - 1023)) + (wrap64 ((ji14) - 1)))))) * 2 ^ t301.toNat)) = ji35 := shl_small hji35
                                  (try have hji35tz := hji35z (by simp only [beq_iff_eq, decide_eq_true_eq] at *; omega))
                                  simp only [Option.some.injEq, Prod.mk.injEq] at H
                                  obtain ⟨rfl, rfl, rfl⟩ := H
                                  go_wp2_with (first | ((with_reducible refine gate_callee (f := 27) rfl ?_); refine goesL_ (some 103) rfl rfl Tryd.func27 (by kernel_rfl) rfl #[.int .u64 t304, .int .i64 (wrap64 (52 - t301))] rfl (by (try simp only [List.map_toArray, List.map_cons, List.map_nil]); first | done | rfl | (simp only [List.length_drop, List.length_take]; rfl)) ?_; (with_reducible refine (glossatorref05_shift.calls kj25 t304 (wrap64 (52 - t301)) t308 true _ A32.out).mono ?_); rintro e w' ⟨rfl, ⟨nd, rfl⟩⟩; refine ⟨_, rfl, ?_⟩))
                                  go_ret3
                                  exact ⟨by first | rfl | (simp; done) | (simp only [← hji12, ← hji14, ← hji35] <;> (first | rfl | simp)) | (simp [*]; done), by repeat (first | exact Drawn0.refl _ | apply Drawn0.step)⟩
                                · rw [if_neg c34] at H
                                  exact absurd H (by simp)
                              · replace c33 := Bool.eq_false_iff.mpr c33
                                subst c33
                                have H1 : (some (0, false, 0)) = some (r1, r2, r3) := by rw [if_neg (show ¬ (false = true) by decide)] at H; exact H
                                clear H
                                have H := H1
                                clear H1
                                simp only [Option.some.injEq, Prod.mk.injEq] at H
                                obtain ⟨rfl, rfl, rfl⟩ := H
                                go_wp2_with (first | ((with_reducible refine gate_callee (f := 27) rfl ?_); refine goesL_ (some 103) rfl rfl Tryd.func27 (by kernel_rfl) rfl #[.int .u64 t304, .int .i64 (wrap64 (52 - t301))] rfl (by (try simp only [List.map_toArray, List.map_cons, List.map_nil]); first | done | rfl | (simp only [List.length_drop, List.length_take]; rfl)) ?_; (with_reducible refine (glossatorref05_shift.calls kj25 t304 (wrap64 (52 - t301)) t308 false _ A32.out).mono ?_); rintro e w' ⟨rfl, ⟨nd, rfl⟩⟩; refine ⟨_, rfl, ?_⟩))
                                go_ret3
                                exact ⟨by first | rfl | (simp; done) | (simp only [← hji12, ← hji14] <;> (first | rfl | simp)) | (simp [*]; done), by repeat (first | exact Drawn0.refl _ | apply Drawn0.step)⟩
                            · rw [if_neg c31] at H
                              have c31b0 : decide (1 ≤ (wrap64 ((wrap64 (t303 - 1023)) + (wrap64 ((ji14) - 1))))) = false := decide_eq_false c31
                              clear c31
                              replace H := Option.bind_eq_some_iff.mp H
                              obtain ⟨⟨t310, t311⟩, A360, H⟩ := H
                              replace H : (if t311 = true then (some (Go.bits .or .u64 x13_6 t310, true, 0)) else (some (0, false, 0))) = some (r1, r2, r3) := H
                              have A36 := Aside0.mk A360
                              clear A360
                              by_cases c37 : t311 = true
                              · subst c37
                                have H1 : (some (Go.bits .or .u64 x13_6 t310, true, 0)) = some (r1, r2, r3) := by rw [if_pos rfl] at H; exact H
                                clear H
                                have H := H1
                                clear H1
                                simp only [Option.some.injEq, Prod.mk.injEq] at H
                                obtain ⟨rfl, rfl, rfl⟩ := H
                                go_wp2_with (first | ((with_reducible refine gate_callee (f := 27) rfl ?_); refine goesL_ (some 124) rfl rfl Tryd.func27 (by kernel_rfl) rfl #[.int .u64 (Go.bits .or .u64 t304 4503599627370496), .int .i64 (wrap64 ((wrap64 ((wrap64 (52 - t301)) + 1)) - (wrap64 ((wrap64 (t303 - 1023)) + (wrap64 ((ji14) - 1))))))] rfl (by (try simp only [List.map_toArray, List.map_cons, List.map_nil]); first | done | (simp only [hji14]; rfl) | rfl | (simp only [List.length_drop, List.length_take]; rfl)) ?_; (with_reducible refine (glossatorref05_shift.calls kj25 (Go.bits .or .u64 t304 4503599627370496) (wrap64 ((wrap64 ((wrap64 (52 - t301)) + 1)) - (wrap64 ((wrap64 (t303 - 1023)) + (wrap64 ((ji14) - 1)))))) t310 true _ A36.out).mono ?_); rintro e w' ⟨rfl, ⟨nd, rfl⟩⟩; refine ⟨_, rfl, ?_⟩))
                                go_ret3
                                exact ⟨by first | rfl | (simp; done) | (simp only [← hji12, ← hji14] <;> (first | rfl | simp)) | (simp [*]; done), by repeat (first | exact Drawn0.refl _ | apply Drawn0.step)⟩
                              · replace c37 := Bool.eq_false_iff.mpr c37
                                subst c37
                                have H1 : (some (0, false, 0)) = some (r1, r2, r3) := by rw [if_neg (show ¬ (false = true) by decide)] at H; exact H
                                clear H
                                have H := H1
                                clear H1
                                simp only [Option.some.injEq, Prod.mk.injEq] at H
                                obtain ⟨rfl, rfl, rfl⟩ := H
                                go_wp2_with (first | ((with_reducible refine gate_callee (f := 27) rfl ?_); refine goesL_ (some 124) rfl rfl Tryd.func27 (by kernel_rfl) rfl #[.int .u64 (Go.bits .or .u64 t304 4503599627370496), .int .i64 (wrap64 ((wrap64 ((wrap64 (52 - t301)) + 1)) - (wrap64 ((wrap64 (t303 - 1023)) + (wrap64 ((ji14) - 1))))))] rfl (by (try simp only [List.map_toArray, List.map_cons, List.map_nil]); first | done | (simp only [hji14]; rfl) | rfl | (simp only [List.length_drop, List.length_take]; rfl)) ?_; (with_reducible refine (glossatorref05_shift.calls kj25 (Go.bits .or .u64 t304 4503599627370496) (wrap64 ((wrap64 ((wrap64 (52 - t301)) + 1)) - (wrap64 ((wrap64 (t303 - 1023)) + (wrap64 ((ji14) - 1)))))) t310 false _ A36.out).mono ?_); rintro e w' ⟨rfl, ⟨nd, rfl⟩⟩; refine ⟨_, rfl, ?_⟩))
                                go_ret3
                                exact ⟨by first | rfl | (simp; done) | (simp only [← hji12, ← hji14] <;> (first | rfl | simp)) | (simp [*]; done), by repeat (first | exact Drawn0.refl _ | apply Drawn0.step)⟩
          · rw [if_neg c13] at H
            exact absurd H (by simp)

/-! ### glossatorref05_Least: function 16 -/
def glossatorref05_Least.l0 : Nat → Int → Int → Option (Int × Int)
  | 0, _, _ => none
  | k + 1, x0, x4 => if x4 < 64 then ((glossatorref05_Narrow.f k x4 x0).bind fun bt312 => (if bt312.2.1 = true then (some (x4, bt312.1)) else (glossatorref05_Least.l0 k x0 (wrap64 (2 * x4))))) else (some (64, x0))
def glossatorref05_Least.f (k : Nat) (a0 : Int) : Option (Int × Int) := glossatorref05_Least.l0 k a0 16
theorem glossatorref05_Least.mono_l : ∀ k, (∀ y0 y1, LeO (glossatorref05_Least.l0 k y0 y1) (glossatorref05_Least.l0 (k + 1) y0 y1))
  | 0 => fun _ _ r h => by simp [glossatorref05_Least.l0] at h
  | k + 1 => by
    have ih0 := glossatorref05_Least.mono_l k
    · intro y0 y1
      unfold glossatorref05_Least.l0
      repeat' first
      | (with_reducible exact ih0 _ _)
      | (with_reducible exact glossatorref05_Narrow.mono _ _ _)
      | (with_reducible exact LeO.refl _)
      | (with_reducible exact LeO.none _)
      | (with_reducible refine LeO.ite ?_ ?_)
      | (with_reducible refine LeO.bind ?_ (fun _ => ?_))
      | exact ih0 _ _
      | exact glossatorref05_Narrow.mono _ _ _
      | exact LeO.none _
      | refine LeO.ite ?_ ?_
      | refine LeO.bind ?_ (fun _ => ?_)
theorem glossatorref05_Least.mono : ∀ a0 k, LeO (glossatorref05_Least.f k a0) (glossatorref05_Least.f (k + 1) a0) := by
  intro a0 k
  have ih0 := glossatorref05_Least.mono_l k
  unfold glossatorref05_Least.f
  repeat' first
      | (with_reducible exact ih0 _ _)
      | (with_reducible exact glossatorref05_Narrow.mono _ _ _)
      | (with_reducible exact LeO.refl _)
      | (with_reducible exact LeO.none _)
      | (with_reducible refine LeO.ite ?_ ?_)
      | (with_reducible refine LeO.bind ?_ (fun _ => ?_))
      | exact ih0 _ _
      | exact glossatorref05_Narrow.mono _ _ _
      | exact LeO.none _
      | refine LeO.ite ?_ ?_
      | refine LeO.bind ?_ (fun _ => ?_)
set_option maxHeartbeats 8000000 in
set_option maxRecDepth 100000 in
theorem glossatorref05_Least.calls (k : Nat) (a0 : Int) (r1 : Int) (r2 : Int) (w : World) (h : glossatorref05_Least.f k a0 = some (r1, r2)) :
    Calls Tryd.prog 16 #[.int .u64 a0] w fun e w' => e = .returned (.tuple #[.int .i64 r1, .int .u64 r2]) ∧ Drawn0 w w' := by
  have H : (glossatorref05_Least.l0 k a0 16) = some (r1, r2) := h
  clear h
  have H' := Aside0.mk H
  clear H
  go_enter Tryd.func16, Tryd.ntmps16
  go_wp2
  go_loopg [4] k (fun kq v4 w' => ∃ (x4_1 : Int), v4 = .int .i64 x4_1 ∧ Aside0 (glossatorref05_Least.l0 kq a0 x4_1 = some (r1, r2)) ∧ Aside0 (kq ≤ k) ∧ Drawn0 w w')
  case atStart => exact ⟨(16), (by first | rfl | (simp; done) | (simp [*]; done) | (simp [*] <;> decide +kernel)), H', ⟨Nat.le_refl _⟩, by repeat (first | exact Drawn0.refl _ | apply Drawn0.step)⟩
  case round =>
    clear H'
    try clear c1
    obtain ⟨x4_1, rfl, HA, HK1, ⟨m1, rfl⟩⟩ := hrel
    cases gk with
    | zero => exact absurd HA.out (by simp [glossatorref05_Least.l0])
    | succ k1 =>
      have H := HA.out
      clear HA
      simp only [glossatorref05_Least.l0] at H
      by_cases c2 : x4_1 < 64
      · rw [if_pos c2] at H
        have c2b0 : decide (x4_1 < 64) = true := decide_eq_true c2
        clear c2
        replace H := Option.bind_eq_some_iff.mp H
        obtain ⟨⟨t312, t313, t314⟩, A30, H⟩ := H
        replace H : (if t313 = true then (some (x4_1, t312)) else (glossatorref05_Least.l0 k1 a0 (wrap64 (2 * x4_1)))) = some (r1, r2) := H
        have A3 := Aside0.mk A30
        clear A30
        by_cases c4 : t313 = true
        · subst c4
          have H1 : (some (x4_1, t312)) = some (r1, r2) := by rw [if_pos rfl] at H; exact H
          clear H
          have H := H1
          clear H1
          simp only [Option.some.injEq, Prod.mk.injEq] at H
          obtain ⟨rfl, rfl⟩ := H
          go_wp2_with (first | ((with_reducible refine gate_callee (f := 29) rfl ?_); refine goesL_ (some 15) rfl rfl Tryd.func29 (by kernel_rfl) rfl #[.int .i64 x4_1, .int .u64 a0] rfl (by (try simp only [List.map_toArray, List.map_cons, List.map_nil]); first | done | rfl | (simp only [List.length_drop, List.length_take]; rfl)) ?_; (with_reducible refine (glossatorref05_Narrow.calls k1 x4_1 a0 t312 true t314 _ A3.out).mono ?_); rintro e w' ⟨rfl, ⟨nd, rfl⟩⟩; refine ⟨_, rfl, ?_⟩))
          go_ret2
          exact ⟨by first | rfl | (simp; done) | (simp [*]; done), by repeat (first | exact Drawn0.refl _ | apply Drawn0.step)⟩
        · replace c4 := Bool.eq_false_iff.mpr c4
          subst c4
          have H1 : (glossatorref05_Least.l0 k1 a0 (wrap64 (2 * x4_1))) = some (r1, r2) := by rw [if_neg (show ¬ (false = true) by decide)] at H; exact H
          clear H
          have H := H1
          clear H1
          have H' := Aside0.mk H
          clear H
          go_wp2_with (first | ((with_reducible refine gate_callee (f := 29) rfl ?_); refine goesL_ (some 15) rfl rfl Tryd.func29 (by kernel_rfl) rfl #[.int .i64 x4_1, .int .u64 a0] rfl (by (try simp only [List.map_toArray, List.map_cons, List.map_nil]); first | done | rfl | (simp only [List.length_drop, List.length_take]; rfl)) ?_; (with_reducible refine (glossatorref05_Narrow.calls k1 x4_1 a0 t312 false t314 _ A3.out).mono ?_); rintro e w' ⟨rfl, ⟨nd, rfl⟩⟩; refine ⟨_, rfl, ?_⟩))
          go_roundg k1
          case measure => have := HK1.out; omega
          case rel => exact ⟨(wrap64 (2 * x4_1)), (by first | rfl | (simp; done) | (simp [*]; done) | (simp [*] <;> decide +kernel)), H', ⟨by have := HK1.out; omega⟩, by repeat (first | exact Drawn0.refl _ | apply Drawn0.step)⟩
      · rw [if_neg c2] at H
        have c2b0 : decide (x4_1 < 64) = false := decide_eq_false c2
        clear c2
        simp only [Option.some.injEq, Prod.mk.injEq] at H
        obtain ⟨rfl, rfl⟩ := H
        go_wp2
        go_ret2
        exact ⟨by first | rfl | (simp; done) | (simp [*]; done), by repeat (first | exact Drawn0.refl _ | apply Drawn0.step)⟩

end Go.Proofs.YtjefhpbliihonaaDoor.PFbitsInts
