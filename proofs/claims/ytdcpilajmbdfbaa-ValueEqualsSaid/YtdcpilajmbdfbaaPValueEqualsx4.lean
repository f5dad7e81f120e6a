-- Written by a program of this session out of the kit's print (print.py, its switches or its text changed): not the kit's own print
import Derived.Test.YtdcpilajmbdfbaaPValueEqualsx0
import Derived.Test.YtdcpilajmbdfbaaPValueEqualsx2
namespace Go.Proofs.Ytdcpilajmbdfbaa.PValueEquals
open Go.RowKit Go.Proofs.YtdcpilajmbdfbaaW.PrintWords Go.Proofs.YtdcpilajmbdfbaaW.PrintLast Go.Proofs.YtdcpilajmbdfbaaW.PrintMore
attribute [local go_sem] max2_int min2_int max_two min_two max_three min_three max_four min_four   -- for this text's walks alone
set_option linter.unusedVariables false
set_option linter.unusedSimpArgs false

-- NOT PRINTED: function 26 (value_each)

/-! ### value_Count: function 15 (a text of this session) -/
def value_Count.f (a0_0 : Int) (a0_1 : Bool) (a0_2 : Int) (a0_3 : ByteArray) (l0_4 : List (S25)) : Option (Int) :=
  if dep25 ⟨a0_0, a0_1, a0_2, a0_3, l0_4⟩ + 1 ≤ 17592186044416 then some (wrap64 (T25.nodes (dep25 ⟨a0_0, a0_1, a0_2, a0_3, l0_4⟩ + 1) [] ⟨a0_0, a0_1, a0_2, a0_3, l0_4⟩).length) else none
theorem value_Count.calls (a0_0 : Int) (a0_1 : Bool) (a0_2 : Int) (a0_3 : ByteArray) (A0_4 : Option Addr) (c0_4 : Nat) (l0_4 : List (S25)) (r : Int) (w : World) (hr0_4 : Kd.C k25 w A0_4 l0_4.length l0_4) (hc0_4 : l0_4.length ≤ c0_4) (h : value_Count.f a0_0 a0_1 a0_2 a0_3 l0_4 = some r) :
    Calls Try.prog 15 #[.agg #[.int .i64 a0_0, .bool a0_1, .int .u64 a0_2, .string a0_3, .slice A0_4 l0_4.length c0_4]] w fun e w' => e = .returned (.int .i64 r) ∧ Below w.heap.size w w' := by
  unfold value_Count.f at h
  by_cases hl : dep25 ⟨a0_0, a0_1, a0_2, a0_3, l0_4⟩ + 1 ≤ 17592186044416
  · rw [if_pos hl] at h
    obtain rfl := Option.some.inj h
    exact Each.count_calls T25 ⟨a0_0, a0_1, a0_2, a0_3, l0_4⟩ _ w (k25_mk w ⟨a0_0, a0_1, a0_2, a0_3, l0_4⟩ hc0_4 hr0_4) hl
  · rw [if_neg hl] at h
    cases h

/-! ### glossatorlaw08_awake: function 12 -/
def glossatorlaw08_awake.f  : Option (Bool) := (value_Count.f 0 false 0 (⟨#[]⟩ : ByteArray) ([] : List (S25))).bind fun t116 => (some (t116 == 1))
set_option maxHeartbeats 8000000 in
set_option maxRecDepth 100000 in
theorem glossatorlaw08_awake.calls  (r : Bool) (w : World) (h : glossatorlaw08_awake.f  = some r) :
    Calls Try.prog 12 #[] w fun e w' => e = .returned (.bool r) ∧ Below w.heap.size w w' := by
  have hu25 := Try.underlying25
  have HB := Aside0.mk (Below.refl w.heap.size w)
  have H : ((value_Count.f 0 false 0 (⟨#[]⟩ : ByteArray) ([] : List (S25))).bind fun t116 => (some (t116 == 1))) = some r := h
  clear h
  replace H := Option.bind_eq_some_iff.mp H
  obtain ⟨t116, A10, H⟩ := H
  replace H : (some (t116 == 1)) = some r := H
  have A1 := Aside0.mk A10
  clear A10
  obtain rfl := Option.some.inj H
  go_enter Try.func12, Try.ntmps12
  go_wp2_with (first | ((with_reducible refine gate_callee (f := 15) rfl ?_); refine goesL_ (some 2) rfl rfl Try.func15 (by kernel_rfl) rfl #[.agg #[.int .i64 0, .bool false, .int .u64 0, .string (⟨#[]⟩ : ByteArray), .slice none 0 0]] rfl (by (try simp only [List.map_toArray, List.map_cons, List.map_nil]); first | done | rfl | (simp only [List.length_drop, List.length_take]; rfl)) ?_; (refine (value_Count.calls 0 false 0 (⟨#[]⟩ : ByteArray) _ _ ([] : List (S25)) t116 _ ?side1 ?side2 A1.out).mono ?_); (case side1 => exact Kd.C_nil _ _); (case side2 => exact Nat.le_refl _); rintro e w2 ⟨rfl, hb⟩; refine ⟨_, rfl, ?_⟩; have n0_ := Aside0.mk (below_step (by repeat (first | (with_reducible first | exact HB.out | apply below_alloc | apply pw_below_drewN | apply below_drew1) | exact HB.out)) hb); clear HB; have HB := n0_; clear n0_; (try clear hb); (try clear hb2); (try clear hk); (try clear hi)))
  go_ret
  exact ⟨by first | rfl | (simp [errW_none, errW_some] <;> rfl) | (simp [*, errW_none, errW_some] <;> rfl), by repeat (first | (with_reducible first | exact HB.out | apply below_alloc | apply pw_below_drewN | apply below_drew1) | exact HB.out)⟩

end Go.Proofs.Ytdcpilajmbdfbaa.PValueEquals
