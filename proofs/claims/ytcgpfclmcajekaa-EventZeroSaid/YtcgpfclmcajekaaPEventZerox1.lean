-- Written by a program of this session out of the kit's print (print.py, its switches or its text changed): not the kit's own print
import Derived.Test.YtcgpfclmcajekaaPEventZerox0
namespace Go.Proofs.Ytcgpfclmcajekaa.PEventZero
open Go.RowKit Go.Proofs.YtcgpfclmcajekaaW.PrintWords Go.Proofs.YtcgpfclmcajekaaW.PrintLast Go.Proofs.YtcgpfclmcajekaaW.PrintMore
attribute [local go_sem] max2_int min2_int max_two min_two max_three min_three max_four min_four   -- for this text's walks alone
set_option linter.unusedVariables false
set_option linter.unusedSimpArgs false

-- NOT PRINTED: function 34 (event_Build_none)

-- NOT PRINTED: function 17 (event_Build_Value)

-- NOT PRINTED: function 33 (value_Leaf)

-- NOT PRINTED: function 38 (event_Build_add)

-- NOT PRINTED: function 52 (event_part_keyed)

-- NOT PRINTED: function 35 (event_Build_close)

-- NOT PRINTED: function 16 (value_Depth)

-- NOT PRINTED: function 49 (value_bits)

-- NOT PRINTED: function 60 (utf_leads)

-- NOT PRINTED: function 58 (utf_row)

-- NOT PRINTED: function 56 (utf_state_step)

-- NOT PRINTED: function 50 (utf_Check)

-- NOT PRINTED: function 51 (value_big)

-- NOT PRINTED: function 32 (value_One)

-- NOT PRINTED: function 37 (event_right)

-- NOT PRINTED: function 53 (event_part_number)

-- NOT PRINTED: function 36 (event_Build_May)

-- NOT PRINTED: function 18 (event_Build_Put)

-- NOT PRINTED: function 19 (event_Build_Done)

-- NOT PRINTED: function 20 (event_Build_Depth)

-- NOT PRINTED: function 21 (event_Build_Count)

/-! ### glossatorlaw09_EventZero: function 5 (a text of this session) -/
def glossatorlaw09_EventZero.f (a0_0 : Int) (a0_1 : Bool) (a0_2 : Int) (a0_3 : ByteArray) : Option (Bool) := some true
theorem glossatorlaw09_EventZero.calls (a0_0 : Int) (a0_1 : Bool) (a0_2 : Int) (a0_3 : ByteArray) (r : Bool) (w : World) (h : glossatorlaw09_EventZero.f a0_0 a0_1 a0_2 a0_3 = some r) :
    Calls Try.prog 5 #[.agg #[.int .i64 a0_0, .bool a0_1, .int .u64 a0_2, .string a0_3]] w fun e w' => e = .returned (.bool r) ∧ Below w.heap.size w w' := by
  obtain rfl := Option.some.inj h
  exact Zero.zero_calls a0_0 a0_1 a0_2 a0_3 w
instance inh37 : Inhabited S37 := ⟨z37⟩
/-- What is known of such a value. -/
def wfS37 : S37 → Prop
  | ⟨f0, f1, f2, f3⟩ => (fun n => (Lit.int .i64 n).wf = true) f0 ∧ (fun _ => True) f1 ∧ (fun n => (Lit.int .u64 n).wf = true) f2 ∧ (fun s => s.size ≤ 140737488351232) f3
/-- How many values and letters it holds. -/
def szS37 : S37 → Nat
  | ⟨f0, f1, f2, f3⟩ => (fun _ => 1) f0 + (fun _ => 1) f1 + (fun _ => 1) f2 + (fun s => s.size + 1) f3 + 1
set_option maxHeartbeats 2000000 in
theorem opens_S37 {H : Type} {enc : TypeId × Value → H} {w : World} {base : Nat} {spare : Nat → Bool} {held : Bool} : ∀ fuel, Open.Opens enc Try.prog w base spare held k37 37 wfS37 szS37 fuel := by
  intro fuel
  induction fuel using Nat.strongRecOn with
  | _ fuel ih =>
  intro cs D ps h
  obtain ⟨xs, n, rfl, hx, hl, hlen, hf⟩ := DataW.trod_struct Try.underlying37 h
  obtain ⟨rfl, rfl⟩ := Prod.mk.inj hx
  have hl2 : cs.length = 4 := hl.trans (by kernel_rfl)
  have cz3 : Try.prog.cellsOf 3 = 1 := by kernel_rfl
  have cz4 : Try.prog.cellsOf 4 = 1 := by kernel_rfl
  have cz22 : Try.prog.cellsOf 22 = 1 := by kernel_rfl
  have cz9 : Try.prog.cellsOf 9 = 1 := by kernel_rfl
  match xs, hlen, cs, hl2 with
  | [y0, y1, y2, y3], _, [c0, c1, c2, c3], _ =>
    have h0 := hf 0 _ rfl
    simp only [cz3, List.drop_zero, List.drop_succ_cons, List.take_succ_cons, List.take_zero, List.getElem?_cons_zero, List.getElem?_cons_succ] at h0
    have h1 := hf 1 _ rfl
    simp only [cz4, List.drop_zero, List.drop_succ_cons, List.take_succ_cons, List.take_zero, List.getElem?_cons_zero, List.getElem?_cons_succ] at h1
    have h2 := hf 2 _ rfl
    simp only [cz22, List.drop_zero, List.drop_succ_cons, List.take_succ_cons, List.take_zero, List.getElem?_cons_zero, List.getElem?_cons_succ] at h2
    have h3 := hf 3 _ rfl
    simp only [cz9, List.drop_zero, List.drop_succ_cons, List.take_succ_cons, List.take_zero, List.getElem?_cons_zero, List.getElem?_cons_succ] at h3
    obtain ⟨x0, hk0, hw0, hs0⟩ := (Open.opens_int Try.underlying3) _ _ _ h0
    obtain ⟨x1, hk1, hw1, hs1⟩ := (Open.opens_bool Try.underlying4) _ _ _ h1
    obtain ⟨x2, hk2, hw2, hs2⟩ := (Open.opens_int Try.underlying22) _ _ _ h2
    obtain ⟨x3, hk3, hw3, hs3⟩ := (Open.opens_string Try.underlying9) _ _ _ h3
    obtain rfl : c0 = .int .i64 x0 := by have h_ : [c0] = [.int .i64 x0] := hk0; simpa using h_
    obtain rfl : c1 = .bool x1 := by have h_ : [c1] = [.bool x1] := hk1; simpa using h_
    obtain rfl : c2 = .int .u64 x2 := by have h_ : [c2] = [.int .u64 x2] := hk2; simpa using h_
    obtain rfl : c3 = .string x3 := by have h_ : [c3] = [.string x3] := hk3; simpa using h_
    refine ⟨(⟨x0, x1, x2, x3⟩ : S37), k37_mk w (⟨x0, x1, x2, x3⟩ : S37), fun hw_ => ?_, ?_⟩
    · exact ⟨hw0 (fun m_ hm_ => hw_ m_ (by simp only [DataW.weights, Try.underlying37]; exact DataW.weights_mem_each (j := 0) rfl rfl m_ hm_)), hw1 (fun m_ hm_ => hw_ m_ (by simp only [DataW.weights, Try.underlying37]; exact DataW.weights_mem_each (j := 1) rfl rfl m_ hm_)), hw2 (fun m_ hm_ => hw_ m_ (by simp only [DataW.weights, Try.underlying37]; exact DataW.weights_mem_each (j := 2) rfl rfl m_ hm_)), hw3 (fun m_ hm_ => hw_ m_ (by simp only [DataW.weights, Try.underlying37]; exact DataW.weights_mem_each (j := 3) rfl rfl m_ hm_))⟩
    · simp only [szS37, List.map_cons, List.map_nil, Rows.uptoBulk, Rows.uptoBulkAll]
      (try dsimp only at hs0)
      (try dsimp only at hs1)
      (try dsimp only at hs2)
      (try dsimp only at hs3)
      omega
/-- THE ONE PURE STATEMENT of glossatorlaw09_EventZero. -/
def glossatorlaw09_EventZero.Pure : Prop := ∀ (a0_0 : Int) (a0_1 : Bool) (a0_2 : Int) (a0_3 : ByteArray), wfS37 (⟨a0_0, a0_1, a0_2, a0_3⟩ : S37) → glossatorlaw09_EventZero.f a0_0 a0_1 a0_2 a0_3 = some true

end Go.Proofs.Ytcgpfclmcajekaa.PEventZero
