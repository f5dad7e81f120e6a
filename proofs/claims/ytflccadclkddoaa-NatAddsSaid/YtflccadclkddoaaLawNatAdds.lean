-- Written by a program of this session out of the kit's print (print.py, its switches or its text changed): not the kit's own print
import Derived.Test.YtflccadclkddoaaRows
import Derived.Test.YtflccadclkddoaaOpen
import Derived.Test.YtflccadclkddoaaPNatAddsx5
import Derived.Test.YtflccadclkddoaaPureNatAdds
import Derived.WalkKit
import Derived.ProofKit
import Derived.OpenShut
import Derived.ShutString
import Derived.ChangeOld
import Derived.Below
import Derived.SizedLaws
namespace Go.Proofs.Ytflccadclkddoaa.natAdds
open Go.ChangeShapes Go.WideShapes Go.ChangeAt Go.RowKit Go.Proofs.Ytflccadclkddoaa Go.Proofs.YtflccadclkddoaaW Go.Proofs.Ytflccadclkddoaa.PNatAdds Go.Proofs.YtflccadclkddoaaW.PrintWords
open Go.ChangeMaps (open_string shut_string)
set_option linter.unusedVariables false
set_option linter.unusedSimpArgs false
theorem own : ownKnob Try.prog.godebug = none := by kernel_rfl
theorem laidOut : laidOutB Try.prog = true := by kernel_rfl
set_option maxRecDepth 100000 in
set_option maxHeartbeats 4000000 in
theorem lifted (os : Os) (started : os.Started) (H : Type) (enc : TypeId × Value → H) :
    ReturnsInHanded {} Try.checked os 4 .any (Rows.natAddsSpec.pre6 enc Try.prog Try.f4 Rows.natAddsRow.domain false) (Rows.natAddsSpec.post enc Try.prog Try.f4 false true false false) := by
  refine returnsInHanded_of_change_sized (C := Try.checked) own started (by kernel_rfl) Try.func4
    (ChangeSpec.witness6 (enc := enc) (C := Try.checked) false ⟨#[], #[.slice none 0 0, .slice none 0 0], []⟩ 8 (by kernel_rfl) (by kernel_rfl) (by kernel_rfl) (by kernel_rfl)) ?_
  intro W base args ds gs before hval0 hW hcnd hsz0 _
  have hsz : (DataW.weightsEach Try.prog (Try.f4.params.toList ++ Rows.natAddsSpec.plain.varTypes Try.prog) (ds ++ gs)).all (· ≤ reachBytes) = true := hsz0
  have hval : ∀ (j : Nat) t v, Try.f4.params[j]? = some t → args[j]? = some v → Value.okWide Try.prog W .any base t v := hval0
  have hW' := hW
  obtain ⟨p, q, hA0, hV, rfl, hfz, hnd⟩ := hW
  have hA : DataW.TrodAll enc Try.prog W 0 (fun _ => true) true Try.f4.params.toList args.toList ds p := hA0
  rw [Try.params4] at hA hval hsz
  obtain ⟨v0, vs0, d0, ds0, p0, q0, hargs, rfl, rfl, h0, r0⟩ := trodAll_cons hA
  obtain ⟨v1, vs1, d1, ds1, p1, q1, rfl, rfl, rfl, h1, r1⟩ := trodAll_cons r0
  obtain ⟨rfl, rfl, rfl⟩ := trodAll_nil r1
  obtain rfl : args = #[v0, v1] := by cases args; simp_all
  obtain ⟨rfl, rfl⟩ := trodVars_none hV
  have k0 := h0
  have lt0 : ∀ x ∈ p0, x.block < W.heap.size := by obtain ⟨m, hm⟩ := k0; exact DataW.trod_lt m _ _ _ hm
  obtain ⟨a0, len0, cap0, rfl⟩ := okWide_slice Try.underlying22 (hval 0 22 v0 rfl rfl)
  obtain ⟨l0, rfl, hC0, hc0, wf0, sz0⟩ : ∃ l : List Int, len0 = l.length ∧ Kd.C (Kd.int .u32) W a0 l.length l ∧ l.length ≤ cap0 ∧ (fun l => l.length * 4 ≤ 140737488351232 ∧ ∀ x ∈ l, (fun n => (Lit.int .u32 n).wf = true) x) l ∧ (fun l => Open.sumSz (fun _ => 1) l + 1) l ≤ Rows.uptoBulk d0 := by
    obtain ⟨fuel, hf⟩ := h0
    obtain ⟨l, ⟨A_, c_, he, hl, hC⟩, hw, hs⟩ := (Open.opens_slice (d := (Kd.int .u32)) (wf := (fun n => (Lit.int .u32 n).wf = true)) (sz := (fun _ => 1)) (fun _ _ => (Open.opens_int Try.underlying52)) Try.underlying22 (by kernel_rfl) (by kernel_rfl)) _ _ _ hf
    have he' : Value.slice a0 len0 cap0 = Value.slice A_ l.length c_ := by simpa [Value.cells] using he
    injection he' with e1 e2 e3
    subst e1; subst e3
    exact ⟨l, e2, hC, hl, hw (fun n_ hn_ => of_decide_eq_true (List.all_eq_true.1 hsz n_ (DataW.weights_mem_each (j := 0) rfl rfl n_ hn_))), hs⟩
  have k1 := h1
  have lt1 : ∀ x ∈ p1, x.block < W.heap.size := by obtain ⟨m, hm⟩ := k1; exact DataW.trod_lt m _ _ _ hm
  obtain ⟨a1, len1, cap1, rfl⟩ := okWide_slice Try.underlying30 (hval 1 30 v1 rfl rfl)
  obtain ⟨l1, rfl, hC1, hc1, wf1, sz1⟩ : ∃ l : List (List Int), len1 = l.length ∧ Kd.C (Kd.slice 52 (Kd.int .u32)) W a1 l.length l ∧ l.length ≤ cap1 ∧ (fun l => l.length * 24 ≤ 140737488351232 ∧ ∀ x ∈ l, (fun l => l.length * 4 ≤ 140737488351232 ∧ ∀ x ∈ l, (fun n => (Lit.int .u32 n).wf = true) x) x) l ∧ (fun l => Open.sumSz (fun l => Open.sumSz (fun _ => 1) l + 1) l + 1) l ≤ Rows.uptoBulk d1 := by
    obtain ⟨fuel, hf⟩ := h1
    obtain ⟨l, ⟨A_, c_, he, hl, hC⟩, hw, hs⟩ := (Open.opens_slice (d := (Kd.slice 52 (Kd.int .u32))) (wf := (fun l => l.length * 4 ≤ 140737488351232 ∧ ∀ x ∈ l, (fun n => (Lit.int .u32 n).wf = true) x)) (sz := (fun l => Open.sumSz (fun _ => 1) l + 1)) (fun _ _ => (Open.opens_slice (d := (Kd.int .u32)) (wf := (fun n => (Lit.int .u32 n).wf = true)) (sz := (fun _ => 1)) (fun _ _ => (Open.opens_int Try.underlying52)) Try.underlying22 (by kernel_rfl) (by kernel_rfl))) Try.underlying30 (by kernel_rfl) (by kernel_rfl)) _ _ _ hf
    have he' : Value.slice a1 len1 cap1 = Value.slice A_ l.length c_ := by simpa [Value.cells] using he
    injection he' with e1 e2 e3
    subst e1; subst e3
    exact ⟨l, e2, hC, hl, hw (fun n_ hn_ => of_decide_eq_true (List.all_eq_true.1 hsz n_ (DataW.weights_mem_each (j := 1) rfl rfl n_ hn_))), hs⟩
  clear hA0 hval0 hsz0 hsz
  obtain ⟨k, hk⟩ := Pure.NatAdds l0 l1 wf0 wf1
  refine (PNatAdds.glossatorlaw01_NatAdds.calls k _ _ _ l0 _ _ _ l1 true W (Kd.V_mk hc0 (Kd.C_F (Kd.heap_int .u32) hC0)) (Kd.V_mk hc1 (Kd.C_F (Kd.heap_slice 52 (Kd.heap_int .u32)) hC1)) hk).mono fun e W' ⟨he, bel0⟩ => ?_
  have bel : Below W.heap.size W W' := bel0
  subst he
  exact ⟨_, rfl, _, _, _, [], _, [], hW', trodAll_mk1 (shut_bool Try.underlying4 _), (trodAll_cons_mk (Below.trod laidOut (by kernel_rfl) (of_decide_eq_true (by kernel_rfl)) k0 bel lt0) (trodAll_cons_mk (Below.trod laidOut (by kernel_rfl) (of_decide_eq_true (by kernel_rfl)) k1 bel lt1) trodAll_mk0)), rfl, bel.frame _, fun h => by cases h⟩
theorem proved : Rows.NatAddsSaid :=
  OpenClaim.holds_of_wide 4 Try.f4 rfl rfl rfl rfl rfl rfl rfl ⟨rfl, rfl, rfl, rfl, rfl⟩ rfl rfl rfl rfl rfl (by kernel_rfl) Try.func4 (by kernel_rfl)
    (of_decide_eq_true (by kernel_rfl)) (by unfold Func.isWrapper; first | (rw [if_pos (by decide +kernel)]; kernel_rfl) | (rw [if_neg (by decide +kernel)]; exact ⟨rfl, rfl⟩))
    (fun os started H enc _ => lifted os started H enc)
#print axioms proved
end Go.Proofs.Ytflccadclkddoaa.natAdds
namespace Go.Proofs.Ytflccadclkddoaa
/-- The row, under a short name, for the claim. -/
theorem natAdds_holds : Rows.NatAddsSaid := natAdds.proved
end Go.Proofs.Ytflccadclkddoaa
