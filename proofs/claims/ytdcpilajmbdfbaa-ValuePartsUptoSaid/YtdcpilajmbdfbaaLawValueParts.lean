-- Written by a program of this session out of the kit's print (print.py, its switches or its text changed): not the kit's own print
import Derived.Test.YtdcpilajmbdfbaaRows
import Derived.Test.YtdcpilajmbdfbaaOpen
import Derived.Test.YtdcpilajmbdfbaaPValuePartsx3
import Derived.Test.YtdcpilajmbdfbaaPureValueParts
import Derived.WalkKit
import Derived.ProofKit
import Derived.OpenShut
import Derived.ShutString
import Derived.ChangeOld
import Derived.Below
import Derived.SizedLaws
import Derived.Deep.CondSized
namespace Go.Proofs.Ytdcpilajmbdfbaa.valueParts
open Go.ChangeShapes Go.WideShapes Go.ChangeAt Go.RowKit Go.Proofs.Ytdcpilajmbdfbaa Go.Proofs.YtdcpilajmbdfbaaW Go.Proofs.Ytdcpilajmbdfbaa.PValueParts Go.Proofs.YtdcpilajmbdfbaaW.PrintWords
open Go.ChangeMaps (open_string shut_string)
set_option linter.unusedVariables false
set_option linter.unusedSimpArgs false
theorem own : ownKnob Try.prog.godebug = none := by kernel_rfl
theorem laidOut : laidOutB Try.prog = true := by kernel_rfl
set_option maxRecDepth 100000 in
set_option maxHeartbeats 4000000 in
theorem lifted (os : Os) (started : os.Started) (H : Type) (enc : TypeId × Value → H) (F : Stop.Interp) :
    ReturnsInHanded {} Try.checked os 4 .any ((Rows.OpenSpec.upto Rows.valuePartsSpec).pre6 enc Try.prog Try.f4 Rows.valuePartsUptoRow.domain false) (((Rows.OpenSpec.upto Rows.valuePartsSpec).at F).post enc Try.prog Try.f4 false true false false) := by
  refine returnsInHanded_of_cond_sized (C := Try.checked) (s := (Rows.OpenSpec.upto Rows.valuePartsSpec)) (k := Rows.uptoSmall) rfl own started (by kernel_rfl) Try.func4
    (OpenSpec.witness (enc := enc) (C := Try.checked) (s := (Rows.OpenSpec.upto Rows.valuePartsSpec)) (k := Rows.uptoSmall) rfl false ⟨#[], #[.slice none 0 0], []⟩ 8 (by kernel_rfl) (by kernel_rfl) (by kernel_rfl)
      (x := ([.nil], [], [])) (by kernel_rfl) rfl (by kernel_rfl)) ?_
  intro W base args ds gs before hval0 hW hcnd hbulk hsz0 _
  have hsz : (DataW.weightsEach Try.prog (Try.f4.params.toList ++ Rows.valuePartsSpec.plain.varTypes Try.prog) (ds ++ gs)).all (· ≤ reachBytes) = true := hsz0
  have hval : ∀ (j : Nat) t v, Try.f4.params[j]? = some t → args[j]? = some v → Value.okWide Try.prog W .any base t v := hval0
  have hW' := hW
  obtain ⟨p, q, hA0, hV, rfl, hfz, hnd⟩ := hW
  have hA : DataW.TrodAll enc Try.prog W 0 (fun _ => true) true Try.f4.params.toList args.toList ds p := hA0
  rw [Try.params4] at hA hval hsz
  obtain ⟨v0, vs0, d0, ds0, p0, q0, hargs, rfl, rfl, h0, r0⟩ := trodAll_cons hA
  obtain ⟨rfl, rfl, rfl⟩ := trodAll_nil r0
  obtain rfl : args = #[v0] := by cases args; simp_all
  obtain ⟨rfl, rfl⟩ := trodVars_none hV
  have k0 := h0
  have lt0 : ∀ x ∈ p0, x.block < W.heap.size := by obtain ⟨m, hm⟩ := k0; exact DataW.trod_lt m _ _ _ hm
  obtain ⟨a0, len0, cap0, rfl⟩ := okWide_slice Try.underlying23 (hval 0 23 v0 rfl rfl)
  obtain ⟨l0, rfl, hC0, hc0, wf0, sz0⟩ : ∃ l : List (S25), len0 = l.length ∧ Kd.C k25 W a0 l.length l ∧ l.length ≤ cap0 ∧ (fun l => l.length * 64 ≤ 140737488351232 ∧ ∀ x ∈ l, wfS25 x) l ∧ (fun l => Open.sumSz szS25 l + 1) l ≤ Rows.uptoBulk d0 := by
    obtain ⟨fuel, hf⟩ := h0
    obtain ⟨l, ⟨A_, c_, he, hl, hC⟩, hw, hs⟩ := (Open.opens_slice (d := k25) (wf := wfS25) (sz := szS25) (fun _ _ => (opens_S25 _)) Try.underlying23 (by kernel_rfl) (by kernel_rfl)) _ _ _ hf
    have he' : Value.slice a0 len0 cap0 = Value.slice A_ l.length c_ := by simpa [Value.cells] using he
    injection he' with e1 e2 e3
    subst e1; subst e3
    exact ⟨l, e2, hC, hl, hw (fun n_ hn_ => of_decide_eq_true (List.all_eq_true.1 hsz n_ (DataW.weights_mem_each (j := 0) rfl rfl n_ hn_))), hs⟩
  clear hA0 hval0 hsz0 hsz
  have bulk : (fun l => Open.sumSz szS25 l + 1) l0 ≤ 1048576 := by
    have hb := of_decide_eq_true hbulk
    simp only [List.append_nil, Rows.uptoBulkAll, Rows.uptoBulk] at hb
    (try simp only [Array.length_toList] at hb)
    (try simp only [ByteArray.size_data] at hb)
    omega
  obtain ⟨k, hk⟩ := Pure.ValueParts l0 wf0 bulk
  refine (PValueParts.glossatorlaw08_ValueParts.calls k _ _ l0 true W hC0 hc0 hk).mono fun e W' ⟨he, bel0⟩ => ?_
  have bel : Below W.heap.size W W' := bel0
  subst he
  exact ⟨_, rfl, _, _, _, [], _, [], hW', trodAll_mk1 (shut_bool Try.underlying4 _), (trodAll_cons_mk (Below.trod laidOut (by kernel_rfl) (of_decide_eq_true (by kernel_rfl)) k0 bel lt0) trodAll_mk0), rfl, bel.frame _, fun h => by cases h⟩
theorem proved : Rows.ValuePartsUptoSaid :=
  OpenClaim.holds_of_cond 4 Try.f4 rfl rfl rfl rfl rfl rfl rfl ⟨rfl, rfl, rfl, rfl, rfl⟩ rfl rfl rfl rfl rfl (by kernel_rfl) Try.func4 (by kernel_rfl)
    (of_decide_eq_true (by kernel_rfl)) (by unfold Func.isWrapper; first | (rw [if_pos (by decide +kernel)]; kernel_rfl) | (rw [if_neg (by decide +kernel)]; exact ⟨rfl, rfl⟩))
    (fun os started H enc _ F => lifted os started H enc F)
#print axioms proved
end Go.Proofs.Ytdcpilajmbdfbaa.valueParts
namespace Go.Proofs.Ytdcpilajmbdfbaa
/-- The row, under a short name, for the claim. -/
theorem valueParts_holds : Rows.ValuePartsUptoSaid := valueParts.proved
end Go.Proofs.Ytdcpilajmbdfbaa
