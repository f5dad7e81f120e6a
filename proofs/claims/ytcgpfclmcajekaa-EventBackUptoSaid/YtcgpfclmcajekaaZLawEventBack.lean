-- Written by a program of this session out of the kit's print (print.py, its switches or its text changed): not the kit's own print
import Derived.Test.YtcgpfclmcajekaaRows
import Derived.Test.YtcgpfclmcajekaaZOpen
import Derived.Test.YtcgpfclmcajekaaZPEventBackx10
import Derived.Test.YtcgpfclmcajekaaZPureEventBack
import Derived.WalkKit
import Derived.ProofKit
import Derived.OpenShut
import Derived.ShutString
import Derived.ChangeOld
import Derived.Below
import Derived.SizedLaws
import Derived.Deep.CondSized
namespace Go.Proofs.Ytcgpfclmcajekaa.eventBack
open Go.ChangeShapes Go.WideShapes Go.ChangeAt Go.RowKit Go.Proofs.Ytcgpfclmcajekaa Go.Proofs.YtcgpfclmcajekaaW Go.Proofs.Ytcgpfclmcajekaa.PEventBack Go.Proofs.YtcgpfclmcajekaaW.PrintWords
open Go.ChangeMaps (open_string shut_string)
set_option linter.unusedVariables false
set_option linter.unusedSimpArgs false
theorem own : ownKnob Try.prog.godebug = none := by kernel_rfl
theorem laidOut : laidOutB Try.prog = true := by kernel_rfl
set_option maxRecDepth 100000 in
set_option maxHeartbeats 4000000 in
theorem lifted (os : Os) (started : os.Started) (H : Type) (enc : TypeId × Value → H) (F : Stop.Interp) :
    ReturnsInHanded {} Try.checked os 7 .any ((Rows.OpenSpec.upto Rows.eventBackSpec).pre6 enc Try.prog Try.f7 Rows.eventBackUptoRow.domain false) (((Rows.OpenSpec.upto Rows.eventBackSpec).at F).post enc Try.prog Try.f7 false true false false) := by
  refine returnsInHanded_of_cond_sized (C := Try.checked) (s := (Rows.OpenSpec.upto Rows.eventBackSpec)) (k := Rows.uptoSmall) rfl own started (by kernel_rfl) Try.func7
    (OpenSpec.witness (enc := enc) (C := Try.checked) (s := (Rows.OpenSpec.upto Rows.eventBackSpec)) (k := Rows.uptoSmall) rfl false ⟨#[], #[.agg #[.int .i64 0, .bool false, .int .u64 0, .string ByteArray.empty, .slice none 0 0], .slice none 0 0], []⟩ 8 (by kernel_rfl) (by kernel_rfl) (by kernel_rfl)
      (x := ([.agg [.lit (.int .i64 0), .lit (.bool false), .lit (.int .u64 0), .lit (.string []), .nil], .nil], [], [])) (by kernel_rfl) rfl (by kernel_rfl)) ?_
  intro W base args ds gs before hval0 hW hcnd hbulk hsz0 _
  have hsz : (DataW.weightsEach Try.prog (Try.f7.params.toList ++ Rows.eventBackSpec.plain.varTypes Try.prog) (ds ++ gs)).all (· ≤ reachBytes) = true := hsz0
  have hval : ∀ (j : Nat) t v, Try.f7.params[j]? = some t → args[j]? = some v → Value.okWide Try.prog W .any base t v := hval0
  have hW' := hW
  obtain ⟨p, q, hA0, hV, rfl, hfz, hnd⟩ := hW
  have hA : DataW.TrodAll enc Try.prog W 0 (fun _ => true) true Try.f7.params.toList args.toList ds p := hA0
  rw [Try.params7] at hA hval hsz
  obtain ⟨v0, vs0, d0, ds0, p0, q0, hargs, rfl, rfl, h0, r0⟩ := trodAll_cons hA
  obtain ⟨v1, vs1, d1, ds1, p1, q1, rfl, rfl, rfl, h1, r1⟩ := trodAll_cons r0
  obtain ⟨rfl, rfl, rfl⟩ := trodAll_nil r1
  obtain rfl : args = #[v0, v1] := by cases args; simp_all
  obtain ⟨rfl, rfl⟩ := trodVars_none hV
  have k0 := h0
  have lt0 : ∀ x ∈ p0, x.block < W.heap.size := by obtain ⟨m, hm⟩ := k0; exact DataW.trod_lt m _ _ _ hm
  obtain ⟨cs0, rfl, hz0⟩ := okWide_struct Try.underlying25 (hval 0 25 v0 rfl rfl)
  obtain ⟨x0, hK0, wf0, sz0⟩ : ∃ x : S25, k25.K W x cs0.toList ∧ wfS25 x ∧ szS25 x ≤ Rows.uptoBulk d0 := by
    obtain ⟨fuel, hf⟩ := h0
    obtain ⟨x, hK, hw, hs⟩ := opens_S25 _ _ _ _ hf
    exact ⟨x, hK, hw (fun n_ hn_ => of_decide_eq_true (List.all_eq_true.1 hsz n_ (DataW.weights_mem_each (j := 0) rfl rfl n_ hn_))), hs⟩
  obtain ⟨A0_4, c0_4, hcs0, l0_4, g0_4⟩ := k25_open hK0
  obtain rfl : cs0 = #[.int .i64 x0.f0, .bool x0.f1, .int .u64 x0.f2, .string x0.f3, .slice A0_4 x0.f4.length c0_4] := by rw [← Array.toArray_toList (xs := cs0), hcs0]
  have k1 := h1
  have lt1 : ∀ x ∈ p1, x.block < W.heap.size := by obtain ⟨m, hm⟩ := k1; exact DataW.trod_lt m _ _ _ hm
  obtain ⟨a1, len1, cap1, rfl⟩ := okWide_slice Try.underlying26 (hval 1 26 v1 rfl rfl)
  obtain ⟨l1, rfl, hC1, hc1, wf1, sz1⟩ : ∃ l : List (S37), len1 = l.length ∧ Kd.C k37 W a1 l.length l ∧ l.length ≤ cap1 ∧ (fun l => l.length * 40 ≤ 140737488351232 ∧ ∀ x ∈ l, wfS37 x) l ∧ (fun l => Open.sumSz szS37 l + 1) l ≤ Rows.uptoBulk d1 := by
    obtain ⟨fuel, hf⟩ := h1
    obtain ⟨l, ⟨A_, c_, he, hl, hC⟩, hw, hs⟩ := (Open.opens_slice (d := k37) (wf := wfS37) (sz := szS37) (fun _ _ => (opens_S37 _)) Try.underlying26 (by kernel_rfl) (by kernel_rfl)) _ _ _ hf
    have he' : Value.slice a1 len1 cap1 = Value.slice A_ l.length c_ := by simpa [Value.cells] using he
    injection he' with e1 e2 e3
    subst e1; subst e3
    exact ⟨l, e2, hC, hl, hw (fun n_ hn_ => of_decide_eq_true (List.all_eq_true.1 hsz n_ (DataW.weights_mem_each (j := 1) rfl rfl n_ hn_))), hs⟩
  clear hA0 hval0 hsz0 hsz
  have bulk : szS25 x0 + (fun l => Open.sumSz szS37 l + 1) l1 ≤ 1048576 := by
    have hb := of_decide_eq_true hbulk
    simp only [List.append_nil, Rows.uptoBulkAll, Rows.uptoBulk] at hb
    (try simp only [Array.length_toList] at hb)
    (try simp only [ByteArray.size_data] at hb)
    (try dsimp only); (try dsimp only at sz0); (try dsimp only at sz1); (try dsimp only at sz2)
    omega
  obtain ⟨k, hk⟩ := Pure.EventBack x0.f0 x0.f1 x0.f2 x0.f3 x0.f4 l1 (show wfS25 ⟨x0.f0, x0.f1, x0.f2, x0.f3, x0.f4⟩ by revert wf0; clear sz0; cases x0; exact id) wf1 (by simp only [(show ∀ x : S25, (⟨x.f0, x.f1, x.f2, x.f3, x.f4⟩ : S25) = x from fun x => by cases x; rfl)]; exact bulk)
  refine (PEventBack.glossatorlaw09_EventBack.calls k x0.f0 x0.f1 x0.f2 x0.f3 _ _ x0.f4 _ _ l1 true W g0_4 l0_4 hC1 hc1 hk).mono fun e W' ⟨he, bel0⟩ => ?_
  have bel : Below W.heap.size W W' := bel0
  subst he
  exact ⟨_, rfl, _, _, _, [], _, [], hW', trodAll_mk1 (shut_bool Try.underlying4 _), (trodAll_cons_mk (Below.trod laidOut (by kernel_rfl) (of_decide_eq_true (by kernel_rfl)) k0 bel lt0) (trodAll_cons_mk (Below.trod laidOut (by kernel_rfl) (of_decide_eq_true (by kernel_rfl)) k1 bel lt1) trodAll_mk0)), rfl, bel.frame _, fun h => by cases h⟩
theorem proved : Rows.EventBackUptoSaid :=
  OpenClaim.holds_of_cond 7 Try.f7 rfl rfl rfl rfl rfl rfl rfl ⟨rfl, rfl, rfl, rfl, rfl⟩ rfl rfl rfl rfl rfl (by kernel_rfl) Try.func7 (by kernel_rfl)
    (of_decide_eq_true (by kernel_rfl)) (by unfold Func.isWrapper; first | (rw [if_pos (by decide +kernel)]; kernel_rfl) | (rw [if_neg (by decide +kernel)]; exact ⟨rfl, rfl⟩))
    (fun os started H enc _ F => lifted os started H enc F)
#print axioms proved
end Go.Proofs.Ytcgpfclmcajekaa.eventBack
namespace Go.Proofs.Ytcgpfclmcajekaa
/-- The row, under a short name, for the claim. -/
theorem eventBack_holds : Rows.EventBackUptoSaid := eventBack.proved
end Go.Proofs.Ytcgpfclmcajekaa
