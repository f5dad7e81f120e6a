/-
  No cell of these rows narrows 'for every input' (looked for: loops, veiled, ifaces, maps, wideKeys, modest, calm, conditions, laid).
  DERIVED. THE GIVEN ROWS OF THIS SEAT. 5 by the template 'for every input the law returns true; each argument reads behind the call as it read before'; 0 by the template 'total and deterministic' (their statements: YtmpengjbjhladaaTotals.lean).
  GIVEN WITH THE SEED: the statements are not yours to turn. If you find one false, say at which input.
  Laid BY PROGRAM, IN A SANDBOX (cutbox-rows.mjs): the forced cells as the released guide's own fill.sh prints them over the translation 418626d4dd1fd94b… (all of the seat's roots in one cut). By AI agents, Wed Nov 11 2026. No macro, syntax, notation, axiom, sorry.
-/
import Derived.Test.YtmpengjbjhladaaChecked
import GoSem.Claim
import GoSem.ClaimJoined
import GoSem.ClaimMapViews
import Derived.JoinedTies
import Derived.KernelRfl
namespace Go.Proofs.Ytmpengjbjhladaa
/- THE CELL 'sum', in the pinned program and in every row, IS THE sha256 OF THE DUMP (.gsa) THAT YtmpengjbjhladaaProg.lean LOADS. Nothing in Lean hashes anything: it is a label: what it is worth is what the hold of that sum in a sandbox is worth. -/
noncomputable def Try.pinned : Pinned := { name := "ytmpengjbjhladaa", sum := "418626d4dd1fd94b4de13ed76f00ede8ef37c3d348ebb6e3eb247faf19d2aa7d", checked := Try.checked }
namespace Rows
def none {H : Type} : Left H := { results := [], args := [] }

/-- 'glossatorlaw10.HeadPuts': WHATEVER THE INPUT: true; the input reads as it did. -/
def headPutsSpec : ChangeSpec := { name := "headPuts", fn := fun _ => fun
  | [d1, d2, d3] => { results := [.lit (.bool true)], args := [d1, d2, d3] }
  | _ => none }
def headPutsRow : OpenClaim := { program := "ytmpengjbjhladaa", sum := "418626d4dd1fd94b4de13ed76f00ede8ef37c3d348ebb6e3eb247faf19d2aa7d", func := "glossator/glossatorlaw10.HeadPuts", spec := "headPuts", apart := false }
def HeadPutsSaid : Prop := headPutsRow.holds Try.pinned (OpenSpec.ofChange headPutsSpec)

/-- ITS FALSE NEIGHBOUR: 'it returns false'. Refute it at one input. -/
def headPutsWrong : ChangeSpec := { name := "headPuts", fn := fun _ => fun
  | [d1, d2, d3] => { results := [.lit (.bool false)], args := [d1, d2, d3] }
  | _ => none }
def HeadPutsWrongFalsely : Prop := headPutsRow.holds Try.pinned (OpenSpec.ofChange headPutsWrong)

/-- 'glossatorlaw10.HeadLeast': WHATEVER THE INPUT: true; the input reads as it did. -/
def headLeastSpec : ChangeSpec := { name := "headLeast", fn := fun _ => fun
  | [d1, d2] => { results := [.lit (.bool true)], args := [d1, d2] }
  | _ => none }
def headLeastRow : OpenClaim := { program := "ytmpengjbjhladaa", sum := "418626d4dd1fd94b4de13ed76f00ede8ef37c3d348ebb6e3eb247faf19d2aa7d", func := "glossator/glossatorlaw10.HeadLeast", spec := "headLeast", apart := false }
def HeadLeastSaid : Prop := headLeastRow.holds Try.pinned (OpenSpec.ofChange headLeastSpec)

/-- ITS FALSE NEIGHBOUR: 'it returns false'. Refute it at one input. -/
def headLeastWrong : ChangeSpec := { name := "headLeast", fn := fun _ => fun
  | [d1, d2] => { results := [.lit (.bool false)], args := [d1, d2] }
  | _ => none }
def HeadLeastWrongFalsely : Prop := headLeastRow.holds Try.pinned (OpenSpec.ofChange headLeastWrong)

/-- 'glossatorlaw10.HeadGets': WHATEVER THE INPUT: true; the input reads as it did. -/
def headGetsSpec : ChangeSpec := { name := "headGets", fn := fun _ => fun
  | [d] => { results := [.lit (.bool true)], args := [d] }
  | _ => none }
def headGetsRow : OpenClaim := { program := "ytmpengjbjhladaa", sum := "418626d4dd1fd94b4de13ed76f00ede8ef37c3d348ebb6e3eb247faf19d2aa7d", func := "glossator/glossatorlaw10.HeadGets", spec := "headGets", apart := false }
def HeadGetsSaid : Prop := headGetsRow.holds Try.pinned (OpenSpec.ofChange headGetsSpec)

/-- ITS FALSE NEIGHBOUR: 'it returns false'. Refute it at one input. -/
def headGetsWrong : ChangeSpec := { name := "headGets", fn := fun _ => fun
  | [d] => { results := [.lit (.bool false)], args := [d] }
  | _ => none }
def HeadGetsWrongFalsely : Prop := headGetsRow.holds Try.pinned (OpenSpec.ofChange headGetsWrong)

/-- 'glossatorlaw10.HeadFirst': WHATEVER THE INPUT: true; the input reads as it did. -/
def headFirstSpec : ChangeSpec := { name := "headFirst", fn := fun _ => fun
  | [d1, d2] => { results := [.lit (.bool true)], args := [d1, d2] }
  | _ => none }
def headFirstRow : OpenClaim := { program := "ytmpengjbjhladaa", sum := "418626d4dd1fd94b4de13ed76f00ede8ef37c3d348ebb6e3eb247faf19d2aa7d", func := "glossator/glossatorlaw10.HeadFirst", spec := "headFirst", apart := false }
def HeadFirstSaid : Prop := headFirstRow.holds Try.pinned (OpenSpec.ofChange headFirstSpec)

/-- ITS FALSE NEIGHBOUR: 'it returns false'. Refute it at one input. -/
def headFirstWrong : ChangeSpec := { name := "headFirst", fn := fun _ => fun
  | [d1, d2] => { results := [.lit (.bool false)], args := [d1, d2] }
  | _ => none }
def HeadFirstWrongFalsely : Prop := headFirstRow.holds Try.pinned (OpenSpec.ofChange headFirstWrong)

/-- 'glossatorlaw10.HeadBack': WHATEVER THE INPUT: true; the input reads as it did. -/
def headBackSpec : ChangeSpec := { name := "headBack", fn := fun _ => fun
  | [d1, d2, d3, d4] => { results := [.lit (.bool true)], args := [d1, d2, d3, d4] }
  | _ => none }
def headBackRow : OpenClaim := { program := "ytmpengjbjhladaa", sum := "418626d4dd1fd94b4de13ed76f00ede8ef37c3d348ebb6e3eb247faf19d2aa7d", func := "glossator/glossatorlaw10.HeadBack", spec := "headBack", apart := false }
def HeadBackSaid : Prop := headBackRow.holds Try.pinned (OpenSpec.ofChange headBackSpec)

/-- ITS FALSE NEIGHBOUR: 'it returns false'. Refute it at one input. -/
def headBackWrong : ChangeSpec := { name := "headBack", fn := fun _ => fun
  | [d1, d2, d3, d4] => { results := [.lit (.bool false)], args := [d1, d2, d3, d4] }
  | _ => none }
def HeadBackWrongFalsely : Prop := headBackRow.holds Try.pinned (OpenSpec.ofChange headBackWrong)

/- THE SECOND FORM. 'bulk': how many values and letters a reading holds, each counted each time it is reached (what is shared counts as often as it is met; a slice's spare places count too). A statement '..UptoSaid' is the law's where the arguments, and the package variables that the reading takes, are together of bulk at most 1048576: NARROWER than '..Said'. Prove '..Said' where nothing that the law and all that it calls make is longer than what came in: it says more and counts as full. Else prove '..UptoSaid'. A law counts once. -/
mutual
def uptoBulk {H : Type} : DataW H → Nat
  | .lit (.string bytes) => bytes.length + 1
  | .lit _ => 1
  | .nil => 1
  | .ptr d => uptoBulk d + 1
  | .slice elems spare => uptoBulkAll elems + uptoBulkAll spare + 1
  | .agg parts => uptoBulkAll parts + 1
  | .iface _ d => uptoBulk d + 1
  | .map entries => uptoBulkEntries entries + 1
  | .held _ => 1
def uptoBulkAll {H : Type} : List (DataW H) → Nat
  | [] => 0
  | d :: r => uptoBulk d + uptoBulkAll r
def uptoBulkEntries {H : Type} : List (Lit × DataW H) → Nat
  | [] => 0
  | x :: r => uptoBulkEntry x + uptoBulkEntries r
def uptoBulkEntry {H : Type} : Lit × DataW H → Nat
  | (.string bytes, d) => bytes.length + uptoBulk d + 1
  | (_, d) => uptoBulk d + 1
 end
def uptoSmall : (H : Type) → List (DataW H) → Bool := fun _ ds => decide (uptoBulkAll ds ≤ 1048576)
def OpenSpec.upto (s : _root_.Go.ChangeSpec) : _root_.Go.OpenSpec := { _root_.Go.OpenSpec.ofChange s with cond := some uptoSmall }

/-- 'glossatorlaw10.HeadPuts', WHERE WHAT IT READS IS OF BULK AT MOST 1048576: true; the input reads as it did. -/
def headPutsUptoRow : OpenClaim := { program := "ytmpengjbjhladaa", sum := "418626d4dd1fd94b4de13ed76f00ede8ef37c3d348ebb6e3eb247faf19d2aa7d", func := "glossator/glossatorlaw10.HeadPuts", spec := "headPuts", apart := false, narrowed := true }
def HeadPutsUptoSaid : Prop := headPutsUptoRow.holds Try.pinned (OpenSpec.upto headPutsSpec)

/-- 'glossatorlaw10.HeadLeast', WHERE WHAT IT READS IS OF BULK AT MOST 1048576: true; the input reads as it did. -/
def headLeastUptoRow : OpenClaim := { program := "ytmpengjbjhladaa", sum := "418626d4dd1fd94b4de13ed76f00ede8ef37c3d348ebb6e3eb247faf19d2aa7d", func := "glossator/glossatorlaw10.HeadLeast", spec := "headLeast", apart := false, narrowed := true }
def HeadLeastUptoSaid : Prop := headLeastUptoRow.holds Try.pinned (OpenSpec.upto headLeastSpec)

/-- 'glossatorlaw10.HeadGets', WHERE WHAT IT READS IS OF BULK AT MOST 1048576: true; the input reads as it did. -/
def headGetsUptoRow : OpenClaim := { program := "ytmpengjbjhladaa", sum := "418626d4dd1fd94b4de13ed76f00ede8ef37c3d348ebb6e3eb247faf19d2aa7d", func := "glossator/glossatorlaw10.HeadGets", spec := "headGets", apart := false, narrowed := true }
def HeadGetsUptoSaid : Prop := headGetsUptoRow.holds Try.pinned (OpenSpec.upto headGetsSpec)

/-- 'glossatorlaw10.HeadFirst', WHERE WHAT IT READS IS OF BULK AT MOST 1048576: true; the input reads as it did. -/
def headFirstUptoRow : OpenClaim := { program := "ytmpengjbjhladaa", sum := "418626d4dd1fd94b4de13ed76f00ede8ef37c3d348ebb6e3eb247faf19d2aa7d", func := "glossator/glossatorlaw10.HeadFirst", spec := "headFirst", apart := false, narrowed := true }
def HeadFirstUptoSaid : Prop := headFirstUptoRow.holds Try.pinned (OpenSpec.upto headFirstSpec)

/-- 'glossatorlaw10.HeadBack', WHERE WHAT IT READS IS OF BULK AT MOST 1048576: true; the input reads as it did. -/
def headBackUptoRow : OpenClaim := { program := "ytmpengjbjhladaa", sum := "418626d4dd1fd94b4de13ed76f00ede8ef37c3d348ebb6e3eb247faf19d2aa7d", func := "glossator/glossatorlaw10.HeadBack", spec := "headBack", apart := false, narrowed := true }
def HeadBackUptoSaid : Prop := headBackUptoRow.holds Try.pinned (OpenSpec.upto headBackSpec)

end Rows
end Go.Proofs.Ytmpengjbjhladaa
