/-
  No cell of these rows narrows 'for every input' (looked for: loops, veiled, ifaces, maps, wideKeys, modest, calm, conditions, laid).
  DERIVED. THE GIVEN ROWS OF THIS SEAT. 4 by the template 'for every input the law returns true; each argument reads behind the call as it read before'; 0 by the template 'total and deterministic' (their statements: YtjefhpbliihonaaTotals.lean).
  GIVEN WITH THE SEED: the statements are not yours to turn. If you find one false, say at which input.
  Laid BY PROGRAM, IN A SANDBOX (cutbox-rows.mjs): the forced cells as the released guide's own fill.sh prints them over the translation d6cc50852ba02752… (all of the seat's roots in one cut). By AI agents, Wed Nov 11 2026. No macro, syntax, notation, axiom, sorry.
-/
import Derived.Test.YtjefhpbliihonaaChecked
import GoSem.Claim
import GoSem.ClaimJoined
import GoSem.ClaimMapViews
import Derived.JoinedTies
import Derived.KernelRfl
namespace Go.Proofs.Ytjefhpbliihonaa
/- THE CELL 'sum', in the pinned program and in every row, IS THE sha256 OF THE DUMP (.gsa) THAT YtjefhpbliihonaaProg.lean LOADS. Nothing in Lean hashes anything: it is a label: what it is worth is what the hold of that sum in a sandbox is worth. -/
noncomputable def Try.pinned : Pinned := { name := "ytjefhpbliihonaa", sum := "d6cc50852ba02752b1531ab3d9a20281aa889784d7d3b3aa38fa07a20e498eb3", checked := Try.checked }
namespace Rows
def none {H : Type} : Left H := { results := [], args := [] }

/-- 'glossatorlaw05.FbitsOrder': WHATEVER THE INPUT: true; the input reads as it did. -/
def fbitsOrderSpec : ChangeSpec := { name := "fbitsOrder", fn := fun _ => fun
  | [d1, d2, d3] => { results := [.lit (.bool true)], args := [d1, d2, d3] }
  | _ => none }
def fbitsOrderRow : OpenClaim := { program := "ytjefhpbliihonaa", sum := "d6cc50852ba02752b1531ab3d9a20281aa889784d7d3b3aa38fa07a20e498eb3", func := "glossator/glossatorlaw05.FbitsOrder", spec := "fbitsOrder", apart := false }
def FbitsOrderSaid : Prop := fbitsOrderRow.holds Try.pinned (OpenSpec.ofChange fbitsOrderSpec)

/-- ITS FALSE NEIGHBOUR: 'it returns false'. Refute it at one input. -/
def fbitsOrderWrong : ChangeSpec := { name := "fbitsOrder", fn := fun _ => fun
  | [d1, d2, d3] => { results := [.lit (.bool false)], args := [d1, d2, d3] }
  | _ => none }
def FbitsOrderWrongFalsely : Prop := fbitsOrderRow.holds Try.pinned (OpenSpec.ofChange fbitsOrderWrong)

/-- 'glossatorlaw05.FbitsParts': WHATEVER THE INPUT: true; the input reads as it did. -/
def fbitsPartsSpec : ChangeSpec := { name := "fbitsParts", fn := fun _ => fun
  | [d1, d2] => { results := [.lit (.bool true)], args := [d1, d2] }
  | _ => none }
def fbitsPartsRow : OpenClaim := { program := "ytjefhpbliihonaa", sum := "d6cc50852ba02752b1531ab3d9a20281aa889784d7d3b3aa38fa07a20e498eb3", func := "glossator/glossatorlaw05.FbitsParts", spec := "fbitsParts", apart := false }
def FbitsPartsSaid : Prop := fbitsPartsRow.holds Try.pinned (OpenSpec.ofChange fbitsPartsSpec)

/-- ITS FALSE NEIGHBOUR: 'it returns false'. Refute it at one input. -/
def fbitsPartsWrong : ChangeSpec := { name := "fbitsParts", fn := fun _ => fun
  | [d1, d2] => { results := [.lit (.bool false)], args := [d1, d2] }
  | _ => none }
def FbitsPartsWrongFalsely : Prop := fbitsPartsRow.holds Try.pinned (OpenSpec.ofChange fbitsPartsWrong)

/-- 'glossatorlaw05.FbitsTurns': WHATEVER THE INPUT: true; the input reads as it did. -/
def fbitsTurnsSpec : ChangeSpec := { name := "fbitsTurns", fn := fun _ => fun
  | [d1, d2] => { results := [.lit (.bool true)], args := [d1, d2] }
  | _ => none }
def fbitsTurnsRow : OpenClaim := { program := "ytjefhpbliihonaa", sum := "d6cc50852ba02752b1531ab3d9a20281aa889784d7d3b3aa38fa07a20e498eb3", func := "glossator/glossatorlaw05.FbitsTurns", spec := "fbitsTurns", apart := false }
def FbitsTurnsSaid : Prop := fbitsTurnsRow.holds Try.pinned (OpenSpec.ofChange fbitsTurnsSpec)

/-- ITS FALSE NEIGHBOUR: 'it returns false'. Refute it at one input. -/
def fbitsTurnsWrong : ChangeSpec := { name := "fbitsTurns", fn := fun _ => fun
  | [d1, d2] => { results := [.lit (.bool false)], args := [d1, d2] }
  | _ => none }
def FbitsTurnsWrongFalsely : Prop := fbitsTurnsRow.holds Try.pinned (OpenSpec.ofChange fbitsTurnsWrong)

/-- 'glossatorlaw05.FbitsLeast': WHATEVER THE INPUT: true; the input reads as it did. -/
def fbitsLeastSpec : ChangeSpec := { name := "fbitsLeast", fn := fun _ => fun
  | [d] => { results := [.lit (.bool true)], args := [d] }
  | _ => none }
def fbitsLeastRow : OpenClaim := { program := "ytjefhpbliihonaa", sum := "d6cc50852ba02752b1531ab3d9a20281aa889784d7d3b3aa38fa07a20e498eb3", func := "glossator/glossatorlaw05.FbitsLeast", spec := "fbitsLeast", apart := false }
def FbitsLeastSaid : Prop := fbitsLeastRow.holds Try.pinned (OpenSpec.ofChange fbitsLeastSpec)

/-- ITS FALSE NEIGHBOUR: 'it returns false'. Refute it at one input. -/
def fbitsLeastWrong : ChangeSpec := { name := "fbitsLeast", fn := fun _ => fun
  | [d] => { results := [.lit (.bool false)], args := [d] }
  | _ => none }
def FbitsLeastWrongFalsely : Prop := fbitsLeastRow.holds Try.pinned (OpenSpec.ofChange fbitsLeastWrong)

/- THE SECOND FORM. 'bulk': how many values and letters a reading holds, each counted each time it is reached (what is shared counts as often as it is met; a slice's spare places count too). A statement '..UptoSaid' is the law's where the arguments, and the package variables that the reading takes, are together of bulk at most 1048576: NARROWER than '..Said'. Prove '..Said' where nothing that the law and all that it calls make is longer than what came in: it says more and counts as full. Else prove '..UptoSaid'. A law counts once. -/
mutual
def uptoBulk {H : Type} : DataW H → Nat
  | .lit (.string bytes) => bytes.length + 1
  | .lit _ => 1
  | .nil => 1
  | .ptr d => uptoBulk d + 1
  | .slice elems spare => uptoBulkAll elems + uptoBulkAll spare + 1
  | .agg parts => uptoBulkAll parts + 1
  | .iface _ d => uptoBulk d + 1
  | .map entries => uptoBulkEntries entries + 1
  | .held _ => 1
def uptoBulkAll {H : Type} : List (DataW H) → Nat
  | [] => 0
  | d :: r => uptoBulk d + uptoBulkAll r
def uptoBulkEntries {H : Type} : List (Lit × DataW H) → Nat
  | [] => 0
  | x :: r => uptoBulkEntry x + uptoBulkEntries r
def uptoBulkEntry {H : Type} : Lit × DataW H → Nat
  | (.string bytes, d) => bytes.length + uptoBulk d + 1
  | (_, d) => uptoBulk d + 1
 end
def uptoSmall : (H : Type) → List (DataW H) → Bool := fun _ ds => decide (uptoBulkAll ds ≤ 1048576)
def OpenSpec.upto (s : _root_.Go.ChangeSpec) : _root_.Go.OpenSpec := { _root_.Go.OpenSpec.ofChange s with cond := some uptoSmall }

/-- 'glossatorlaw05.FbitsOrder', WHERE WHAT IT READS IS OF BULK AT MOST 1048576: true; the input reads as it did. -/
def fbitsOrderUptoRow : OpenClaim := { program := "ytjefhpbliihonaa", sum := "d6cc50852ba02752b1531ab3d9a20281aa889784d7d3b3aa38fa07a20e498eb3", func := "glossator/glossatorlaw05.FbitsOrder", spec := "fbitsOrder", apart := false, narrowed := true }
def FbitsOrderUptoSaid : Prop := fbitsOrderUptoRow.holds Try.pinned (OpenSpec.upto fbitsOrderSpec)

/-- 'glossatorlaw05.FbitsParts', WHERE WHAT IT READS IS OF BULK AT MOST 1048576: true; the input reads as it did. -/
def fbitsPartsUptoRow : OpenClaim := { program := "ytjefhpbliihonaa", sum := "d6cc50852ba02752b1531ab3d9a20281aa889784d7d3b3aa38fa07a20e498eb3", func := "glossator/glossatorlaw05.FbitsParts", spec := "fbitsParts", apart := false, narrowed := true }
def FbitsPartsUptoSaid : Prop := fbitsPartsUptoRow.holds Try.pinned (OpenSpec.upto fbitsPartsSpec)

/-- 'glossatorlaw05.FbitsTurns', WHERE WHAT IT READS IS OF BULK AT MOST 1048576: true; the input reads as it did. -/
def fbitsTurnsUptoRow : OpenClaim := { program := "ytjefhpbliihonaa", sum := "d6cc50852ba02752b1531ab3d9a20281aa889784d7d3b3aa38fa07a20e498eb3", func := "glossator/glossatorlaw05.FbitsTurns", spec := "fbitsTurns", apart := false, narrowed := true }
def FbitsTurnsUptoSaid : Prop := fbitsTurnsUptoRow.holds Try.pinned (OpenSpec.upto fbitsTurnsSpec)

/-- 'glossatorlaw05.FbitsLeast', WHERE WHAT IT READS IS OF BULK AT MOST 1048576: true; the input reads as it did. -/
def fbitsLeastUptoRow : OpenClaim := { program := "ytjefhpbliihonaa", sum := "d6cc50852ba02752b1531ab3d9a20281aa889784d7d3b3aa38fa07a20e498eb3", func := "glossator/glossatorlaw05.FbitsLeast", spec := "fbitsLeast", apart := false, narrowed := true }
def FbitsLeastUptoSaid : Prop := fbitsLeastUptoRow.holds Try.pinned (OpenSpec.upto fbitsLeastSpec)

end Rows
end Go.Proofs.Ytjefhpbliihonaa
