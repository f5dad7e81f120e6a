/-
  NARROWER THAN 'FOR EVERY INPUT', by the rows' own cells (each row's printed sentence says how): ValueEquals: loops · ValueParts: loops · ValueChecks: loops · ValuePaths: loops · ValueTwins: loops.
  DERIVED. THE GIVEN ROWS OF THIS SEAT. 5 by the template 'for every input the law returns true; each argument reads behind the call as it read before'; 0 by the template 'total and deterministic' (their statements: YtdcpilajmbdfbaaTotals.lean).
  GIVEN WITH THE SEED: the statements are not yours to turn. If you find one false, say at which input.
  Laid BY PROGRAM, IN A SANDBOX (cutbox-rows.mjs): the forced cells as the released guide's own fill.sh prints them over the translation b89ebe5933beee8e… (all of the seat's roots in one cut). By AI agents, Wed Nov 11 2026. No macro, syntax, notation, axiom, sorry.
-/
import Derived.Test.YtdcpilajmbdfbaaChecked
import GoSem.Claim
import GoSem.ClaimJoined
import GoSem.ClaimMapViews
import Derived.JoinedTies
import Derived.KernelRfl
namespace Go.Proofs.Ytdcpilajmbdfbaa
/- THE CELL 'sum', in the pinned program and in every row, IS THE sha256 OF THE DUMP (.gsa) THAT YtdcpilajmbdfbaaProg.lean LOADS. Nothing in Lean hashes anything: it is a label: what it is worth is what the hold of that sum in a sandbox is worth. -/
noncomputable def Try.pinned : Pinned := { name := "ytdcpilajmbdfbaa", sum := "b89ebe5933beee8e1619356b593df6968c02efed00ec1e5d56da6775afda3c7e", checked := Try.checked }
namespace Rows
def none {H : Type} : Left H := { results := [], args := [] }

/-- 'glossatorlaw08.ValueEquals': WHATEVER THE INPUT: true; the input reads as it did. -/
def valueEqualsSpec : ChangeSpec := { name := "valueEquals", fn := fun _ => fun
  | [d1, d2, d3] => { results := [.lit (.bool true)], args := [d1, d2, d3] }
  | _ => none }
def valueEqualsRow : OpenClaim := { program := "ytdcpilajmbdfbaa", sum := "b89ebe5933beee8e1619356b593df6968c02efed00ec1e5d56da6775afda3c7e", func := "glossator/glossatorlaw08.ValueEquals", spec := "valueEquals", unfollowed := true, recurses := true, loops := true, apart := false }
def ValueEqualsSaid : Prop := valueEqualsRow.holds Try.pinned (OpenSpec.ofChange valueEqualsSpec)

/-- ITS FALSE NEIGHBOUR: 'it returns false'. Refute it at one input. -/
def valueEqualsWrong : ChangeSpec := { name := "valueEquals", fn := fun _ => fun
  | [d1, d2, d3] => { results := [.lit (.bool false)], args := [d1, d2, d3] }
  | _ => none }
def ValueEqualsWrongFalsely : Prop := valueEqualsRow.holds Try.pinned (OpenSpec.ofChange valueEqualsWrong)

/-- 'glossatorlaw08.ValueParts': WHATEVER THE INPUT: true; the input reads as it did. -/
def valuePartsSpec : ChangeSpec := { name := "valueParts", fn := fun _ => fun
  | [d] => { results := [.lit (.bool true)], args := [d] }
  | _ => none }
def valuePartsRow : OpenClaim := { program := "ytdcpilajmbdfbaa", sum := "b89ebe5933beee8e1619356b593df6968c02efed00ec1e5d56da6775afda3c7e", func := "glossator/glossatorlaw08.ValueParts", spec := "valueParts", unfollowed := true, recurses := true, loops := true, apart := false }
def ValuePartsSaid : Prop := valuePartsRow.holds Try.pinned (OpenSpec.ofChange valuePartsSpec)

/-- ITS FALSE NEIGHBOUR: 'it returns false'. Refute it at one input. -/
def valuePartsWrong : ChangeSpec := { name := "valueParts", fn := fun _ => fun
  | [d] => { results := [.lit (.bool false)], args := [d] }
  | _ => none }
def ValuePartsWrongFalsely : Prop := valuePartsRow.holds Try.pinned (OpenSpec.ofChange valuePartsWrong)

/-- 'glossatorlaw08.ValueChecks': WHATEVER THE INPUT: true; the input reads as it did. -/
def valueChecksSpec : ChangeSpec := { name := "valueChecks", fn := fun _ => fun
  | [d] => { results := [.lit (.bool true)], args := [d] }
  | _ => none }
def valueChecksRow : OpenClaim := { program := "ytdcpilajmbdfbaa", sum := "b89ebe5933beee8e1619356b593df6968c02efed00ec1e5d56da6775afda3c7e", func := "glossator/glossatorlaw08.ValueChecks", spec := "valueChecks", unfollowed := true, recurses := true, loops := true, apart := false }
def ValueChecksSaid : Prop := valueChecksRow.holds Try.pinned (OpenSpec.ofChange valueChecksSpec)

/-- ITS FALSE NEIGHBOUR: 'it returns false'. Refute it at one input. -/
def valueChecksWrong : ChangeSpec := { name := "valueChecks", fn := fun _ => fun
  | [d] => { results := [.lit (.bool false)], args := [d] }
  | _ => none }
def ValueChecksWrongFalsely : Prop := valueChecksRow.holds Try.pinned (OpenSpec.ofChange valueChecksWrong)

/-- 'glossatorlaw08.ValuePaths': WHATEVER THE INPUT: true; the input reads as it did. -/
def valuePathsSpec : ChangeSpec := { name := "valuePaths", fn := fun _ => fun
  | [d] => { results := [.lit (.bool true)], args := [d] }
  | _ => none }
def valuePathsRow : OpenClaim := { program := "ytdcpilajmbdfbaa", sum := "b89ebe5933beee8e1619356b593df6968c02efed00ec1e5d56da6775afda3c7e", func := "glossator/glossatorlaw08.ValuePaths", spec := "valuePaths", unfollowed := true, recurses := true, loops := true, apart := false }
def ValuePathsSaid : Prop := valuePathsRow.holds Try.pinned (OpenSpec.ofChange valuePathsSpec)

/-- ITS FALSE NEIGHBOUR: 'it returns false'. Refute it at one input. -/
def valuePathsWrong : ChangeSpec := { name := "valuePaths", fn := fun _ => fun
  | [d] => { results := [.lit (.bool false)], args := [d] }
  | _ => none }
def ValuePathsWrongFalsely : Prop := valuePathsRow.holds Try.pinned (OpenSpec.ofChange valuePathsWrong)

/-- 'glossatorlaw08.ValueTwins': WHATEVER THE INPUT: true; the input reads as it did. -/
def valueTwinsSpec : ChangeSpec := { name := "valueTwins", fn := fun _ => fun
  | [d1, d2] => { results := [.lit (.bool true)], args := [d1, d2] }
  | _ => none }
def valueTwinsRow : OpenClaim := { program := "ytdcpilajmbdfbaa", sum := "b89ebe5933beee8e1619356b593df6968c02efed00ec1e5d56da6775afda3c7e", func := "glossator/glossatorlaw08.ValueTwins", spec := "valueTwins", unfollowed := true, recurses := true, loops := true, apart := false }
def ValueTwinsSaid : Prop := valueTwinsRow.holds Try.pinned (OpenSpec.ofChange valueTwinsSpec)

/-- ITS FALSE NEIGHBOUR: 'it returns false'. Refute it at one input. -/
def valueTwinsWrong : ChangeSpec := { name := "valueTwins", fn := fun _ => fun
  | [d1, d2] => { results := [.lit (.bool false)], args := [d1, d2] }
  | _ => none }
def ValueTwinsWrongFalsely : Prop := valueTwinsRow.holds Try.pinned (OpenSpec.ofChange valueTwinsWrong)

/- THE SECOND FORM. 'bulk': how many values and letters a reading holds, each counted each time it is reached (what is shared counts as often as it is met; a slice's spare places count too). A statement '..UptoSaid' is the law's where the arguments, and the package variables that the reading takes, are together of bulk at most 1048576: NARROWER than '..Said'. Prove '..Said' where nothing that the law and all that it calls make is longer than what came in: it says more and counts as full. Else prove '..UptoSaid'. A law counts once. -/
mutual
def uptoBulk {H : Type} : DataW H → Nat
  | .lit (.string bytes) => bytes.length + 1
  | .lit _ => 1
  | .nil => 1
  | .ptr d => uptoBulk d + 1
  | .slice elems spare => uptoBulkAll elems + uptoBulkAll spare + 1
  | .agg parts => uptoBulkAll parts + 1
  | .iface _ d => uptoBulk d + 1
  | .map entries => uptoBulkEntries entries + 1
  | .held _ => 1
def uptoBulkAll {H : Type} : List (DataW H) → Nat
  | [] => 0
  | d :: r => uptoBulk d + uptoBulkAll r
def uptoBulkEntries {H : Type} : List (Lit × DataW H) → Nat
  | [] => 0
  | x :: r => uptoBulkEntry x + uptoBulkEntries r
def uptoBulkEntry {H : Type} : Lit × DataW H → Nat
  | (.string bytes, d) => bytes.length + uptoBulk d + 1
  | (_, d) => uptoBulk d + 1
 end
def uptoSmall : (H : Type) → List (DataW H) → Bool := fun _ ds => decide (uptoBulkAll ds ≤ 1048576)
def OpenSpec.upto (s : _root_.Go.ChangeSpec) : _root_.Go.OpenSpec := { _root_.Go.OpenSpec.ofChange s with cond := some uptoSmall }

/-- 'glossatorlaw08.ValueEquals', WHERE WHAT IT READS IS OF BULK AT MOST 1048576: true; the input reads as it did. -/
def valueEqualsUptoRow : OpenClaim := { program := "ytdcpilajmbdfbaa", sum := "b89ebe5933beee8e1619356b593df6968c02efed00ec1e5d56da6775afda3c7e", func := "glossator/glossatorlaw08.ValueEquals", spec := "valueEquals", unfollowed := true, recurses := true, loops := true, apart := false, narrowed := true }
def ValueEqualsUptoSaid : Prop := valueEqualsUptoRow.holds Try.pinned (OpenSpec.upto valueEqualsSpec)

/-- 'glossatorlaw08.ValueParts', WHERE WHAT IT READS IS OF BULK AT MOST 1048576: true; the input reads as it did. -/
def valuePartsUptoRow : OpenClaim := { program := "ytdcpilajmbdfbaa", sum := "b89ebe5933beee8e1619356b593df6968c02efed00ec1e5d56da6775afda3c7e", func := "glossator/glossatorlaw08.ValueParts", spec := "valueParts", unfollowed := true, recurses := true, loops := true, apart := false, narrowed := true }
def ValuePartsUptoSaid : Prop := valuePartsUptoRow.holds Try.pinned (OpenSpec.upto valuePartsSpec)

/-- 'glossatorlaw08.ValueChecks', WHERE WHAT IT READS IS OF BULK AT MOST 1048576: true; the input reads as it did. -/
def valueChecksUptoRow : OpenClaim := { program := "ytdcpilajmbdfbaa", sum := "b89ebe5933beee8e1619356b593df6968c02efed00ec1e5d56da6775afda3c7e", func := "glossator/glossatorlaw08.ValueChecks", spec := "valueChecks", unfollowed := true, recurses := true, loops := true, apart := false, narrowed := true }
def ValueChecksUptoSaid : Prop := valueChecksUptoRow.holds Try.pinned (OpenSpec.upto valueChecksSpec)

/-- 'glossatorlaw08.ValuePaths', WHERE WHAT IT READS IS OF BULK AT MOST 1048576: true; the input reads as it did. -/
def valuePathsUptoRow : OpenClaim := { program := "ytdcpilajmbdfbaa", sum := "b89ebe5933beee8e1619356b593df6968c02efed00ec1e5d56da6775afda3c7e", func := "glossator/glossatorlaw08.ValuePaths", spec := "valuePaths", unfollowed := true, recurses := true, loops := true, apart := false, narrowed := true }
def ValuePathsUptoSaid : Prop := valuePathsUptoRow.holds Try.pinned (OpenSpec.upto valuePathsSpec)

/-- 'glossatorlaw08.ValueTwins', WHERE WHAT IT READS IS OF BULK AT MOST 1048576: true; the input reads as it did. -/
def valueTwinsUptoRow : OpenClaim := { program := "ytdcpilajmbdfbaa", sum := "b89ebe5933beee8e1619356b593df6968c02efed00ec1e5d56da6775afda3c7e", func := "glossator/glossatorlaw08.ValueTwins", spec := "valueTwins", unfollowed := true, recurses := true, loops := true, apart := false, narrowed := true }
def ValueTwinsUptoSaid : Prop := valueTwinsUptoRow.holds Try.pinned (OpenSpec.upto valueTwinsSpec)

end Rows
end Go.Proofs.Ytdcpilajmbdfbaa
