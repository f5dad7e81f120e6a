/-
  NARROWER THAN 'FOR EVERY INPUT', by the rows' own cells (each row's printed sentence says how): CborEncodes: loops · CborLists: loops.
  DERIVED. THE GIVEN ROWS OF THIS SEAT. 3 by the template 'for every input the law returns true; each argument reads behind the call as it read before'; 0 by the template 'total and deterministic' (their statements: YtlbdjjiblhdpmaaTotals.lean).
  GIVEN WITH THE SEED: the statements are not yours to turn. If you find one false, say at which input.
  Laid BY PROGRAM, IN A SANDBOX (cutbox-rows.mjs): the forced cells as the released guide's own fill.sh prints them over the translation 45678ba7f4d4f7f4… (all of the seat's roots in one cut). By AI agents, Wed Nov 11 2026. No macro, syntax, notation, axiom, sorry.
-/
import Derived.Test.YtlbdjjiblhdpmaaChecked
import GoSem.Claim
import GoSem.ClaimJoined
import GoSem.ClaimMapViews
import Derived.JoinedTies
import Derived.KernelRfl
namespace Go.Proofs.Ytlbdjjiblhdpmaa
/- THE CELL 'sum', in the pinned program and in every row, IS THE sha256 OF THE DUMP (.gsa) THAT YtlbdjjiblhdpmaaProg.lean LOADS. Nothing in Lean hashes anything: it is a label: what it is worth is what the hold of that sum in a sandbox is worth. -/
noncomputable def Try.pinned : Pinned := { name := "ytlbdjjiblhdpmaa", sum := "45678ba7f4d4f7f40bd7fa8e86a2208016b4dcd521947953a8baec95e8196e23", checked := Try.checked }
namespace Rows
def none {H : Type} : Left H := { results := [], args := [] }

/-- 'glossatorlaw11.CborEncodes': WHATEVER THE INPUT: true; the input reads as it did. -/
def cborEncodesSpec : ChangeSpec := { name := "cborEncodes", fn := fun _ => fun
  | [d1, d2] => { results := [.lit (.bool true)], args := [d1, d2] }
  | _ => none }
def cborEncodesRow : OpenClaim := { program := "ytlbdjjiblhdpmaa", sum := "45678ba7f4d4f7f40bd7fa8e86a2208016b4dcd521947953a8baec95e8196e23", func := "glossator/glossatorlaw11.CborEncodes", spec := "cborEncodes", unfollowed := true, recurses := true, loops := true, apart := false }
def CborEncodesSaid : Prop := cborEncodesRow.holds Try.pinned (OpenSpec.ofChange cborEncodesSpec)

/-- ITS FALSE NEIGHBOUR: 'it returns false'. Refute it at one input. -/
def cborEncodesWrong : ChangeSpec := { name := "cborEncodes", fn := fun _ => fun
  | [d1, d2] => { results := [.lit (.bool false)], args := [d1, d2] }
  | _ => none }
def CborEncodesWrongFalsely : Prop := cborEncodesRow.holds Try.pinned (OpenSpec.ofChange cborEncodesWrong)

/-- 'glossatorlaw11.CborFloats': WHATEVER THE INPUT: true; the input reads as it did. -/
def cborFloatsSpec : ChangeSpec := { name := "cborFloats", fn := fun _ => fun
  | [d1, d2] => { results := [.lit (.bool true)], args := [d1, d2] }
  | _ => none }
def cborFloatsRow : OpenClaim := { program := "ytlbdjjiblhdpmaa", sum := "45678ba7f4d4f7f40bd7fa8e86a2208016b4dcd521947953a8baec95e8196e23", func := "glossator/glossatorlaw11.CborFloats", spec := "cborFloats", unfollowed := true, recurses := true, apart := false }
def CborFloatsSaid : Prop := cborFloatsRow.holds Try.pinned (OpenSpec.ofChange cborFloatsSpec)

/-- ITS FALSE NEIGHBOUR: 'it returns false'. Refute it at one input. -/
def cborFloatsWrong : ChangeSpec := { name := "cborFloats", fn := fun _ => fun
  | [d1, d2] => { results := [.lit (.bool false)], args := [d1, d2] }
  | _ => none }
def CborFloatsWrongFalsely : Prop := cborFloatsRow.holds Try.pinned (OpenSpec.ofChange cborFloatsWrong)

/-- 'glossatorlaw11.CborLists': WHATEVER THE INPUT: true; the input reads as it did. -/
def cborListsSpec : ChangeSpec := { name := "cborLists", fn := fun _ => fun
  | [d1, d2, d3] => { results := [.lit (.bool true)], args := [d1, d2, d3] }
  | _ => none }
def cborListsRow : OpenClaim := { program := "ytlbdjjiblhdpmaa", sum := "45678ba7f4d4f7f40bd7fa8e86a2208016b4dcd521947953a8baec95e8196e23", func := "glossator/glossatorlaw11.CborLists", spec := "cborLists", unfollowed := true, recurses := true, loops := true, apart := false }
def CborListsSaid : Prop := cborListsRow.holds Try.pinned (OpenSpec.ofChange cborListsSpec)

/-- ITS FALSE NEIGHBOUR: 'it returns false'. Refute it at one input. -/
def cborListsWrong : ChangeSpec := { name := "cborLists", fn := fun _ => fun
  | [d1, d2, d3] => { results := [.lit (.bool false)], args := [d1, d2, d3] }
  | _ => none }
def CborListsWrongFalsely : Prop := cborListsRow.holds Try.pinned (OpenSpec.ofChange cborListsWrong)

/- THE SECOND FORM. 'bulk': how many values and letters a reading holds, each counted each time it is reached (what is shared counts as often as it is met; a slice's spare places count too). A statement '..UptoSaid' is the law's where the arguments, and the package variables that the reading takes, are together of bulk at most 1048576: NARROWER than '..Said'. Prove '..Said' where nothing that the law and all that it calls make is longer than what came in: it says more and counts as full. Else prove '..UptoSaid'. A law counts once. -/
mutual
def uptoBulk {H : Type} : DataW H → Nat
  | .lit (.string bytes) => bytes.length + 1
  | .lit _ => 1
  | .nil => 1
  | .ptr d => uptoBulk d + 1
  | .slice elems spare => uptoBulkAll elems + uptoBulkAll spare + 1
  | .agg parts => uptoBulkAll parts + 1
  | .iface _ d => uptoBulk d + 1
  | .map entries => uptoBulkEntries entries + 1
  | .held _ => 1
def uptoBulkAll {H : Type} : List (DataW H) → Nat
  | [] => 0
  | d :: r => uptoBulk d + uptoBulkAll r
def uptoBulkEntries {H : Type} : List (Lit × DataW H) → Nat
  | [] => 0
  | x :: r => uptoBulkEntry x + uptoBulkEntries r
def uptoBulkEntry {H : Type} : Lit × DataW H → Nat
  | (.string bytes, d) => bytes.length + uptoBulk d + 1
  | (_, d) => uptoBulk d + 1
 end
def uptoSmall : (H : Type) → List (DataW H) → Bool := fun _ ds => decide (uptoBulkAll ds ≤ 1048576)
def OpenSpec.upto (s : _root_.Go.ChangeSpec) : _root_.Go.OpenSpec := { _root_.Go.OpenSpec.ofChange s with cond := some uptoSmall }

/-- 'glossatorlaw11.CborEncodes', WHERE WHAT IT READS IS OF BULK AT MOST 1048576: true; the input reads as it did. -/
def cborEncodesUptoRow : OpenClaim := { program := "ytlbdjjiblhdpmaa", sum := "45678ba7f4d4f7f40bd7fa8e86a2208016b4dcd521947953a8baec95e8196e23", func := "glossator/glossatorlaw11.CborEncodes", spec := "cborEncodes", unfollowed := true, recurses := true, loops := true, apart := false, narrowed := true }
def CborEncodesUptoSaid : Prop := cborEncodesUptoRow.holds Try.pinned (OpenSpec.upto cborEncodesSpec)

/-- 'glossatorlaw11.CborFloats', WHERE WHAT IT READS IS OF BULK AT MOST 1048576: true; the input reads as it did. -/
def cborFloatsUptoRow : OpenClaim := { program := "ytlbdjjiblhdpmaa", sum := "45678ba7f4d4f7f40bd7fa8e86a2208016b4dcd521947953a8baec95e8196e23", func := "glossator/glossatorlaw11.CborFloats", spec := "cborFloats", unfollowed := true, recurses := true, apart := false, narrowed := true }
def CborFloatsUptoSaid : Prop := cborFloatsUptoRow.holds Try.pinned (OpenSpec.upto cborFloatsSpec)

/-- 'glossatorlaw11.CborLists', WHERE WHAT IT READS IS OF BULK AT MOST 1048576: true; the input reads as it did. -/
def cborListsUptoRow : OpenClaim := { program := "ytlbdjjiblhdpmaa", sum := "45678ba7f4d4f7f40bd7fa8e86a2208016b4dcd521947953a8baec95e8196e23", func := "glossator/glossatorlaw11.CborLists", spec := "cborLists", unfollowed := true, recurses := true, loops := true, apart := false, narrowed := true }
def CborListsUptoSaid : Prop := cborListsUptoRow.holds Try.pinned (OpenSpec.upto cborListsSpec)

end Rows
end Go.Proofs.Ytlbdjjiblhdpmaa
