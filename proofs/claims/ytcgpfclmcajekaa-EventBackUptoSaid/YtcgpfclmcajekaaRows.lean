/-
  NARROWER THAN 'FOR EVERY INPUT', by the rows' own cells (each row's printed sentence says how): EventEvents: loops · EventCounts: loops · EventBack: loops · EventCuts: loops.
  DERIVED. THE GIVEN ROWS OF THIS SEAT. 7 by the template 'for every input the law returns true; each argument reads behind the call as it read before'; 0 by the template 'total and deterministic' (their statements: YtcgpfclmcajekaaTotals.lean).
  GIVEN WITH THE SEED: the statements are not yours to turn. If you find one false, say at which input.
  Laid BY PROGRAM, IN A SANDBOX (cutbox-rows.mjs): the forced cells as the released guide's own fill.sh prints them over the translation ee740e41c57f3f08… (all of the seat's roots in one cut). By AI agents, Wed Nov 11 2026. No macro, syntax, notation, axiom, sorry.
-/
import Derived.Test.YtcgpfclmcajekaaChecked
import GoSem.Claim
import GoSem.ClaimJoined
import GoSem.ClaimMapViews
import Derived.JoinedTies
import Derived.KernelRfl
namespace Go.Proofs.Ytcgpfclmcajekaa
/- THE CELL 'sum', in the pinned program and in every row, IS THE sha256 OF THE DUMP (.gsa) THAT YtcgpfclmcajekaaProg.lean LOADS. Nothing in Lean hashes anything: it is a label: what it is worth is what the hold of that sum in a sandbox is worth. -/
noncomputable def Try.pinned : Pinned := { name := "ytcgpfclmcajekaa", sum := "ee740e41c57f3f0863998162463edbcb351827effc74a63e2d628e9295e28944", checked := Try.checked }
namespace Rows
def none {H : Type} : Left H := { results := [], args := [] }

/-- 'glossatorlaw09.EventEvents': WHATEVER THE INPUT: true; the input reads as it did. -/
def eventEventsSpec : ChangeSpec := { name := "eventEvents", fn := fun _ => fun
  | [d] => { results := [.lit (.bool true)], args := [d] }
  | _ => none }
def eventEventsRow : OpenClaim := { program := "ytcgpfclmcajekaa", sum := "ee740e41c57f3f0863998162463edbcb351827effc74a63e2d628e9295e28944", func := "glossator/glossatorlaw09.EventEvents", spec := "eventEvents", unfollowed := true, recurses := true, loops := true, apart := false }
def EventEventsSaid : Prop := eventEventsRow.holds Try.pinned (OpenSpec.ofChange eventEventsSpec)

/-- ITS FALSE NEIGHBOUR: 'it returns false'. Refute it at one input. -/
def eventEventsWrong : ChangeSpec := { name := "eventEvents", fn := fun _ => fun
  | [d] => { results := [.lit (.bool false)], args := [d] }
  | _ => none }
def EventEventsWrongFalsely : Prop := eventEventsRow.holds Try.pinned (OpenSpec.ofChange eventEventsWrong)

/-- 'glossatorlaw09.EventCounts': WHATEVER THE INPUT: true; the input reads as it did. -/
def eventCountsSpec : ChangeSpec := { name := "eventCounts", fn := fun _ => fun
  | [d] => { results := [.lit (.bool true)], args := [d] }
  | _ => none }
def eventCountsRow : OpenClaim := { program := "ytcgpfclmcajekaa", sum := "ee740e41c57f3f0863998162463edbcb351827effc74a63e2d628e9295e28944", func := "glossator/glossatorlaw09.EventCounts", spec := "eventCounts", unfollowed := true, recurses := true, loops := true, apart := false }
def EventCountsSaid : Prop := eventCountsRow.holds Try.pinned (OpenSpec.ofChange eventCountsSpec)

/-- ITS FALSE NEIGHBOUR: 'it returns false'. Refute it at one input. -/
def eventCountsWrong : ChangeSpec := { name := "eventCounts", fn := fun _ => fun
  | [d] => { results := [.lit (.bool false)], args := [d] }
  | _ => none }
def EventCountsWrongFalsely : Prop := eventCountsRow.holds Try.pinned (OpenSpec.ofChange eventCountsWrong)

/-- 'glossatorlaw09.EventZero': WHATEVER THE INPUT: true; the input reads as it did. -/
def eventZeroSpec : ChangeSpec := { name := "eventZero", fn := fun _ => fun
  | [d] => { results := [.lit (.bool true)], args := [d] }
  | _ => none }
def eventZeroRow : OpenClaim := { program := "ytcgpfclmcajekaa", sum := "ee740e41c57f3f0863998162463edbcb351827effc74a63e2d628e9295e28944", func := "glossator/glossatorlaw09.EventZero", spec := "eventZero", unfollowed := true, recurses := true, apart := false }
def EventZeroSaid : Prop := eventZeroRow.holds Try.pinned (OpenSpec.ofChange eventZeroSpec)

/-- ITS FALSE NEIGHBOUR: 'it returns false'. Refute it at one input. -/
def eventZeroWrong : ChangeSpec := { name := "eventZero", fn := fun _ => fun
  | [d] => { results := [.lit (.bool false)], args := [d] }
  | _ => none }
def EventZeroWrongFalsely : Prop := eventZeroRow.holds Try.pinned (OpenSpec.ofChange eventZeroWrong)

/-- 'glossatorlaw09.EventTrees': WHATEVER THE INPUT: true; the input reads as it did. -/
def eventTreesSpec : ChangeSpec := { name := "eventTrees", fn := fun _ => fun
  | [d] => { results := [.lit (.bool true)], args := [d] }
  | _ => none }
def eventTreesRow : OpenClaim := { program := "ytcgpfclmcajekaa", sum := "ee740e41c57f3f0863998162463edbcb351827effc74a63e2d628e9295e28944", func := "glossator/glossatorlaw09.EventTrees", spec := "eventTrees", unfollowed := true, recurses := true, apart := false }
def EventTreesSaid : Prop := eventTreesRow.holds Try.pinned (OpenSpec.ofChange eventTreesSpec)

/-- ITS FALSE NEIGHBOUR: 'it returns false'. Refute it at one input. -/
def eventTreesWrong : ChangeSpec := { name := "eventTrees", fn := fun _ => fun
  | [d] => { results := [.lit (.bool false)], args := [d] }
  | _ => none }
def EventTreesWrongFalsely : Prop := eventTreesRow.holds Try.pinned (OpenSpec.ofChange eventTreesWrong)

/-- 'glossatorlaw09.EventBack': WHATEVER THE INPUT: true; the input reads as it did. -/
def eventBackSpec : ChangeSpec := { name := "eventBack", fn := fun _ => fun
  | [d1, d2] => { results := [.lit (.bool true)], args := [d1, d2] }
  | _ => none }
def eventBackRow : OpenClaim := { program := "ytcgpfclmcajekaa", sum := "ee740e41c57f3f0863998162463edbcb351827effc74a63e2d628e9295e28944", func := "glossator/glossatorlaw09.EventBack", spec := "eventBack", unfollowed := true, recurses := true, loops := true, apart := false }
def EventBackSaid : Prop := eventBackRow.holds Try.pinned (OpenSpec.ofChange eventBackSpec)

/-- ITS FALSE NEIGHBOUR: 'it returns false'. Refute it at one input. -/
def eventBackWrong : ChangeSpec := { name := "eventBack", fn := fun _ => fun
  | [d1, d2] => { results := [.lit (.bool false)], args := [d1, d2] }
  | _ => none }
def EventBackWrongFalsely : Prop := eventBackRow.holds Try.pinned (OpenSpec.ofChange eventBackWrong)

/-- 'glossatorlaw09.EventCuts': WHATEVER THE INPUT: true; the input reads as it did. -/
def eventCutsSpec : ChangeSpec := { name := "eventCuts", fn := fun _ => fun
  | [d1, d2, d3] => { results := [.lit (.bool true)], args := [d1, d2, d3] }
  | _ => none }
def eventCutsRow : OpenClaim := { program := "ytcgpfclmcajekaa", sum := "ee740e41c57f3f0863998162463edbcb351827effc74a63e2d628e9295e28944", func := "glossator/glossatorlaw09.EventCuts", spec := "eventCuts", unfollowed := true, recurses := true, loops := true, apart := false }
def EventCutsSaid : Prop := eventCutsRow.holds Try.pinned (OpenSpec.ofChange eventCutsSpec)

/-- ITS FALSE NEIGHBOUR: 'it returns false'. Refute it at one input. -/
def eventCutsWrong : ChangeSpec := { name := "eventCuts", fn := fun _ => fun
  | [d1, d2, d3] => { results := [.lit (.bool false)], args := [d1, d2, d3] }
  | _ => none }
def EventCutsWrongFalsely : Prop := eventCutsRow.holds Try.pinned (OpenSpec.ofChange eventCutsWrong)

/-- 'glossatorlaw09.EventBuilds': WHATEVER THE INPUT: true; the input reads as it did. -/
def eventBuildsSpec : ChangeSpec := { name := "eventBuilds", fn := fun _ => fun
  | [d1, d2] => { results := [.lit (.bool true)], args := [d1, d2] }
  | _ => none }
def eventBuildsRow : OpenClaim := { program := "ytcgpfclmcajekaa", sum := "ee740e41c57f3f0863998162463edbcb351827effc74a63e2d628e9295e28944", func := "glossator/glossatorlaw09.EventBuilds", spec := "eventBuilds", unfollowed := true, recurses := true, apart := false }
def EventBuildsSaid : Prop := eventBuildsRow.holds Try.pinned (OpenSpec.ofChange eventBuildsSpec)

/-- ITS FALSE NEIGHBOUR: 'it returns false'. Refute it at one input. -/
def eventBuildsWrong : ChangeSpec := { name := "eventBuilds", fn := fun _ => fun
  | [d1, d2] => { results := [.lit (.bool false)], args := [d1, d2] }
  | _ => none }
def EventBuildsWrongFalsely : Prop := eventBuildsRow.holds Try.pinned (OpenSpec.ofChange eventBuildsWrong)

/- THE SECOND FORM. 'bulk': how many values and letters a reading holds, each counted each time it is reached (what is shared counts as often as it is met; a slice's spare places count too). A statement '..UptoSaid' is the law's where the arguments, and the package variables that the reading takes, are together of bulk at most 1048576: NARROWER than '..Said'. Prove '..Said' where nothing that the law and all that it calls make is longer than what came in: it says more and counts as full. Else prove '..UptoSaid'. A law counts once. -/
mutual
def uptoBulk {H : Type} : DataW H → Nat
  | .lit (.string bytes) => bytes.length + 1
  | .lit _ => 1
  | .nil => 1
  | .ptr d => uptoBulk d + 1
  | .slice elems spare => uptoBulkAll elems + uptoBulkAll spare + 1
  | .agg parts => uptoBulkAll parts + 1
  | .iface _ d => uptoBulk d + 1
  | .map entries => uptoBulkEntries entries + 1
  | .held _ => 1
def uptoBulkAll {H : Type} : List (DataW H) → Nat
  | [] => 0
  | d :: r => uptoBulk d + uptoBulkAll r
def uptoBulkEntries {H : Type} : List (Lit × DataW H) → Nat
  | [] => 0
  | x :: r => uptoBulkEntry x + uptoBulkEntries r
def uptoBulkEntry {H : Type} : Lit × DataW H → Nat
  | (.string bytes, d) => bytes.length + uptoBulk d + 1
  | (_, d) => uptoBulk d + 1
 end
def uptoSmall : (H : Type) → List (DataW H) → Bool := fun _ ds => decide (uptoBulkAll ds ≤ 1048576)
def OpenSpec.upto (s : _root_.Go.ChangeSpec) : _root_.Go.OpenSpec := { _root_.Go.OpenSpec.ofChange s with cond := some uptoSmall }

/-- 'glossatorlaw09.EventEvents', WHERE WHAT IT READS IS OF BULK AT MOST 1048576: true; the input reads as it did. -/
def eventEventsUptoRow : OpenClaim := { program := "ytcgpfclmcajekaa", sum := "ee740e41c57f3f0863998162463edbcb351827effc74a63e2d628e9295e28944", func := "glossator/glossatorlaw09.EventEvents", spec := "eventEvents", unfollowed := true, recurses := true, loops := true, apart := false, narrowed := true }
def EventEventsUptoSaid : Prop := eventEventsUptoRow.holds Try.pinned (OpenSpec.upto eventEventsSpec)

/-- 'glossatorlaw09.EventCounts', WHERE WHAT IT READS IS OF BULK AT MOST 1048576: true; the input reads as it did. -/
def eventCountsUptoRow : OpenClaim := { program := "ytcgpfclmcajekaa", sum := "ee740e41c57f3f0863998162463edbcb351827effc74a63e2d628e9295e28944", func := "glossator/glossatorlaw09.EventCounts", spec := "eventCounts", unfollowed := true, recurses := true, loops := true, apart := false, narrowed := true }
def EventCountsUptoSaid : Prop := eventCountsUptoRow.holds Try.pinned (OpenSpec.upto eventCountsSpec)

/-- 'glossatorlaw09.EventZero', WHERE WHAT IT READS IS OF BULK AT MOST 1048576: true; the input reads as it did. -/
def eventZeroUptoRow : OpenClaim := { program := "ytcgpfclmcajekaa", sum := "ee740e41c57f3f0863998162463edbcb351827effc74a63e2d628e9295e28944", func := "glossator/glossatorlaw09.EventZero", spec := "eventZero", unfollowed := true, recurses := true, apart := false, narrowed := true }
def EventZeroUptoSaid : Prop := eventZeroUptoRow.holds Try.pinned (OpenSpec.upto eventZeroSpec)

/-- 'glossatorlaw09.EventTrees', WHERE WHAT IT READS IS OF BULK AT MOST 1048576: true; the input reads as it did. -/
def eventTreesUptoRow : OpenClaim := { program := "ytcgpfclmcajekaa", sum := "ee740e41c57f3f0863998162463edbcb351827effc74a63e2d628e9295e28944", func := "glossator/glossatorlaw09.EventTrees", spec := "eventTrees", unfollowed := true, recurses := true, apart := false, narrowed := true }
def EventTreesUptoSaid : Prop := eventTreesUptoRow.holds Try.pinned (OpenSpec.upto eventTreesSpec)

/-- 'glossatorlaw09.EventBack', WHERE WHAT IT READS IS OF BULK AT MOST 1048576: true; the input reads as it did. -/
def eventBackUptoRow : OpenClaim := { program := "ytcgpfclmcajekaa", sum := "ee740e41c57f3f0863998162463edbcb351827effc74a63e2d628e9295e28944", func := "glossator/glossatorlaw09.EventBack", spec := "eventBack", unfollowed := true, recurses := true, loops := true, apart := false, narrowed := true }
def EventBackUptoSaid : Prop := eventBackUptoRow.holds Try.pinned (OpenSpec.upto eventBackSpec)

/-- 'glossatorlaw09.EventCuts', WHERE WHAT IT READS IS OF BULK AT MOST 1048576: true; the input reads as it did. -/
def eventCutsUptoRow : OpenClaim := { program := "ytcgpfclmcajekaa", sum := "ee740e41c57f3f0863998162463edbcb351827effc74a63e2d628e9295e28944", func := "glossator/glossatorlaw09.EventCuts", spec := "eventCuts", unfollowed := true, recurses := true, loops := true, apart := false, narrowed := true }
def EventCutsUptoSaid : Prop := eventCutsUptoRow.holds Try.pinned (OpenSpec.upto eventCutsSpec)

/-- 'glossatorlaw09.EventBuilds', WHERE WHAT IT READS IS OF BULK AT MOST 1048576: true; the input reads as it did. -/
def eventBuildsUptoRow : OpenClaim := { program := "ytcgpfclmcajekaa", sum := "ee740e41c57f3f0863998162463edbcb351827effc74a63e2d628e9295e28944", func := "glossator/glossatorlaw09.EventBuilds", spec := "eventBuilds", unfollowed := true, recurses := true, apart := false, narrowed := true }
def EventBuildsUptoSaid : Prop := eventBuildsUptoRow.holds Try.pinned (OpenSpec.upto eventBuildsSpec)

end Rows
end Go.Proofs.Ytcgpfclmcajekaa
