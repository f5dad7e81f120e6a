-- Written by a program of this session out of the kit's print (print.py, its switches or its text changed): not the kit's own print
import Derived.Test.YtmpengjbjhladaaProg
import Derived.Below
import Derived.Deep.Draws
import Derived.Deep.AppendLies
import Derived.Maps.AppendAt
import Derived.OwnWalk
import Derived.Laws.BytesArg
import Derived.Laws.MakeOwn
import Derived.Laws.OwnMore
import Derived.Deep.OwnRows
import Derived.Tactics
import Derived.Lib.ConvBytes
import Derived.Laws.Slices
import Derived.WalkKit
import Derived.KernelRfl
import Derived.RowKit3
import Derived.Deep.LoopGhost
import Derived.Deep.QuietTactic
import Derived.BigQuiet
import Derived.WideLaws
import Derived.Deep.DeepCutAuto
import Derived.Deep.CutBlock
import Derived.Deep.RegionHeld3
import Derived.Laws.Rows
import Derived.Lib.AppendStr
import Derived.ArgAppend
import Derived.Laws.IdiomCopy
import Derived.OrdersHeld
import Derived.Laws.BitsLemmas
import Derived.RowKit
import Derived.Lib.SliceRun
import Derived.Test.YtmpengjbjhladaaWWords
import Derived.Test.YtmpengjbjhladaaWLast
import Derived.Test.YtmpengjbjhladaaWTab
import Derived.Test.YtmpengjbjhladaaWFour
import Derived.Test.YtmpengjbjhladaaWQPut
import Derived.Test.YtmpengjbjhladaaWApart
import Derived.Test.YtmpengjbjhladaaWArr
import Derived.Test.YtmpengjbjhladaaWZeros
import Derived.Test.YtmpengjbjhladaaWFoot
import Derived.Test.YtmpengjbjhladaaWKept
import Derived.Test.YtmpengjbjhladaaWShare
import Derived.Test.YtmpengjbjhladaaWN
import Derived.Test.YtmpengjbjhladaaWFootNe
import Derived.Test.YtmpengjbjhladaaWAt
import Derived.Test.YtmpengjbjhladaaWEqStruct
import Derived.Test.YtmpengjbjhladaaWRepsOne
import Derived.Test.YtmpengjbjhladaaWInv
import Derived.Test.YtmpengjbjhladaaWInvWords
import Derived.Test.YtmpengjbjhladaaWGuard
import Derived.Test.YtmpengjbjhladaaWNEv
import Derived.Test.YtmpengjbjhladaaWMore
namespace Go.Proofs.Ytmpengjbjhladaa.PHeadBack
open Go.RowKit Go.Proofs.YtmpengjbjhladaaW.PrintWords Go.Proofs.YtmpengjbjhladaaW.PrintLast Go.Proofs.YtmpengjbjhladaaW.PrintMore
attribute [local go_sem] max2_int min2_int max_two min_two max_three min_three max_four min_four   -- for this text's walks alone
set_option linter.unusedVariables false
set_option linter.unusedSimpArgs false



def errW : Option Int → Value
  | none => .nilIface
  | some c => .iface 0 (.int .i64 c)
theorem errW_none : errW none = .nilIface := rfl
theorem errW_some (c : Int) : errW (some c) = .iface 0 (.int .i64 c) := rfl

theorem info5 : (Try.prog.info? 5).map (fun i => (i.zero, i.size, i.bytes)) = some (some (.int .u8 0), 1, 1) := by kernel_rfl
-- the values' own types

end Go.Proofs.Ytmpengjbjhladaa.PHeadBack
