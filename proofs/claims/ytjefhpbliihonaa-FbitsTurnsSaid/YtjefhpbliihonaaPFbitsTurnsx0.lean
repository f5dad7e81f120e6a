-- Written by a program of this session out of the kit's print (print.py, its switches or its text changed): not the kit's own print
import Derived.Test.YtjefhpbliihonaaProg
import Derived.Below
import Derived.Deep.Draws
import Derived.Deep.AppendLies
import Derived.Maps.AppendAt
import Derived.OwnWalk
import Derived.Laws.BytesArg
import Derived.Laws.MakeOwn
import Derived.Laws.OwnMore
import Derived.Deep.OwnRows
import Derived.Tactics
import Derived.Lib.ConvBytes
import Derived.Laws.Slices
import Derived.WalkKit
import Derived.KernelRfl
import Derived.RowKit3
import Derived.Deep.LoopGhost
import Derived.Deep.QuietTactic
import Derived.BigQuiet
import Derived.WideLaws
import Derived.Deep.DeepCutAuto
import Derived.Deep.CutBlock
import Derived.Deep.RegionHeld3
import Derived.Laws.Rows
import Derived.Lib.AppendStr
import Derived.ArgAppend
import Derived.Laws.IdiomCopy
import Derived.OrdersHeld
import Derived.Laws.BitsLemmas
import Derived.RowKit
import Derived.Lib.SliceRun
import Derived.Test.YtjefhpbliihonaaWWords
import Derived.Test.YtjefhpbliihonaaWLast
import Derived.Test.YtjefhpbliihonaaWTab
import Derived.Test.YtjefhpbliihonaaWFour
import Derived.Test.YtjefhpbliihonaaWQPut
import Derived.Test.YtjefhpbliihonaaWApart
import Derived.Test.YtjefhpbliihonaaWArr
import Derived.Test.YtjefhpbliihonaaWZeros
import Derived.Test.YtjefhpbliihonaaWFoot
import Derived.Test.YtjefhpbliihonaaWKept
import Derived.Test.YtjefhpbliihonaaWShare
import Derived.Test.YtjefhpbliihonaaWN
import Derived.Test.YtjefhpbliihonaaWFootNe
import Derived.Test.YtjefhpbliihonaaWAt
import Derived.Test.YtjefhpbliihonaaWEqStruct
import Derived.Test.YtjefhpbliihonaaWRepsOne
import Derived.Test.YtjefhpbliihonaaWInv
import Derived.Test.YtjefhpbliihonaaWInvWords
import Derived.Test.YtjefhpbliihonaaWGuard
import Derived.Test.YtjefhpbliihonaaWNEv
import Derived.Test.YtjefhpbliihonaaWMore
namespace Go.Proofs.Ytjefhpbliihonaa.PFbitsTurns
open Go.RowKit Go.Proofs.YtjefhpbliihonaaW.PrintWords Go.Proofs.YtjefhpbliihonaaW.PrintLast Go.Proofs.YtjefhpbliihonaaW.PrintMore
attribute [local go_sem] max2_int min2_int max_two min_two max_three min_three max_four min_four   -- for this text's walks alone
set_option linter.unusedVariables false
set_option linter.unusedSimpArgs false



def errW : Option Int → Value
  | none => .nilIface
  | some c => .iface 0 (.int .i64 c)
theorem errW_none : errW none = .nilIface := rfl
theorem errW_some (c : Int) : errW (some c) = .iface 0 (.int .i64 c) := rfl

-- the values' own types

end Go.Proofs.Ytjefhpbliihonaa.PFbitsTurns
