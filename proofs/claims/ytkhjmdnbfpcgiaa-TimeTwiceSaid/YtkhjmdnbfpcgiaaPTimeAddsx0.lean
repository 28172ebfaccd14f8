-- PRINTED BY print.sh 35421559b90ae4d0a3588c463048766b98c2df88dd9212a6774a882060cdf62d: not written by this session
import Derived.Test.YtkhjmdnbfpcgiaaProg
import Derived.Below
import Derived.Deep.Draws
import Derived.Deep.AppendLies
import Derived.Maps.AppendAt
import Derived.OwnWalk
import Derived.Laws.BytesArg
import Derived.Laws.MakeOwn
import Derived.Laws.OwnMore
import Derived.Deep.OwnRows
import Derived.Tactics
import Derived.Lib.ConvBytes
import Derived.Laws.Slices
import Derived.WalkKit
import Derived.KernelRfl
import Derived.RowKit3
import Derived.Deep.LoopGhost
import Derived.Deep.QuietTactic
import Derived.BigQuiet
import Derived.WideLaws
import Derived.Deep.DeepCutAuto
import Derived.Deep.CutBlock
import Derived.Deep.RegionHeld3
import Derived.Laws.Rows
import Derived.Lib.AppendStr
import Derived.ArgAppend
import Derived.Laws.IdiomCopy
import Derived.OrdersHeld
import Derived.Laws.BitsLemmas
import Derived.RowKit
import Derived.Test.YtkhjmdnbfpcgiaaWWords
import Derived.Test.YtkhjmdnbfpcgiaaWLast
import Derived.Test.YtkhjmdnbfpcgiaaWTab
import Derived.Test.YtkhjmdnbfpcgiaaWFour
import Derived.Test.YtkhjmdnbfpcgiaaWQPut
import Derived.Test.YtkhjmdnbfpcgiaaWApart
import Derived.Test.YtkhjmdnbfpcgiaaWArr
import Derived.Test.YtkhjmdnbfpcgiaaWZeros
import Derived.Test.YtkhjmdnbfpcgiaaWFoot
import Derived.Test.YtkhjmdnbfpcgiaaWKept
import Derived.Test.YtkhjmdnbfpcgiaaWShare
import Derived.Test.YtkhjmdnbfpcgiaaWN
import Derived.Test.YtkhjmdnbfpcgiaaWFootNe
import Derived.Test.YtkhjmdnbfpcgiaaWAt
import Derived.Test.YtkhjmdnbfpcgiaaWEqStruct
import Derived.Test.YtkhjmdnbfpcgiaaWRepsOne
import Derived.Test.YtkhjmdnbfpcgiaaWInv
import Derived.Test.YtkhjmdnbfpcgiaaWInvWords
import Derived.Test.YtkhjmdnbfpcgiaaWGuard
import Derived.Test.YtkhjmdnbfpcgiaaWNEv
import Derived.Test.YtkhjmdnbfpcgiaaWMore
namespace Go.Proofs.Ytkhjmdnbfpcgiaa.PTimeAdds
open Go.RowKit Go.Proofs.YtkhjmdnbfpcgiaaW.PrintWords Go.Proofs.YtkhjmdnbfpcgiaaW.PrintLast Go.Proofs.YtkhjmdnbfpcgiaaW.PrintMore
attribute [local go_sem] max2_int min2_int max_two min_two max_three min_three max_four min_four   -- for this text's walks alone
set_option linter.unusedVariables false
set_option linter.unusedSimpArgs false



def errW : Option Int → Value
  | none => .nilIface
  | some c => .iface 0 (.int .i64 c)
theorem errW_none : errW none = .nilIface := rfl
theorem errW_some (c : Int) : errW (some c) = .iface 0 (.int .i64 c) := rfl

-- the values' own types

end Go.Proofs.Ytkhjmdnbfpcgiaa.PTimeAdds
