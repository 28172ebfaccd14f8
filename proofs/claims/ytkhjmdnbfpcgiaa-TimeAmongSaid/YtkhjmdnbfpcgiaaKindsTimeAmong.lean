/- The kinds of the arguments of isochronlaw01.TimeAmong, and what is to be shown of it without Go: 'Goal'. -/
import Derived.Test.YtkhjmdnbfpcgiaaPTimeAmongx1
import Derived.Test.YtkhjmdnbfpcgiaaOpen
namespace Go.Proofs.Ytkhjmdnbfpcgiaa.timeAmong
open Go.Proofs.Ytkhjmdnbfpcgiaa.Open Go.Proofs.Ytkhjmdnbfpcgiaa.PTimeAmong Go.Proofs.YtkhjmdnbfpcgiaaW.PrintWords Go.Proofs.YtkhjmdnbfpcgiaaW.PrintLast Go.Proofs.YtkhjmdnbfpcgiaaW.PrintMore Go.RowKit
set_option linter.unusedVariables false

def Goal : Prop := ∀ (l0 : List Int) (w0 : ∀ y ∈ l0, (Lit.int .i64 y).wf = true) (y0 : l0.length * 8 ≤ 140737488351232), ∃ k, isochronlaw01_TimeAmong.f k l0 = some true
end Go.Proofs.Ytkhjmdnbfpcgiaa.timeAmong
