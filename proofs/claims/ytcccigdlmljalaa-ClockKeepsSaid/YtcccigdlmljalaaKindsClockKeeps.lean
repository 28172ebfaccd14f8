/- The kinds of the arguments of isochronlaw15.ClockKeeps. -/
import Derived.Test.YtcccigdlmljalaaOpen
import Derived.Test.YtcccigdlmljalaaChecked
namespace Go.Proofs.Ytcccigdlmljalaa.clockKeeps
open Go.Proofs.Ytcccigdlmljalaa.Open Go.Proofs.YtcccigdlmljalaaW.PrintWords Go.Proofs.YtcccigdlmljalaaW.PrintLast Go.Proofs.YtcccigdlmljalaaW.PrintMore Go.RowKit
set_option linter.unusedVariables false

/-- What the walk has to show. -/
def Walks : Prop := ∀ (a0 : Int) (w0 : (Lit.int .u32 a0).wf = true) (a1 : Int) (w1 : (Lit.int .u32 a1).wf = true) (a2 : Int) (w2 : (Lit.int .u32 a2).wf = true) (a3 : Int) (w3 : (Lit.int .u16 a3).wf = true) (a4 : Int) (w4 : (Lit.int .u32 a4).wf = true) (w : World) , Calls Try.prog 7 #[.int .u32 a0, .int .u32 a1, .int .u32 a2, .int .u16 a3, .int .u32 a4] w fun e w' => e = .returned (.bool true) ∧ Below w.heap.size w w'
end Go.Proofs.Ytcccigdlmljalaa.clockKeeps
