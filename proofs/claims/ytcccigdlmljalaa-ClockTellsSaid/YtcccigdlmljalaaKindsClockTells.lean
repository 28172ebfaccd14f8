/- The kinds of the arguments of isochronlaw15.ClockTells. -/
import Derived.Test.YtcccigdlmljalaaOpen
import Derived.Test.YtcccigdlmljalaaChecked
namespace Go.Proofs.Ytcccigdlmljalaa.clockTells
open Go.Proofs.Ytcccigdlmljalaa.Open Go.Proofs.YtcccigdlmljalaaW.PrintWords Go.Proofs.YtcccigdlmljalaaW.PrintLast Go.Proofs.YtcccigdlmljalaaW.PrintMore Go.RowKit
set_option linter.unusedVariables false

/-- What the walk has to show. -/
def Walks : Prop := ∀ (a0 : Int) (w0 : (Lit.int .u8 a0).wf = true) (a1 : Int) (w1 : (Lit.int .i64 a1).wf = true) (a2 : Int) (w2 : (Lit.int .i64 a2).wf = true) (a3 : Int) (w3 : (Lit.int .i64 a3).wf = true) (w : World) , Calls Try.prog 5 #[.int .u8 a0, .int .i64 a1, .int .i64 a2, .int .i64 a3] w fun e w' => e = .returned (.bool true) ∧ Below w.heap.size w w'
end Go.Proofs.Ytcccigdlmljalaa.clockTells
