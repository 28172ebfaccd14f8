/- The kinds of the arguments of isochronlaw11.LinkZero. -/
import Derived.Test.YtdbdaalkmjcifaaOpen
import Derived.Test.YtdbdaalkmjcifaaChecked
import Derived.Test.YtdbdaalkmjcifaaTypes
namespace Go.Proofs.Ytdbdaalkmjcifaa.linkZero
open Go.Proofs.Ytdbdaalkmjcifaa.Open Go.Proofs.YtdbdaalkmjcifaaW.PrintWords Go.Proofs.YtdbdaalkmjcifaaW.PrintLast Go.Proofs.YtdbdaalkmjcifaaW.PrintMore Go.RowKit Go.Proofs.Ytdbdaalkmjcifaa.Types
set_option linter.unusedVariables false

/-- What the walk has to show. -/
def Walks : Prop := ∀ (x0 : S35) (w0 : I35 x0) (a1 : Int) (w1 : (Lit.int .i64 a1).wf = true) (w : World) , Calls Try.prog 7 #[.agg #[.int .i64 x0.f0.f0.f0, .int .i64 x0.f0.f0.f1, .int .i64 x0.f0.f0.f2, .int .i64 x0.f0.f1, .int .i64 x0.f0.f2, .int .i64 x0.f0.f3, .bool x0.f0.f4, .int .i64 x0.f1], .int .i64 a1] w fun e w' => e = .returned (.bool true) ∧ Below w.heap.size w w'
end Go.Proofs.Ytdbdaalkmjcifaa.linkZero
