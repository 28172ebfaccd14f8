/- The kinds of the arguments of isochronlaw08.LadderZero. -/
import Derived.Test.YtkhdghlgkljdgaaOpen
import Derived.Test.YtkhdghlgkljdgaaChecked
import Derived.Test.YtkhdghlgkljdgaaTypes
namespace Go.Proofs.Ytkhdghlgkljdgaa.ladderZero
open Go.Proofs.Ytkhdghlgkljdgaa.Open Go.Proofs.YtkhdghlgkljdgaaW.PrintWords Go.Proofs.YtkhdghlgkljdgaaW.PrintLast Go.Proofs.YtkhdghlgkljdgaaW.PrintMore Go.RowKit Go.Proofs.Ytkhdghlgkljdgaa.Types
set_option linter.unusedVariables false

/-- What the walk has to show. -/
def Walks : Prop := ∀ (x0 : S25) (w0 : I25 x0) (w : World) , Calls Try.prog 6 #[.agg #[.int .i64 x0.f0.f0, .int .i64 x0.f0.f1, .int .i64 x0.f0.f2, .int .i64 x0.f1, .int .i64 x0.f2, .int .i64 x0.f3, .bool x0.f4]] w fun e w' => e = .returned (.bool true) ∧ Below w.heap.size w w'
end Go.Proofs.Ytkhdghlgkljdgaa.ladderZero
