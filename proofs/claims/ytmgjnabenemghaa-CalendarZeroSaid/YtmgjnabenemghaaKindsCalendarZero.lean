/- The kinds of the arguments of isochronlaw07.CalendarZero. -/
import Derived.Test.YtmgjnabenemghaaOpen
import Derived.Test.YtmgjnabenemghaaChecked
import Derived.Test.YtmgjnabenemghaaTypes
namespace Go.Proofs.Ytmgjnabenemghaa.calendarZero
open Go.Proofs.Ytmgjnabenemghaa.Open Go.Proofs.YtmgjnabenemghaaW.PrintWords Go.Proofs.YtmgjnabenemghaaW.PrintLast Go.Proofs.YtmgjnabenemghaaW.PrintMore Go.RowKit Go.Proofs.Ytmgjnabenemghaa.Types
set_option linter.unusedVariables false

/-- What the walk has to show. -/
def Walks : Prop := ∀ (x0 : S25) (w0 : I25 x0) (w : World) , Calls Try.prog 6 #[.agg #[.int .i64 x0.f0.f0, .int .i64 x0.f0.f1, .int .i64 x0.f0.f2, .int .i64 x0.f1, .int .i64 x0.f2, .int .i64 x0.f3, .bool x0.f4]] w fun e w' => e = .returned (.bool true) ∧ Below w.heap.size w w'
end Go.Proofs.Ytmgjnabenemghaa.calendarZero
