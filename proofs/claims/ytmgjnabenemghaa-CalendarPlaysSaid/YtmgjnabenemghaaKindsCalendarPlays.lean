/- The kinds of the arguments of isochronlaw07.CalendarPlays. -/
import Derived.Test.YtmgjnabenemghaaOpen
import Derived.Test.YtmgjnabenemghaaChecked
import Derived.Test.YtmgjnabenemghaaTypes
namespace Go.Proofs.Ytmgjnabenemghaa.calendarPlays
open Go.Proofs.Ytmgjnabenemghaa.Open Go.Proofs.YtmgjnabenemghaaW.PrintWords Go.Proofs.YtmgjnabenemghaaW.PrintLast Go.Proofs.YtmgjnabenemghaaW.PrintMore Go.RowKit Go.Proofs.Ytmgjnabenemghaa.Types
set_option linter.unusedVariables false

/-- What the walk has to show. -/
def Walks : Prop := ∀ (a0 : Int) (w0 : (Lit.int .i64 a0).wf = true) (A1 : Option Addr) (c1 : Nat) (l1 : List (S53)) (hc1 : l1.length ≤ c1) (w1 : ∀ y ∈ l1, I53 y) (y1 : l1.length * 64 ≤ 140737488351232) (w : World) (hr1 : Kd.C k53 w A1 l1.length l1), Calls Try.prog 7 #[.int .i64 a0, .slice A1 l1.length c1] w fun e w' => e = .returned (.bool true) ∧ Below w.heap.size w w'
end Go.Proofs.Ytmgjnabenemghaa.calendarPlays
