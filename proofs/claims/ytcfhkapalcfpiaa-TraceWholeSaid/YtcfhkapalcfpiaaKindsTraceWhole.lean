/- The kinds of the arguments of isochronlaw20.TraceWhole. -/
import Derived.Test.YtcfhkapalcfpiaaOpen
import Derived.Test.YtcfhkapalcfpiaaChecked
import Derived.Test.YtcfhkapalcfpiaaTypes
namespace Go.Proofs.Ytcfhkapalcfpiaa.traceWhole
open Go.Proofs.Ytcfhkapalcfpiaa.Open Go.Proofs.YtcfhkapalcfpiaaW.PrintWords Go.Proofs.YtcfhkapalcfpiaaW.PrintLast Go.Proofs.YtcfhkapalcfpiaaW.PrintMore Go.RowKit Go.Proofs.Ytcfhkapalcfpiaa.Types
set_option linter.unusedVariables false

/-- What the walk has to show. -/
def Walks : Prop := ∀ (A0 : Option Addr) (c0 : Nat) (l0 : List (S29)) (hc0 : l0.length ≤ c0) (w0 : ∀ y ∈ l0, I29 y) (y0 : l0.length * 40 ≤ 140737488351232) (w : World) (hr0 : Kd.C k29 w A0 l0.length l0), Calls Try.prog 10 #[.slice A0 l0.length c0] w fun e w' => e = .returned (.bool true) ∧ Below w.heap.size w w'
end Go.Proofs.Ytcfhkapalcfpiaa.traceWhole
