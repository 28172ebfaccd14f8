/- The kinds of the arguments of isochronlaw12.ColourEnds. -/
import Derived.Test.YtkchbnmnkcffbaaOpen
import Derived.Test.YtkchbnmnkcffbaaChecked
import Derived.Test.YtkchbnmnkcffbaaTypes
namespace Go.Proofs.Ytkchbnmnkcffbaa.colourEnds
open Go.Proofs.Ytkchbnmnkcffbaa.Open Go.Proofs.YtkchbnmnkcffbaaW.PrintWords Go.Proofs.YtkchbnmnkcffbaaW.PrintLast Go.Proofs.YtkchbnmnkcffbaaW.PrintMore Go.RowKit Go.Proofs.Ytkchbnmnkcffbaa.Types
set_option linter.unusedVariables false

/-- What the walk has to show. -/
def Walks : Prop := ∀ (A0 : Option Addr) (c0 : Nat) (l0 : List (Int)) (hc0 : l0.length ≤ c0) (w0 : ∀ y ∈ l0, (Lit.int .i64 y).wf = true) (y0 : l0.length * 8 ≤ 140737488351232) (w : World) (hr0 : Kd.C (Kd.int .i64) w A0 l0.length l0), Calls Try.prog 4 #[.slice A0 l0.length c0] w fun e w' => e = .returned (.bool true) ∧ Below w.heap.size w w'
end Go.Proofs.Ytkchbnmnkcffbaa.colourEnds
