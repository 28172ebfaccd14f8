/- The kinds of the arguments of isochronlaw12.ColourPlays. -/
import Derived.Test.YtkchbnmnkcffbaaOpen
import Derived.Test.YtkchbnmnkcffbaaChecked
import Derived.Test.YtkchbnmnkcffbaaTypes
namespace Go.Proofs.Ytkchbnmnkcffbaa.colourPlays
open Go.Proofs.Ytkchbnmnkcffbaa.Open Go.Proofs.YtkchbnmnkcffbaaW.PrintWords Go.Proofs.YtkchbnmnkcffbaaW.PrintLast Go.Proofs.YtkchbnmnkcffbaaW.PrintMore Go.RowKit Go.Proofs.Ytkchbnmnkcffbaa.Types
set_option linter.unusedVariables false

/-- What the walk has to show. -/
def Walks : Prop := ∀ (a0 : Int) (w0 : (Lit.int .i64 a0).wf = true) (A1 : Option Addr) (c1 : Nat) (l1 : List (S27)) (hc1 : l1.length ≤ c1) (w1 : ∀ y ∈ l1, I27 y) (y1 : l1.length * 32 ≤ 140737488351232) (w : World) (hr1 : Kd.C k27 w A1 l1.length l1), Calls Try.prog 6 #[.int .i64 a0, .slice A1 l1.length c1] w fun e w' => e = .returned (.bool true) ∧ Below w.heap.size w w'
end Go.Proofs.Ytkchbnmnkcffbaa.colourPlays
