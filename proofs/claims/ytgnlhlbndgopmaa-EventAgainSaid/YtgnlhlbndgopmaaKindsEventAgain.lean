/- The kinds of the arguments of isochronlaw02.EventAgain. -/
import Derived.Test.YtgnlhlbndgopmaaOpen
import Derived.Test.YtgnlhlbndgopmaaChecked
import Derived.Test.YtgnlhlbndgopmaaTypes
namespace Go.Proofs.Ytgnlhlbndgopmaa.eventAgain
open Go.Proofs.Ytgnlhlbndgopmaa.Open Go.Proofs.YtgnlhlbndgopmaaW.PrintWords Go.Proofs.YtgnlhlbndgopmaaW.PrintLast Go.Proofs.YtgnlhlbndgopmaaW.PrintMore Go.RowKit Go.Proofs.Ytgnlhlbndgopmaa.Types
set_option linter.unusedVariables false

/-- What the walk has to show. -/
def Walks : Prop := ∀ (A0 : Option Addr) (c0 : Nat) (l0 : List (S29)) (hc0 : l0.length ≤ c0) (w0 : ∀ y ∈ l0, I29 y) (y0 : l0.length * 56 ≤ 140737488351232) (w : World) (hr0 : Kd.C k29 w A0 l0.length l0), Calls Try.prog 12 #[.slice A0 l0.length c0] w fun e w' => e = .returned (.bool true) ∧ Below w.heap.size w w'
end Go.Proofs.Ytgnlhlbndgopmaa.eventAgain
