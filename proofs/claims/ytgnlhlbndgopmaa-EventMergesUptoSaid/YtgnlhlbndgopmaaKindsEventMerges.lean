/- The kinds of the arguments of isochronlaw02.EventMerges. -/
import Derived.Test.YtgnlhlbndgopmaaOpen
import Derived.Test.YtgnlhlbndgopmaaChecked
import Derived.Test.YtgnlhlbndgopmaaTypes
namespace Go.Proofs.Ytgnlhlbndgopmaa.eventMerges
open Go.Proofs.Ytgnlhlbndgopmaa.Open Go.Proofs.YtgnlhlbndgopmaaW.PrintWords Go.Proofs.YtgnlhlbndgopmaaW.PrintLast Go.Proofs.YtgnlhlbndgopmaaW.PrintMore Go.RowKit Go.Proofs.Ytgnlhlbndgopmaa.Types
set_option linter.unusedVariables false

/-- What the walk has to show. -/
def Walks : Prop := ∀ (A0 : Option Addr) (c0 : Nat) (l0 : List (S29)) (hc0 : l0.length ≤ c0) (w0 : ∀ y ∈ l0, I29 y) (y0 : l0.length * 56 ≤ 140737488351232) (A1 : Option Addr) (c1 : Nat) (l1 : List (S29)) (hc1 : l1.length ≤ c1) (w1 : ∀ y ∈ l1, I29 y) (y1 : l1.length * 56 ≤ 140737488351232) (w : World) (hr0 : Kd.C k29 w A0 l0.length l0) (hr1 : Kd.C k29 w A1 l1.length l1), Calls Try.prog 11 #[.slice A0 l0.length c0, .slice A1 l1.length c1] w fun e w' => e = .returned (.bool true) ∧ Below w.heap.size w w'
end Go.Proofs.Ytgnlhlbndgopmaa.eventMerges
