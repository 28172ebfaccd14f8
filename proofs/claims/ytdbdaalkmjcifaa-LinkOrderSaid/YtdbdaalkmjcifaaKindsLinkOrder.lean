/- The kinds of the arguments of isochronlaw11.LinkOrder. -/
import Derived.Test.YtdbdaalkmjcifaaOpen
import Derived.Test.YtdbdaalkmjcifaaChecked
import Derived.Test.YtdbdaalkmjcifaaTypes
namespace Go.Proofs.Ytdbdaalkmjcifaa.linkOrder
open Go.Proofs.Ytdbdaalkmjcifaa.Open Go.Proofs.YtdbdaalkmjcifaaW.PrintWords Go.Proofs.YtdbdaalkmjcifaaW.PrintLast Go.Proofs.YtdbdaalkmjcifaaW.PrintMore Go.RowKit Go.Proofs.Ytdbdaalkmjcifaa.Types
set_option linter.unusedVariables false

/-- What the walk has to show. -/
def Walks : Prop := ∀ (a0 : Bool) (a1 : Int) (w1 : (Lit.int .u8 a1).wf = true) (A2 : Option Addr) (c2 : Nat) (l2 : List (Int)) (hc2 : l2.length ≤ c2) (w2 : ∀ y ∈ l2, (Lit.int .i64 y).wf = true) (y2 : l2.length * 8 ≤ 140737488351232) (w : World) (hr2 : Kd.C (Kd.int .i64) w A2 l2.length l2), Calls Try.prog 6 #[.bool a0, .int .u8 a1, .slice A2 l2.length c2] w fun e w' => e = .returned (.bool true) ∧ Below w.heap.size w w'
end Go.Proofs.Ytdbdaalkmjcifaa.linkOrder
