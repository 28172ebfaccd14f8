/- The kinds of the arguments of isochronlaw11.LinkRoom. -/
import Derived.Test.YtdbdaalkmjcifaaOpen
import Derived.Test.YtdbdaalkmjcifaaChecked
import Derived.Test.YtdbdaalkmjcifaaTypes
namespace Go.Proofs.Ytdbdaalkmjcifaa.linkRoom
open Go.Proofs.Ytdbdaalkmjcifaa.Open Go.Proofs.YtdbdaalkmjcifaaW.PrintWords Go.Proofs.YtdbdaalkmjcifaaW.PrintLast Go.Proofs.YtdbdaalkmjcifaaW.PrintMore Go.RowKit Go.Proofs.Ytdbdaalkmjcifaa.Types
set_option linter.unusedVariables false

/-- What the walk has to show. -/
def Walks : Prop := ∀ (a0 : Int) (w0 : (Lit.int .u8 a0).wf = true) (A1 : Option Addr) (c1 : Nat) (l1 : List (Bool)) (hc1 : l1.length ≤ c1) (w1 : ∀ y ∈ l1, True) (y1 : l1.length * 1 ≤ 140737488351232) (w : World) (hr1 : Kd.C Kd.bool w A1 l1.length l1), Calls Try.prog 3 #[.int .u8 a0, .slice A1 l1.length c1] w fun e w' => e = .returned (.bool true) ∧ Below w.heap.size w w'
end Go.Proofs.Ytdbdaalkmjcifaa.linkRoom
