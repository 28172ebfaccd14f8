/- The kinds of the arguments of isochronlaw11.LinkPlays. -/
import Derived.Test.YtdbdaalkmjcifaaOpen
import Derived.Test.YtdbdaalkmjcifaaChecked
import Derived.Test.YtdbdaalkmjcifaaTypes
namespace Go.Proofs.Ytdbdaalkmjcifaa.linkPlays
open Go.Proofs.Ytdbdaalkmjcifaa.Open Go.Proofs.YtdbdaalkmjcifaaW.PrintWords Go.Proofs.YtdbdaalkmjcifaaW.PrintLast Go.Proofs.YtdbdaalkmjcifaaW.PrintMore Go.RowKit Go.Proofs.Ytdbdaalkmjcifaa.Types
set_option linter.unusedVariables false

/-- What the walk has to show. -/
def Walks : Prop := ∀ (x0 : S28) (w0 : I28 x0) (a1 : Int) (w1 : (Lit.int .i64 a1).wf = true) (A2 : Option Addr) (c2 : Nat) (l2 : List (S60)) (hc2 : l2.length ≤ c2) (w2 : ∀ y ∈ l2, I60 y) (y2 : l2.length * 80 ≤ 140737488351232) (w : World) (hr2 : Kd.C k60 w A2 l2.length l2), Calls Try.prog 8 #[.agg #[.int .i64 x0.f0, .int .i64 x0.f1, .int .i64 x0.f2, .bool x0.f3], .int .i64 a1, .slice A2 l2.length c2] w fun e w' => e = .returned (.bool true) ∧ Below w.heap.size w w'
end Go.Proofs.Ytdbdaalkmjcifaa.linkPlays
