/- The kinds of the arguments of isochronlaw08.LadderPlays. -/
import Derived.Test.YtkhdghlgkljdgaaOpen
import Derived.Test.YtkhdghlgkljdgaaChecked
import Derived.Test.YtkhdghlgkljdgaaTypes
namespace Go.Proofs.Ytkhdghlgkljdgaa.ladderPlays
open Go.Proofs.Ytkhdghlgkljdgaa.Open Go.Proofs.YtkhdghlgkljdgaaW.PrintWords Go.Proofs.YtkhdghlgkljdgaaW.PrintLast Go.Proofs.YtkhdghlgkljdgaaW.PrintMore Go.RowKit Go.Proofs.Ytkhdghlgkljdgaa.Types
set_option linter.unusedVariables false

/-- What the walk has to show. -/
def Walks : Prop := ∀ (a0 : Int) (w0 : (Lit.int .i64 a0).wf = true) (A1 : Option Addr) (c1 : Nat) (l1 : List (S55)) (hc1 : l1.length ≤ c1) (w1 : ∀ y ∈ l1, I55 y) (y1 : l1.length * 64 ≤ 140737488351232) (w : World) (hr1 : Kd.C k55 w A1 l1.length l1), Calls Try.prog 7 #[.int .i64 a0, .slice A1 l1.length c1] w fun e w' => e = .returned (.bool true) ∧ Below w.heap.size w w'
end Go.Proofs.Ytkhdghlgkljdgaa.ladderPlays
