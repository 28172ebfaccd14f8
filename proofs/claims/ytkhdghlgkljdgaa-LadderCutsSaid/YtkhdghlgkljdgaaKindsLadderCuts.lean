/- The kinds of the arguments of isochronlaw08.LadderCuts. -/
import Derived.Test.YtkhdghlgkljdgaaOpen
import Derived.Test.YtkhdghlgkljdgaaChecked
import Derived.Test.YtkhdghlgkljdgaaTypes
namespace Go.Proofs.Ytkhdghlgkljdgaa.ladderCuts
open Go.Proofs.Ytkhdghlgkljdgaa.Open Go.Proofs.YtkhdghlgkljdgaaW.PrintWords Go.Proofs.YtkhdghlgkljdgaaW.PrintLast Go.Proofs.YtkhdghlgkljdgaaW.PrintMore Go.RowKit Go.Proofs.Ytkhdghlgkljdgaa.Types
set_option linter.unusedVariables false

/-- What the walk has to show. -/
def Walks : Prop := ∀ (a0 : Int) (w0 : (Lit.int .i64 a0).wf = true) (A1 : Option Addr) (c1 : Nat) (l1 : List (S25)) (hc1 : l1.length ≤ c1) (w1 : ∀ y ∈ l1, I25 y) (y1 : l1.length * 56 ≤ 140737488351232) (a2 : Int) (w2 : (Lit.int .u8 a2).wf = true) (w : World) (hr1 : Kd.C k25 w A1 l1.length l1), Calls Try.prog 5 #[.int .i64 a0, .slice A1 l1.length c1, .int .u8 a2] w fun e w' => e = .returned (.bool true) ∧ Below w.heap.size w w'
end Go.Proofs.Ytkhdghlgkljdgaa.ladderCuts
