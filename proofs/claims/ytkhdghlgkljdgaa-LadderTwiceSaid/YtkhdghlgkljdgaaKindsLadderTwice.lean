/- The kinds of the arguments of isochronlaw08.LadderTwice. -/
import Derived.Test.YtkhdghlgkljdgaaOpen
import Derived.Test.YtkhdghlgkljdgaaChecked
import Derived.Test.YtkhdghlgkljdgaaTypes
namespace Go.Proofs.Ytkhdghlgkljdgaa.ladderTwice
open Go.Proofs.Ytkhdghlgkljdgaa.Open Go.Proofs.YtkhdghlgkljdgaaW.PrintWords Go.Proofs.YtkhdghlgkljdgaaW.PrintLast Go.Proofs.YtkhdghlgkljdgaaW.PrintMore Go.RowKit Go.Proofs.Ytkhdghlgkljdgaa.Types
set_option linter.unusedVariables false

/-- What the walk has to show. -/
def Walks : Prop := ∀ (a0 : Int) (w0 : (Lit.int .i64 a0).wf = true) (x1 : S25) (w1 : I25 x1) (x2 : S25) (w2 : I25 x2) (A3 : Option Addr) (c3 : Nat) (l3 : List (S25)) (hc3 : l3.length ≤ c3) (w3 : ∀ y ∈ l3, I25 y) (y3 : l3.length * 56 ≤ 140737488351232) (w : World) (hr3 : Kd.C k25 w A3 l3.length l3), Calls Try.prog 3 #[.int .i64 a0, .agg #[.int .i64 x1.f0.f0, .int .i64 x1.f0.f1, .int .i64 x1.f0.f2, .int .i64 x1.f1, .int .i64 x1.f2, .int .i64 x1.f3, .bool x1.f4], .agg #[.int .i64 x2.f0.f0, .int .i64 x2.f0.f1, .int .i64 x2.f0.f2, .int .i64 x2.f1, .int .i64 x2.f2, .int .i64 x2.f3, .bool x2.f4], .slice A3 l3.length c3] w fun e w' => e = .returned (.bool true) ∧ Below w.heap.size w w'
end Go.Proofs.Ytkhdghlgkljdgaa.ladderTwice
