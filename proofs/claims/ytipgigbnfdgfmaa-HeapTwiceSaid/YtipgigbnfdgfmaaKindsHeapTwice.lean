/- The kinds of the arguments of isochronlaw06.HeapTwice. -/
import Derived.Test.YtipgigbnfdgfmaaOpen
import Derived.Test.YtipgigbnfdgfmaaChecked
import Derived.Test.YtipgigbnfdgfmaaTypes
namespace Go.Proofs.Ytipgigbnfdgfmaa.heapTwice
open Go.Proofs.Ytipgigbnfdgfmaa.Open Go.Proofs.YtipgigbnfdgfmaaW.PrintWords Go.Proofs.YtipgigbnfdgfmaaW.PrintLast Go.Proofs.YtipgigbnfdgfmaaW.PrintMore Go.RowKit Go.Proofs.Ytipgigbnfdgfmaa.Types
set_option linter.unusedVariables false

/-- What the walk has to show. -/
def Walks : Prop := ∀ (x0 : S25) (w0 : I25 x0) (x1 : S25) (w1 : I25 x1) (A2 : Option Addr) (c2 : Nat) (l2 : List (S25)) (hc2 : l2.length ≤ c2) (w2 : ∀ y ∈ l2, I25 y) (y2 : l2.length * 56 ≤ 140737488351232) (w : World) (hr2 : Kd.C k25 w A2 l2.length l2), Calls Try.prog 3 #[.agg #[.int .i64 x0.f0.f0, .int .i64 x0.f0.f1, .int .i64 x0.f0.f2, .int .i64 x0.f1, .int .i64 x0.f2, .int .i64 x0.f3, .bool x0.f4], .agg #[.int .i64 x1.f0.f0, .int .i64 x1.f0.f1, .int .i64 x1.f0.f2, .int .i64 x1.f1, .int .i64 x1.f2, .int .i64 x1.f3, .bool x1.f4], .slice A2 l2.length c2] w fun e w' => e = .returned (.bool true) ∧ Below w.heap.size w w'
end Go.Proofs.Ytipgigbnfdgfmaa.heapTwice
