/- The kinds of the arguments of isochronlaw06.HeapCuts. -/
import Derived.Test.YtipgigbnfdgfmaaOpen
import Derived.Test.YtipgigbnfdgfmaaChecked
import Derived.Test.YtipgigbnfdgfmaaTypes
namespace Go.Proofs.Ytipgigbnfdgfmaa.heapCuts
open Go.Proofs.Ytipgigbnfdgfmaa.Open Go.Proofs.YtipgigbnfdgfmaaW.PrintWords Go.Proofs.YtipgigbnfdgfmaaW.PrintLast Go.Proofs.YtipgigbnfdgfmaaW.PrintMore Go.RowKit Go.Proofs.Ytipgigbnfdgfmaa.Types
set_option linter.unusedVariables false

/-- What the walk has to show. -/
def Walks : Prop := ∀ (A0 : Option Addr) (c0 : Nat) (l0 : List (S25)) (hc0 : l0.length ≤ c0) (w0 : ∀ y ∈ l0, I25 y) (y0 : l0.length * 56 ≤ 140737488351232) (a1 : Int) (w1 : (Lit.int .u8 a1).wf = true) (w : World) (hr0 : Kd.C k25 w A0 l0.length l0), Calls Try.prog 5 #[.slice A0 l0.length c0, .int .u8 a1] w fun e w' => e = .returned (.bool true) ∧ Below w.heap.size w w'
end Go.Proofs.Ytipgigbnfdgfmaa.heapCuts
