/- The kinds of the arguments of isochronlaw06.HeapPlays. -/
import Derived.Test.YtipgigbnfdgfmaaOpen
import Derived.Test.YtipgigbnfdgfmaaChecked
import Derived.Test.YtipgigbnfdgfmaaTypes
namespace Go.Proofs.Ytipgigbnfdgfmaa.heapPlays
open Go.Proofs.Ytipgigbnfdgfmaa.Open Go.Proofs.YtipgigbnfdgfmaaW.PrintWords Go.Proofs.YtipgigbnfdgfmaaW.PrintLast Go.Proofs.YtipgigbnfdgfmaaW.PrintMore Go.RowKit Go.Proofs.Ytipgigbnfdgfmaa.Types
set_option linter.unusedVariables false

/-- What the walk has to show. -/
def Walks : Prop := ∀ (A0 : Option Addr) (c0 : Nat) (l0 : List (S52)) (hc0 : l0.length ≤ c0) (w0 : ∀ y ∈ l0, I52 y) (y0 : l0.length * 64 ≤ 140737488351232) (w : World) (hr0 : Kd.C k52 w A0 l0.length l0), Calls Try.prog 7 #[.slice A0 l0.length c0] w fun e w' => e = .returned (.bool true) ∧ Below w.heap.size w w'
end Go.Proofs.Ytipgigbnfdgfmaa.heapPlays
