/- The kinds of the arguments of isochronlaw11.LinkBack. -/
import Derived.Test.YtdbdaalkmjcifaaOpen
import Derived.Test.YtdbdaalkmjcifaaChecked
import Derived.Test.YtdbdaalkmjcifaaTypes
namespace Go.Proofs.Ytdbdaalkmjcifaa.linkBack
open Go.Proofs.Ytdbdaalkmjcifaa.Open Go.Proofs.YtdbdaalkmjcifaaW.PrintWords Go.Proofs.YtdbdaalkmjcifaaW.PrintLast Go.Proofs.YtdbdaalkmjcifaaW.PrintMore Go.RowKit Go.Proofs.Ytdbdaalkmjcifaa.Types
set_option linter.unusedVariables false

/-- What the walk has to show. -/
def Walks : Prop := ∀ (a0 : Int) (w0 : (Lit.int .u8 a0).wf = true) (a1 : Int) (w1 : (Lit.int .i16 a1).wf = true) (a2 : Int) (w2 : (Lit.int .i8 a2).wf = true) (w : World) , Calls Try.prog 5 #[.int .u8 a0, .int .i16 a1, .int .i8 a2] w fun e w' => e = .returned (.bool true) ∧ Below w.heap.size w w'
end Go.Proofs.Ytdbdaalkmjcifaa.linkBack
