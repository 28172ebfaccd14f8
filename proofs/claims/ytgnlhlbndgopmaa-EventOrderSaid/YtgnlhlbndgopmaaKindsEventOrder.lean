/- The kinds of the arguments of isochronlaw02.EventOrder. -/
import Derived.Test.YtgnlhlbndgopmaaOpen
import Derived.Test.YtgnlhlbndgopmaaChecked
namespace Go.Proofs.Ytgnlhlbndgopmaa.eventOrder
open Go.Proofs.Ytgnlhlbndgopmaa.Open Go.Proofs.YtgnlhlbndgopmaaW.PrintWords Go.Proofs.YtgnlhlbndgopmaaW.PrintLast Go.Proofs.YtgnlhlbndgopmaaW.PrintMore Go.RowKit
set_option linter.unusedVariables false
structure S23 where
  f0 : Int
  f1 : Int
  f2 : Int
def k23 : Kd S23 := Kd.iso (Kd.pair (Kd.int .i64) (Kd.pair (Kd.int .i64) (Kd.int .i64))) (fun x : S23 => (x.f0, x.f1, x.f2))
theorem k23_open {w : World} {x : S23} {cs : List Value} (h : k23.K w x cs) : cs = [.int .i64 x.f0, .int .i64 x.f1, .int .i64 x.f2] := by
  obtain ⟨_, _, rfl, rfl, ⟨_, _, rfl, rfl, rfl⟩⟩ := h

  exact rfl
def I23 (x : S23) : Prop := (Lit.int .i64 x.f0).wf = true ∧ (Lit.int .i64 x.f1).wf = true ∧ (Lit.int .i64 x.f2).wf = true
theorem opS23 : Opens Try.prog 23 k23 I23 :=
  opens_iso (opens_struct Try.underlying23 (opensAt_cons (opens_int Try.underlying2) rfl (by kernel_rfl) (opensAt_cons (opens_int Try.underlying3) rfl (by kernel_rfl) (opensAt_one (opens_int Try.underlying3) rfl (by kernel_rfl)))) (by kernel_rfl)) (fun x : S23 => (x.f0, x.f1, x.f2)) (fun p => ⟨p.1, p.2.1, p.2.2⟩) (fun _ => rfl) (fun _ h => h)
/-- What the walk has to show. -/
def Walks : Prop := ∀ (x0 : S23) (w0 : I23 x0) (x1 : S23) (w1 : I23 x1) (x2 : S23) (w2 : I23 x2) (w : World) , Calls Try.prog 4 #[.agg #[.int .i64 x0.f0, .int .i64 x0.f1, .int .i64 x0.f2], .agg #[.int .i64 x1.f0, .int .i64 x1.f1, .int .i64 x1.f2], .agg #[.int .i64 x2.f0, .int .i64 x2.f1, .int .i64 x2.f2]] w fun e w' => e = .returned (.bool true) ∧ Below w.heap.size w w'
end Go.Proofs.Ytgnlhlbndgopmaa.eventOrder
