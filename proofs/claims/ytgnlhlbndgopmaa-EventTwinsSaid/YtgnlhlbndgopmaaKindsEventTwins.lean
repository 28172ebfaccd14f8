/- The kinds of the arguments of isochronlaw02.EventTwins. -/
import Derived.Test.YtgnlhlbndgopmaaOpen
import Derived.Test.YtgnlhlbndgopmaaChecked
namespace Go.Proofs.Ytgnlhlbndgopmaa.eventTwins
open Go.Proofs.Ytgnlhlbndgopmaa.Open Go.Proofs.YtgnlhlbndgopmaaW.PrintWords Go.Proofs.YtgnlhlbndgopmaaW.PrintLast Go.Proofs.YtgnlhlbndgopmaaW.PrintMore Go.RowKit
set_option linter.unusedVariables false
structure S23 where
  f0 : Int
  f1 : Int
  f2 : Int
def k23 : Kd S23 := Kd.iso (Kd.pair (Kd.int .i64) (Kd.pair (Kd.int .i64) (Kd.int .i64))) (fun x : S23 => (x.f0, x.f1, x.f2))
theorem k23_open {w : World} {x : S23} {cs : List Value} (h : k23.K w x cs) : cs = [.int .i64 x.f0, .int .i64 x.f1, .int .i64 x.f2] := by
  obtain ⟨_, _, rfl, rfl, ⟨_, _, rfl, rfl, rfl⟩⟩ := h

  exact rfl
def I23 (x : S23) : Prop := (Lit.int .i64 x.f0).wf = true ∧ (Lit.int .i64 x.f1).wf = true ∧ (Lit.int .i64 x.f2).wf = true
theorem opS23 : Opens Try.prog 23 k23 I23 :=
  opens_iso (opens_struct Try.underlying23 (opensAt_cons (opens_int Try.underlying2) rfl (by kernel_rfl) (opensAt_cons (opens_int Try.underlying3) rfl (by kernel_rfl) (opensAt_one (opens_int Try.underlying3) rfl (by kernel_rfl)))) (by kernel_rfl)) (fun x : S23 => (x.f0, x.f1, x.f2)) (fun p => ⟨p.1, p.2.1, p.2.2⟩) (fun _ => rfl) (fun _ h => h)
structure S29 where
  f0 : S23
  f1 : Int
  f2 : Int
  f3 : Int
  f4 : Bool
def k29 : Kd S29 := Kd.iso (Kd.pair k23 (Kd.pair (Kd.int .i64) (Kd.pair (Kd.int .i64) (Kd.pair (Kd.int .i64) Kd.bool)))) (fun x : S29 => (x.f0, x.f1, x.f2, x.f3, x.f4))
theorem k29_open {w : World} {x : S29} {cs : List Value} (h : k29.K w x cs) : cs = [.int .i64 x.f0.f0, .int .i64 x.f0.f1, .int .i64 x.f0.f2, .int .i64 x.f1, .int .i64 x.f2, .int .i64 x.f3, .bool x.f4] := by
  obtain ⟨_, _, rfl, s0, ⟨_, _, rfl, rfl, ⟨_, _, rfl, rfl, ⟨_, _, rfl, rfl, rfl⟩⟩⟩⟩ := h
  obtain rfl := k23_open s0
  exact rfl
def I29 (x : S29) : Prop := I23 x.f0 ∧ (Lit.int .i64 x.f1).wf = true ∧ (Lit.int .i64 x.f2).wf = true ∧ (Lit.int .i64 x.f3).wf = true ∧ True
theorem opS29 : Opens Try.prog 29 k29 I29 :=
  opens_iso (opens_struct Try.underlying29 (opensAt_cons opS23 rfl (by kernel_rfl) (opensAt_cons (opens_int Try.underlying3) rfl (by kernel_rfl) (opensAt_cons (opens_int Try.underlying2) rfl (by kernel_rfl) (opensAt_cons (opens_int Try.underlying3) rfl (by kernel_rfl) (opensAt_one (opens_bool Try.underlying4) rfl (by kernel_rfl)))))) (by kernel_rfl)) (fun x : S29 => (x.f0, x.f1, x.f2, x.f3, x.f4)) (fun p => ⟨p.1, p.2.1, p.2.2.1, p.2.2.2.1, p.2.2.2.2⟩) (fun _ => rfl) (fun _ h => h)
/-- What the walk has to show. -/
def Walks : Prop := ∀ (x0 : S29) (w0 : I29 x0) (w : World) , Calls Try.prog 8 #[.agg #[.int .i64 x0.f0.f0, .int .i64 x0.f0.f1, .int .i64 x0.f0.f2, .int .i64 x0.f1, .int .i64 x0.f2, .int .i64 x0.f3, .bool x0.f4]] w fun e w' => e = .returned (.bool true) ∧ Below w.heap.size w w'
end Go.Proofs.Ytgnlhlbndgopmaa.eventTwins
