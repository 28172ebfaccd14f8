/- The walk of ClockTells, put together. -/
import Derived.Test.YtcccigdlmljalaaClockTells
namespace Go.Proofs.Ytcccigdlmljalaa.clockTells
open Go.RowKit Go.Deep Go.Proofs.Ytcccigdlmljalaa.Heap Go.Proofs.Ytcccigdlmljalaa.Clock Go.Proofs.YtcccigdlmljalaaW.PrintWords Go.Proofs.YtcccigdlmljalaaW.PrintLast Go.Proofs.YtcccigdlmljalaaW.PrintMore
set_option linter.unusedVariables false
set_option linter.unusedSimpArgs false
theorem err_bool (n : Nat) (i t : Int) : (errOf n i t == 0) = (decide (0 ≤ i) && decide (i < n) && decide (0 ≤ t) && decide (t ≤ 4611686018427387904)) := by
  rw [err_of]
  by_cases h1 : 0 ≤ i <;> by_cases h2 : i < n <;> by_cases h3 : 0 ≤ t <;> by_cases h4 : t ≤ 4611686018427387904 <;> simp [h1, h2, h3, h4]
theorem err_may (n : Nat) (i t : Int) : (errOf n i t == 0) = may n i t := by
  unfold errOf
  cases may n i t <;> rfl
theorem walk (a0 : Int) (w0 : (Lit.int .u8 a0).wf = true) (a1 : Int) (w1 : (Lit.int .i64 a1).wf = true) (a2 : Int) (w2 : (Lit.int .i64 a2).wf = true) (a3 : Int) (w3 : (Lit.int .i64 a3).wf = true) (w : World) :
    Calls Try.prog 5 #[.int .u8 a0, .int .i64 a1, .int .i64 a2, .int .i64 a3] w fun e w' => e = .returned (.bool true) ∧ Below w.heap.size w w' := by
  obtain ⟨h0, h1⟩ := b8 w0
  obtain ⟨M, hM⟩ := Int.eq_ofNat_of_zero_le (show 0 ≤ 1 + a0 % 20 by omega)
  refine core M (by omega) (by omega) a0 hM h0 h1 a1 a2 a3 w _ _ _ rfl rfl rfl _ _ _ _ _ _ rfl rfl rfl rfl rfl rfl _ rfl _ rfl _ rfl (err_bool _ _ _) (err_bool _ _ _) ?_
  rw [last, err_may, err_may]
  cases may M a1 a2 <;> cases may M a1 a3 <;> rfl
end Go.Proofs.Ytcccigdlmljalaa.clockTells
