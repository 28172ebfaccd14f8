/- PROVED: what vtime.Steps answers is what the reference answers (isochronlaw01.TimeSteps), for every input. Condition: none beside the statement's own. -/
import Derived.Test.YtkhjmdnbfpcgiaaPTimeStepsx1
namespace Go.Proofs.Ytkhjmdnbfpcgiaa.Pure
open Go.RowKit Go.Proofs.Ytkhjmdnbfpcgiaa.PTimeSteps Go.Proofs.YtkhjmdnbfpcgiaaW.PrintWords Go.Proofs.YtkhjmdnbfpcgiaaW.PrintLast

theorem b64 {x : Int} (h : (Lit.int .i64 x).wf = true) : -9223372036854775808 ≤ x ∧ x ≤ 9223372036854775807 := by
  have hmin : IntKind.i64.min = -9223372036854775808 := rfl
  have hmax : IntKind.i64.max = 9223372036854775807 := rfl
  simp only [Lit.wf, Bool.and_eq_true, decide_eq_true_eq] at h
  omega

theorem valid_eq (t : Int) : vtime_Valid.f t = some (decide (0 ≤ t ∧ t ≤ 4611686018427387903)) := by
  unfold vtime_Valid.f
  by_cases h : 0 ≤ t
  · simp [h]
  · simp [h]

theorem add_ok {t d : Int} (h0 : 0 ≤ t) (h1 : t ≤ 4611686018427387903) (h2 : 0 ≤ d) (h3 : d ≤ 4611686018427387903 - t) : vtime_Add.f t d = some (t + d, 0) := by
  have e1 : wrap64 (4611686018427387903 - t) = 4611686018427387903 - t := by unfold wrap64; omega
  have e2 : wrap64 (t + d) = t + d := by unfold wrap64; omega
  unfold vtime_Add.f
  rw [valid_eq, decide_eq_true ⟨h0, h1⟩]
  simp only [Option.bind_some, if_true]
  rw [if_neg (by omega), e1, if_neg (by omega), e2]

theorem add_far {t d : Int} (h0 : 0 ≤ t) (h1 : t ≤ 4611686018427387903) (h2 : 0 ≤ d) (h3 : 4611686018427387903 - t < d) : vtime_Add.f t d = some (0, 10) := by
  have e1 : wrap64 (4611686018427387903 - t) = 4611686018427387903 - t := by unfold wrap64; omega
  unfold vtime_Add.f
  rw [valid_eq, decide_eq_true ⟨h0, h1⟩]
  simp only [Option.bind_some, if_true]
  rw [if_neg (by omega), e1, if_pos (by omega)]

theorem add_neg {t d : Int} (h0 : 0 ≤ t) (h1 : t ≤ 4611686018427387903) (h2 : d < 0) : vtime_Add.f t d = some (0, 1) := by
  unfold vtime_Add.f
  rw [valid_eq, decide_eq_true ⟨h0, h1⟩]
  simp only [Option.bind_some, if_true]
  rw [if_pos h2]

theorem add_bad {t d : Int} (h : ¬ (0 ≤ t ∧ t ≤ 4611686018427387903)) : vtime_Add.f t d = some (0, 1) := by
  unfold vtime_Add.f
  rw [valid_eq, decide_eq_false h]
  rfl

theorem awake_eq : isochronlaw01_awake.f = some true := by
  unfold isochronlaw01_awake.f
  rw [add_ok (by omega) (by omega) (by omega) (by omega)]
  rfl

theorem steps_bad {a b w : Int} (h : w < 1 ∨ ¬ (0 ≤ a ∧ a ≤ 4611686018427387903) ∨ ¬ (0 ≤ b ∧ b ≤ 4611686018427387903) ∨ b < a) : vtime_Steps.f a b w = some (0, 1) := by
  unfold vtime_Steps.f
  rw [valid_eq, valid_eq]
  by_cases h1 : w < 1
  · rw [if_pos h1]
  · rw [if_neg h1]
    by_cases h2 : 0 ≤ a ∧ a ≤ 4611686018427387903
    · rw [decide_eq_true h2]
      simp only [Option.bind_some, if_true]
      by_cases h3 : 0 ≤ b ∧ b ≤ 4611686018427387903
      · rw [decide_eq_true h3]
        simp only [if_true]
        rw [if_pos (by omega)]
      · rw [decide_eq_false h3]
        simp
    · rw [decide_eq_false h2]
      simp

theorem steps_ok {a b w : Int} (h1 : 1 ≤ w) (h2 : 0 ≤ a) (h3 : a ≤ b) (h4 : b ≤ 4611686018427387903) : vtime_Steps.f a b w = some ((b - a) / w, 0) := by
  have e1 : wrap64 (b - a) = b - a := by unfold wrap64; omega
  have e2 : 0 ≤ (b - a) / w := Int.ediv_nonneg (by omega) (by omega)
  have e3 : (b - a) / w ≤ b - a := Int.ediv_le_self _ (by omega)
  have e4 : wrap64 ((b - a) / w) = (b - a) / w := by unfold wrap64; omega
  unfold vtime_Steps.f
  rw [valid_eq, valid_eq, if_neg (by omega), decide_eq_true (show 0 ≤ a ∧ a ≤ 4611686018427387903 by omega), decide_eq_true (show 0 ≤ b ∧ b ≤ 4611686018427387903 by omega)]
  simp only [Option.bind_some, if_true]
  rw [if_neg (by omega), if_neg (by omega), e1, Int.tdiv_eq_ediv_of_nonneg (by omega), e4]

theorem rvalid_eq (t : Int) : isochronref01_Valid.f t = vtime_Valid.f t := rfl

theorem rsteps_eq (a b w : Int) : isochronref01_Steps.f a b w = vtime_Steps.f a b w := by
  unfold isochronref01_Steps.f vtime_Steps.f
  simp only [rvalid_eq]
  first | done | rfl

theorem TimeSteps : isochronlaw01_TimeSteps.Pure := by
  intro a b w _ _ _
  have hs : ∃ p, vtime_Steps.f a b w = some p := by
    by_cases h : w < 1 ∨ ¬ (0 ≤ a ∧ a ≤ 4611686018427387903) ∨ ¬ (0 ≤ b ∧ b ≤ 4611686018427387903) ∨ b < a
    · exact ⟨_, steps_bad h⟩
    · exact ⟨_, steps_ok (by omega) (by omega) (by omega) (by omega)⟩
  obtain ⟨p, hp⟩ := hs
  unfold isochronlaw01_TimeSteps.f
  rw [rsteps_eq, hp, awake_eq]
  simp

end Go.Proofs.Ytkhjmdnbfpcgiaa.Pure
