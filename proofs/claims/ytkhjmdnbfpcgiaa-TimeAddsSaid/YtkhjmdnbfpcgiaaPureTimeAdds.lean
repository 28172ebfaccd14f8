/- PROVED: what vtime.Add and vtime.Valid answer is what the reference answers (isochronlaw01.TimeAdds), for every input. Condition: none beside the statement's own. -/
import Derived.Test.YtkhjmdnbfpcgiaaPTimeAddsx1
namespace Go.Proofs.Ytkhjmdnbfpcgiaa.Pure
open Go.RowKit Go.Proofs.Ytkhjmdnbfpcgiaa.PTimeAdds Go.Proofs.YtkhjmdnbfpcgiaaW.PrintWords Go.Proofs.YtkhjmdnbfpcgiaaW.PrintLast

theorem b64 {x : Int} (h : (Lit.int .i64 x).wf = true) : -9223372036854775808 ≤ x ∧ x ≤ 9223372036854775807 := by
  have hmin : IntKind.i64.min = -9223372036854775808 := rfl
  have hmax : IntKind.i64.max = 9223372036854775807 := rfl
  simp only [Lit.wf, Bool.and_eq_true, decide_eq_true_eq] at h
  omega

theorem valid_eq (t : Int) : vtime_Valid.f t = some (decide (0 ≤ t ∧ t ≤ 4611686018427387903)) := by
  unfold vtime_Valid.f
  by_cases h : 0 ≤ t
  · simp [h]
  · simp [h]

theorem add_ok {t d : Int} (h0 : 0 ≤ t) (h1 : t ≤ 4611686018427387903) (h2 : 0 ≤ d) (h3 : d ≤ 4611686018427387903 - t) : vtime_Add.f t d = some (t + d, 0) := by
  have e1 : wrap64 (4611686018427387903 - t) = 4611686018427387903 - t := by unfold wrap64; omega
  have e2 : wrap64 (t + d) = t + d := by unfold wrap64; omega
  unfold vtime_Add.f
  rw [valid_eq, decide_eq_true ⟨h0, h1⟩]
  simp only [Option.bind_some, if_true]
  rw [if_neg (by omega), e1, if_neg (by omega), e2]

theorem add_far {t d : Int} (h0 : 0 ≤ t) (h1 : t ≤ 4611686018427387903) (h2 : 0 ≤ d) (h3 : 4611686018427387903 - t < d) : vtime_Add.f t d = some (0, 10) := by
  have e1 : wrap64 (4611686018427387903 - t) = 4611686018427387903 - t := by unfold wrap64; omega
  unfold vtime_Add.f
  rw [valid_eq, decide_eq_true ⟨h0, h1⟩]
  simp only [Option.bind_some, if_true]
  rw [if_neg (by omega), e1, if_pos (by omega)]

theorem add_neg {t d : Int} (h0 : 0 ≤ t) (h1 : t ≤ 4611686018427387903) (h2 : d < 0) : vtime_Add.f t d = some (0, 1) := by
  unfold vtime_Add.f
  rw [valid_eq, decide_eq_true ⟨h0, h1⟩]
  simp only [Option.bind_some, if_true]
  rw [if_pos h2]

theorem add_bad {t d : Int} (h : ¬ (0 ≤ t ∧ t ≤ 4611686018427387903)) : vtime_Add.f t d = some (0, 1) := by
  unfold vtime_Add.f
  rw [valid_eq, decide_eq_false h]
  rfl

theorem awake_eq : isochronlaw01_awake.f = some true := by
  unfold isochronlaw01_awake.f
  rw [add_ok (by omega) (by omega) (by omega) (by omega)]
  rfl

theorem rvalid_eq (t : Int) : isochronref01_Valid.f t = some (decide (0 ≤ t ∧ t ≤ 4611686018427387903)) := by
  unfold isochronref01_Valid.f
  by_cases h : 0 ≤ t
  · simp [h]
  · simp [h]

theorem radd_eq (t d : Int) (k : Nat) : isochronref01_Add.f (k + 1) t d = vtime_Add.f t d := by
  unfold isochronref01_Add.f vtime_Add.f
  rw [valid_eq, rvalid_eq]
  by_cases h : 0 ≤ t ∧ t ≤ 4611686018427387903
  · rw [decide_eq_true h]
    by_cases hd : d < 0
    · simp [isochronref01_Add.j0, hd]
    · simp [isochronref01_Add.j0, hd]
  · rw [decide_eq_false h]
    simp [isochronref01_Add.j0]

theorem add_some (t d : Int) : ∃ p, vtime_Add.f t d = some p := by
  by_cases h : 0 ≤ t ∧ t ≤ 4611686018427387903
  · rcases Int.lt_or_le d 0 with h2 | h2
    · exact ⟨_, add_neg h.1 h.2 h2⟩
    · rcases Int.lt_or_le (4611686018427387903 - t) d with h3 | h3
      · exact ⟨_, add_far h.1 h.2 h2 h3⟩
      · exact ⟨_, add_ok h.1 h.2 h2 h3⟩
  · exact ⟨_, add_bad h⟩

theorem TimeAdds : isochronlaw01_TimeAdds.Pure := by
  intro t d _ _
  refine ⟨1, ?_⟩
  obtain ⟨p, hp⟩ := add_some t d
  unfold isochronlaw01_TimeAdds.f
  rw [radd_eq t d 0, hp, valid_eq, rvalid_eq, awake_eq]
  simp

end Go.Proofs.Ytkhjmdnbfpcgiaa.Pure
