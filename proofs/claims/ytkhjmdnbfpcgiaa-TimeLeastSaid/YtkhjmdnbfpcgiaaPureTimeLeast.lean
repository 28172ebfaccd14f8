/- PROVED: what vtime.Least answers of any times is what the reference answers (isochronlaw01.TimeLeast), for every input. Condition: none beside the statement's own. -/
import Derived.Test.YtkhjmdnbfpcgiaaKindsTimeLeast
namespace Go.Proofs.Ytkhjmdnbfpcgiaa.Pure
open Go.RowKit Go.Proofs.Ytkhjmdnbfpcgiaa.PTimeLeast Go.Proofs.YtkhjmdnbfpcgiaaW.PrintWords Go.Proofs.YtkhjmdnbfpcgiaaW.PrintLast

theorem b64 {x : Int} (h : (Lit.int .i64 x).wf = true) : -9223372036854775808 ≤ x ∧ x ≤ 9223372036854775807 := by
  have hmin : IntKind.i64.min = -9223372036854775808 := rfl
  have hmax : IntKind.i64.max = 9223372036854775807 := rfl
  simp only [Lit.wf, Bool.and_eq_true, decide_eq_true_eq] at h
  omega

theorem valid_eq (t : Int) : vtime_Valid.f t = some (decide (0 ≤ t ∧ t ≤ 4611686018427387903)) := by
  unfold vtime_Valid.f
  by_cases h : 0 ≤ t
  · simp [h]
  · simp [h]

theorem add_ok {t d : Int} (h0 : 0 ≤ t) (h1 : t ≤ 4611686018427387903) (h2 : 0 ≤ d) (h3 : d ≤ 4611686018427387903 - t) : vtime_Add.f t d = some (t + d, 0) := by
  have e1 : wrap64 (4611686018427387903 - t) = 4611686018427387903 - t := by unfold wrap64; omega
  have e2 : wrap64 (t + d) = t + d := by unfold wrap64; omega
  unfold vtime_Add.f
  rw [valid_eq, decide_eq_true ⟨h0, h1⟩]
  simp only [Option.bind_some, if_true]
  rw [if_neg (by omega), e1, if_neg (by omega), e2]

theorem add_far {t d : Int} (h0 : 0 ≤ t) (h1 : t ≤ 4611686018427387903) (h2 : 0 ≤ d) (h3 : 4611686018427387903 - t < d) : vtime_Add.f t d = some (0, 10) := by
  have e1 : wrap64 (4611686018427387903 - t) = 4611686018427387903 - t := by unfold wrap64; omega
  unfold vtime_Add.f
  rw [valid_eq, decide_eq_true ⟨h0, h1⟩]
  simp only [Option.bind_some, if_true]
  rw [if_neg (by omega), e1, if_pos (by omega)]

theorem add_neg {t d : Int} (h0 : 0 ≤ t) (h1 : t ≤ 4611686018427387903) (h2 : d < 0) : vtime_Add.f t d = some (0, 1) := by
  unfold vtime_Add.f
  rw [valid_eq, decide_eq_true ⟨h0, h1⟩]
  simp only [Option.bind_some, if_true]
  rw [if_pos h2]

theorem add_bad {t d : Int} (h : ¬ (0 ≤ t ∧ t ≤ 4611686018427387903)) : vtime_Add.f t d = some (0, 1) := by
  unfold vtime_Add.f
  rw [valid_eq, decide_eq_false h]
  rfl

theorem awake_eq : isochronlaw01_awake.f = some true := by
  unfold isochronlaw01_awake.f
  rw [add_ok (by omega) (by omega) (by omega) (by omega)]
  rfl

def lst (l : List Int) : Int := l.foldl mn 4611686018427387904

theorem rd_get {l : List Int} {i : Nat} (h : i < l.length) : rd l (i : Int) = l[i] := by
  simp [rd, h]

theorem least_loop (l : List Int) (hl : l.length ≤ 17592186044404) (d : Nat) : ∀ (k i : Nat) (x : Int), i + d = l.length → d < k →
    vtime_Least.l0 k x l (l.length : Int) (i : Int) = some ((l.drop i).foldl mn x) := by
  induction d with
  | zero =>
    intro k i x hi hk
    obtain ⟨k, rfl⟩ : ∃ m, k = m + 1 := ⟨k - 1, by omega⟩
    simp only [vtime_Least.l0]
    rw [if_neg (by omega), List.drop_of_length_le (by omega)]
    rfl
  | succ d ih =>
    intro k i x hi hk
    obtain ⟨k, rfl⟩ : ∃ m, k = m + 1 := ⟨k - 1, by omega⟩
    have hlt : i < l.length := by omega
    have e1 : wrap64 ((i : Int) + 1) = ((i + 1 : Nat) : Int) := by unfold wrap64; omega
    simp only [vtime_Least.l0]
    rw [if_pos (by omega), if_pos (by omega), if_pos (by omega), e1, ih k (i + 1) _ (by omega) (by omega), rd_get hlt, List.drop_eq_getElem_cons hlt]
    rfl

theorem least_eq (l : List Int) (hl : l.length ≤ 17592186044404) (k : Nat) (hk : l.length < k) : vtime_Least.f k l = some (lst l) := by
  unfold vtime_Least.f lst
  exact least_loop l hl l.length k 0 _ (by omega) hk

theorem rleast_loop (l : List Int) (hl : l.length ≤ 17592186044404) (d : Nat) : ∀ (k i : Nat) (x : Int), i + d = l.length → d < k →
    isochronref01_Least.l0 k l x (i : Int) = some ((l.drop i).foldl mn x) := by
  induction d with
  | zero =>
    intro k i x hi hk
    obtain ⟨k, rfl⟩ : ∃ m, k = m + 1 := ⟨k - 1, by omega⟩
    simp only [isochronref01_Least.l0]
    rw [if_neg (by omega), List.drop_of_length_le (by omega)]
    rfl
  | succ d ih =>
    intro k i x hi hk
    obtain ⟨k, rfl⟩ : ∃ m, k = m + 1 := ⟨k - 1, by omega⟩
    have hlt : i < l.length := by omega
    have e1 : wrap64 ((i : Int) + 1) = ((i + 1 : Nat) : Int) := by unfold wrap64; omega
    simp only [isochronref01_Least.l0]
    rw [if_pos (by omega), if_pos (by omega), e1, ih k (i + 1) _ (by omega) (by omega), rd_get hlt, List.drop_eq_getElem_cons hlt]
    rfl

theorem TimeLeast : timeLeast.Goal := by
  intro l _ hl
  refine ⟨l.length + 1, ?_⟩
  have e2 : isochronref01_Least.f (l.length + 1) l = some (lst l) := by
    unfold isochronref01_Least.f lst
    exact rleast_loop l (by omega) l.length _ 0 _ (by omega) (by omega)
  unfold isochronlaw01_TimeLeast.f
  rw [least_eq l (by omega) _ (by omega), e2, awake_eq]
  simp

end Go.Proofs.Ytkhjmdnbfpcgiaa.Pure
