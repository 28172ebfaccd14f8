/- PROVED: the least of any times is one of them or Never, none is below it, and the order does not matter (isochronlaw01.TimeAmong), for every input. Condition: none beside the statement's own. -/
import Derived.Test.YtkhjmdnbfpcgiaaKindsTimeAmong
namespace Go.Proofs.Ytkhjmdnbfpcgiaa.Pure
open Go.RowKit Go.Proofs.Ytkhjmdnbfpcgiaa.PTimeAmong Go.Proofs.YtkhjmdnbfpcgiaaW.PrintWords Go.Proofs.YtkhjmdnbfpcgiaaW.PrintLast

theorem b64 {x : Int} (h : (Lit.int .i64 x).wf = true) : -9223372036854775808 ≤ x ∧ x ≤ 9223372036854775807 := by
  have hmin : IntKind.i64.min = -9223372036854775808 := rfl
  have hmax : IntKind.i64.max = 9223372036854775807 := rfl
  simp only [Lit.wf, Bool.and_eq_true, decide_eq_true_eq] at h
  omega

theorem valid_eq (t : Int) : vtime_Valid.f t = some (decide (0 ≤ t ∧ t ≤ 4611686018427387903)) := by
  unfold vtime_Valid.f
  by_cases h : 0 ≤ t
  · simp [h]
  · simp [h]

theorem add_ok {t d : Int} (h0 : 0 ≤ t) (h1 : t ≤ 4611686018427387903) (h2 : 0 ≤ d) (h3 : d ≤ 4611686018427387903 - t) : vtime_Add.f t d = some (t + d, 0) := by
  have e1 : wrap64 (4611686018427387903 - t) = 4611686018427387903 - t := by unfold wrap64; omega
  have e2 : wrap64 (t + d) = t + d := by unfold wrap64; omega
  unfold vtime_Add.f
  rw [valid_eq, decide_eq_true ⟨h0, h1⟩]
  simp only [Option.bind_some, if_true]
  rw [if_neg (by omega), e1, if_neg (by omega), e2]

theorem add_far {t d : Int} (h0 : 0 ≤ t) (h1 : t ≤ 4611686018427387903) (h2 : 0 ≤ d) (h3 : 4611686018427387903 - t < d) : vtime_Add.f t d = some (0, 10) := by
  have e1 : wrap64 (4611686018427387903 - t) = 4611686018427387903 - t := by unfold wrap64; omega
  unfold vtime_Add.f
  rw [valid_eq, decide_eq_true ⟨h0, h1⟩]
  simp only [Option.bind_some, if_true]
  rw [if_neg (by omega), e1, if_pos (by omega)]

theorem add_neg {t d : Int} (h0 : 0 ≤ t) (h1 : t ≤ 4611686018427387903) (h2 : d < 0) : vtime_Add.f t d = some (0, 1) := by
  unfold vtime_Add.f
  rw [valid_eq, decide_eq_true ⟨h0, h1⟩]
  simp only [Option.bind_some, if_true]
  rw [if_pos h2]

theorem add_bad {t d : Int} (h : ¬ (0 ≤ t ∧ t ≤ 4611686018427387903)) : vtime_Add.f t d = some (0, 1) := by
  unfold vtime_Add.f
  rw [valid_eq, decide_eq_false h]
  rfl

theorem awake_eq : isochronlaw01_awake.f = some true := by
  unfold isochronlaw01_awake.f
  rw [add_ok (by omega) (by omega) (by omega) (by omega)]
  rfl

def lst (l : List Int) : Int := l.foldl mn 4611686018427387904

theorem rd_get {l : List Int} {i : Nat} (h : i < l.length) : rd l (i : Int) = l[i] := by
  simp [rd, h]

theorem least_loop (l : List Int) (hl : l.length ≤ 17592186044404) (d : Nat) : ∀ (k i : Nat) (x : Int), i + d = l.length → d < k →
    vtime_Least.l0 k x l (l.length : Int) (i : Int) = some ((l.drop i).foldl mn x) := by
  induction d with
  | zero =>
    intro k i x hi hk
    obtain ⟨k, rfl⟩ : ∃ m, k = m + 1 := ⟨k - 1, by omega⟩
    simp only [vtime_Least.l0]
    rw [if_neg (by omega), List.drop_of_length_le (by omega)]
    rfl
  | succ d ih =>
    intro k i x hi hk
    obtain ⟨k, rfl⟩ : ∃ m, k = m + 1 := ⟨k - 1, by omega⟩
    have hlt : i < l.length := by omega
    have e1 : wrap64 ((i : Int) + 1) = ((i + 1 : Nat) : Int) := by unfold wrap64; omega
    simp only [vtime_Least.l0]
    rw [if_pos (by omega), if_pos (by omega), if_pos (by omega), e1, ih k (i + 1) _ (by omega) (by omega), rd_get hlt, List.drop_eq_getElem_cons hlt]
    rfl

theorem least_eq (l : List Int) (hl : l.length ≤ 17592186044404) (k : Nat) (hk : l.length < k) : vtime_Least.f k l = some (lst l) := by
  unfold vtime_Least.f lst
  exact least_loop l hl l.length k 0 _ (by omega) hk

theorem mn_min (a b : Int) : mn a b = min a b := by
  unfold mn; split <;> omega

theorem foldl_le (l : List Int) : ∀ x, l.foldl mn x ≤ x ∧ (∀ y ∈ l, l.foldl mn x ≤ y) ∧ (l.foldl mn x = x ∨ l.foldl mn x ∈ l) := by
  induction l with
  | nil => intro x; simp
  | cons a l ih =>
    intro x
    obtain ⟨h1, h2, h3⟩ := ih (mn x a)
    simp only [List.foldl_cons]
    have hm : mn x a ≤ x ∧ mn x a ≤ a ∧ (mn x a = x ∨ mn x a = a) := by rw [mn_min]; omega
    refine ⟨by omega, fun y hy => ?_, ?_⟩
    · rcases List.mem_cons.1 hy with rfl | hy
      · omega
      · exact h2 y hy
    · rcases h3 with h3 | h3
      · rcases hm.2.2 with h4 | h4
        · left; omega
        · right; rw [h3, h4]; simp
      · right; exact List.mem_cons_of_mem _ h3

theorem lst_reverse (l : List Int) : lst l.reverse = lst l := by
  obtain ⟨a1, a2, a3⟩ := foldl_le l 4611686018427387904
  obtain ⟨b1, b2, b3⟩ := foldl_le l.reverse 4611686018427387904
  change lst l ≤ _ at a1
  change lst l.reverse ≤ _ at b1
  change ∀ y ∈ l, lst l ≤ y at a2
  change ∀ y ∈ l.reverse, lst l.reverse ≤ y at b2
  change lst l = _ ∨ lst l ∈ l at a3
  change lst l.reverse = _ ∨ lst l.reverse ∈ l.reverse at b3
  have h1 : lst l ≤ lst l.reverse := by
    rcases b3 with h | h
    · omega
    · exact a2 _ (List.mem_reverse.1 h)
  have h2 : lst l.reverse ≤ lst l := by
    rcases a3 with h | h
    · omega
    · exact b2 _ (List.mem_reverse.2 h)
  omega

theorem among_loop (l : List Int) (hl : l.length ≤ 17592186044404) (i : Nat) : ∀ (k : Nat) (there : Bool), i ≤ l.length → i + l.length + 1 < k → (there = true ∨ lst l ∈ l.take i) →
    isochronlaw01_TimeAmong.l0 k l (lst l) there (l.drop i).reverse ((i : Int) - 1) = some true := by
  induction i with
  | zero =>
    intro k there _ hk ht
    obtain ⟨k, rfl⟩ : ∃ m, k = m + 1 := ⟨k - 1, by omega⟩
    have ht : there = true := by simpa using ht
    simp only [isochronlaw01_TimeAmong.l0]
    rw [if_neg (by omega), if_pos ht, List.drop_zero, least_eq _ (by simpa using hl) _ (by simp; omega), lst_reverse, awake_eq]
    simp
  | succ i ih =>
    intro k there hi hk ht
    obtain ⟨k, rfl⟩ : ∃ m, k = m + 1 := ⟨k - 1, by omega⟩
    have hlt : i < l.length := by omega
    have e0 : ((i + 1 : Nat) : Int) - 1 = (i : Int) := by omega
    have e1 : wrap64 ((i : Int) - 1) = (i : Int) - 1 := by unfold wrap64; omega
    have e2 : (l.drop (i + 1)).reverse ++ [l[i]] = (l.drop i).reverse := by
      rw [List.drop_eq_getElem_cons hlt, List.reverse_cons]
    have e3 : lst l ≤ l[i] := (foldl_le l _).2.1 _ (List.getElem_mem hlt)
    have e4 : (l.drop (i + 1)).reverse.length < 17592186044416 := by simp; omega
    rw [List.take_succ_eq_append_getElem hlt, List.mem_append, List.mem_singleton] at ht
    rw [e0]
    simp only [isochronlaw01_TimeAmong.l0]
    have p1 : (i : Int) ≥ 0 := by omega
    have p3 : (i : Int) < (l.length : Int) := by omega
    have p4 : ¬ l[i] < lst l := by omega
    simp only [if_pos p1, if_pos p3, rd_get hlt, if_neg p4, if_pos e4, e2, e1]
    split
    · exact ih k true (by omega) (by omega) (.inl rfl)
    · refine ih k _ (by omega) (by omega) ?_
      rcases ht with h | h | h
      · exact absurd h (by assumption)
      · exact .inr h
      · left; rw [← h]; simp

theorem TimeAmong : timeAmong.Goal := by
  intro l _ hl
  refine ⟨l.length + l.length + 2, ?_⟩
  have e1 : wrap64 ((l.length : Int) - 1) = (l.length : Int) - 1 := by unfold wrap64; omega
  unfold isochronlaw01_TimeAmong.f
  rw [least_eq l (by omega) _ (by omega), e1]
  simp only [Option.bind_some]
  have := among_loop l (by omega) l.length (l.length + l.length + 2) (lst l == 4611686018427387904) (by omega) (by omega) (by
    rcases (foldl_le l 4611686018427387904).2.2 with h | h
    · left; rw [beq_iff_eq]; exact h
    · right; rw [List.take_length]; exact h)
  simpa using this

end Go.Proofs.Ytkhjmdnbfpcgiaa.Pure
