/- EventChecks: the law's answer without Go and memory. -/
import Derived.Test.YtgnlhlbndgopmaaKindsEventChecks
namespace Go.Proofs.Ytgnlhlbndgopmaa.Pure
open Go.RowKit Go.Proofs.Ytgnlhlbndgopmaa.PEventChecks Go.Proofs.YtgnlhlbndgopmaaW.PrintWords Go.Proofs.YtgnlhlbndgopmaaW.PrintLast Go.Proofs.YtgnlhlbndgopmaaW.PrintMore
set_option linter.unusedVariables false
set_option linter.unusedSimpArgs false

def sg (a b : Int) : Int := if a < b then -1 else if a > b then 1 else 0
def ck (a b c x y z : Int) : Int := if a = x then (if b = y then sg c z else sg b y) else sg a x

theorem cmp64_eq (a b : Int) : cmp_Compare_int64.f a b = some (sg a b) := by
  unfold cmp_Compare_int64.f cmp_isNaN_int64.f sg
  simp
  repeat' split
  all_goals rfl

theorem cmpi_eq (a b : Int) : cmp_Compare_int.f a b = some (sg a b) := by
  unfold cmp_Compare_int.f cmp_isNaN_int.f sg
  simp
  repeat' split
  all_goals rfl

theorem or3_eq (k : Nat) (x y z : Int) : cmp_Or_int.f (k + 4) [x, y, z] = some (if x = 0 then (if y = 0 then z else y) else x) := by
  have w1 : wrap64 1 = 1 := by unfold wrap64; omega
  have w2 : wrap64 2 = 2 := by unfold wrap64; omega
  have w3 : wrap64 3 = 3 := by unfold wrap64; omega
  have r0 : rd [x, y, z] 0 = x := rfl
  have r1 : rd [x, y, z] 1 = y := rfl
  have r2 : rd [x, y, z] 2 = z := rfl
  unfold cmp_Or_int.f
  by_cases hx : x = 0
  · by_cases hy : y = 0
    · by_cases hz : z = 0
      · subst hx hy hz
        simp [cmp_Or_int.l0, w1, w2, w3, r0, r1, r2]
      · subst hx hy
        simp [cmp_Or_int.l0, w1, w2, r0, r1, r2, hz]
    · subst hx
      simp [cmp_Or_int.l0, w1, r0, r1, hy]
  · simp [cmp_Or_int.l0, r0, hx]

theorem sg_zero (a b : Int) : sg a b = 0 ↔ a = b := by unfold sg; repeat' split
                                                       all_goals omega

theorem cmpk_eq (k : Nat) (a b c x y z : Int) : event_Compare.f (k + 4) a b c x y z = some (ck a b c x y z) := by
  unfold event_Compare.f
  rw [cmp64_eq, cmpi_eq, cmpi_eq]
  simp only [Option.bind_some]
  rw [or3_eq]
  unfold ck
  by_cases h1 : a = x
  · by_cases h2 : b = y
    · by_cases h3 : c = z
      · subst h1 h2 h3
        simp [sg]
      · have e1 := (sg_zero a x).2 h1
        have e2 := (sg_zero b y).2 h2
        simp [h1, h2, h3] at *
        simp [e1, e2]
    · have e1 := (sg_zero a x).2 h1
      have e2 : ¬ sg b y = 0 := fun h => h2 ((sg_zero b y).1 h)
      simp [h1, h2] at *
      simp [e1, e2]
  · have e1 : ¬ sg a x = 0 := fun h => h1 ((sg_zero a x).1 h)
    simp [h1, e1]

theorem awake_eq (k : Nat) : isochronlaw02_awake.f (k + 4) = some true := by
  unfold isochronlaw02_awake.f
  rw [cmpk_eq]
  rfl

theorem EventChecks : eventChecks.Goal := by
  intro m _
  refine ⟨4, ?_⟩
  unfold isochronlaw02_EventChecks.f
  rw [awake_eq 0]
  generalize m.f0.f0 = t
  generalize m.f0.f1 = f
  generalize m.f0.f2 = s
  generalize m.f1 = o
  generalize m.f2 = v
  generalize m.f3 = u
  generalize m.f4 = b
  have key : event_Check.f t f s o v u b = isochronref02_Check.f t f s o v u b ∧ ∃ r, isochronref02_Check.f t f s o v u b = some r := by
    have hv : isochronref01_Valid.f t = vtime_Valid.f t := rfl
    have hs : ∃ y, vtime_Valid.f t = some y := by unfold vtime_Valid.f; split <;> exact ⟨_, rfl⟩
    obtain ⟨y, hy⟩ := hs
    have hl : ∀ n, event_lane.f n = some (decide (0 ≤ n ∧ n < 16)) := by
      intro n
      unfold event_lane.f
      by_cases h : 0 ≤ n
      · simp [h]
      · simp [h]
    unfold event_Check.f isochronref02_Check.f
    rw [hv, hy, hl, hl]
    simp only [Option.bind_some]
    have hm : (mn s u ≥ 0) ↔ (0 ≤ s ∧ 0 ≤ u) := by unfold mn; split <;> omega
    simp only [hm]
    cases y
    · simp
    · simp only [decide_eq_true_eq, if_true]
      constructor
      · repeat' split
        all_goals (first | rfl | omega)
      · repeat' split
        all_goals exact ⟨_, rfl⟩
  obtain ⟨h1, r, h2⟩ := key
  rw [h1, h2]
  simp

end Go.Proofs.Ytgnlhlbndgopmaa.Pure
