/- EventPairs: the law's answer without Go and memory. -/
import Derived.Test.YtgnlhlbndgopmaaKindsEventPairs
namespace Go.Proofs.Ytgnlhlbndgopmaa.Pure
open Go.RowKit Go.Proofs.Ytgnlhlbndgopmaa.PEventPairs Go.Proofs.YtgnlhlbndgopmaaW.PrintWords Go.Proofs.YtgnlhlbndgopmaaW.PrintLast Go.Proofs.YtgnlhlbndgopmaaW.PrintMore
set_option linter.unusedVariables false
set_option linter.unusedSimpArgs false

def sg (a b : Int) : Int := if a < b then -1 else if a > b then 1 else 0
def ck (a b c x y z : Int) : Int := if a = x then (if b = y then sg c z else sg b y) else sg a x

theorem cmp64_eq (a b : Int) : cmp_Compare_int64.f a b = some (sg a b) := by
  unfold cmp_Compare_int64.f cmp_isNaN_int64.f sg
  simp
  repeat' split
  all_goals rfl

theorem cmpi_eq (a b : Int) : cmp_Compare_int.f a b = some (sg a b) := by
  unfold cmp_Compare_int.f cmp_isNaN_int.f sg
  simp
  repeat' split
  all_goals rfl

theorem or3_eq (k : Nat) (x y z : Int) : cmp_Or_int.f (k + 4) [x, y, z] = some (if x = 0 then (if y = 0 then z else y) else x) := by
  have w1 : wrap64 1 = 1 := by unfold wrap64; omega
  have w2 : wrap64 2 = 2 := by unfold wrap64; omega
  have w3 : wrap64 3 = 3 := by unfold wrap64; omega
  have r0 : rd [x, y, z] 0 = x := rfl
  have r1 : rd [x, y, z] 1 = y := rfl
  have r2 : rd [x, y, z] 2 = z := rfl
  unfold cmp_Or_int.f
  by_cases hx : x = 0
  · by_cases hy : y = 0
    · by_cases hz : z = 0
      · subst hx hy hz
        simp [cmp_Or_int.l0, w1, w2, w3, r0, r1, r2]
      · subst hx hy
        simp [cmp_Or_int.l0, w1, w2, r0, r1, r2, hz]
    · subst hx
      simp [cmp_Or_int.l0, w1, r0, r1, hy]
  · simp [cmp_Or_int.l0, r0, hx]

theorem sg_zero (a b : Int) : sg a b = 0 ↔ a = b := by unfold sg; repeat' split
                                                       all_goals omega

theorem cmpk_eq (k : Nat) (a b c x y z : Int) : event_Compare.f (k + 4) a b c x y z = some (ck a b c x y z) := by
  unfold event_Compare.f
  rw [cmp64_eq, cmpi_eq, cmpi_eq]
  simp only [Option.bind_some]
  rw [or3_eq]
  unfold ck
  by_cases h1 : a = x
  · by_cases h2 : b = y
    · by_cases h3 : c = z
      · subst h1 h2 h3
        simp [sg]
      · have e1 := (sg_zero a x).2 h1
        have e2 := (sg_zero b y).2 h2
        simp [h1, h2, h3] at *
        simp [e1, e2]
    · have e1 := (sg_zero a x).2 h1
      have e2 : ¬ sg b y = 0 := fun h => h2 ((sg_zero b y).1 h)
      simp [h1, h2] at *
      simp [e1, e2]
  · have e1 : ¬ sg a x = 0 := fun h => h1 ((sg_zero a x).1 h)
    simp [h1, e1]

theorem awake_eq (k : Nat) : isochronlaw02_awake.f (k + 4) = some true := by
  unfold isochronlaw02_awake.f
  rw [cmpk_eq]
  rfl

theorem rsign_eq (a b : Int) : isochronref02_sign.f a b = some (sg a b) := by
  unfold isochronref02_sign.f sg
  repeat' split
  all_goals rfl

theorem rcmpk_eq (a b c x y z : Int) : isochronref02_Compare.f a b c x y z = some (ck a b c x y z) := by
  unfold isochronref02_Compare.f ck
  simp only [rsign_eq, Option.bind_some]
  repeat' split
  all_goals rfl

theorem or2_eq (k : Nat) (x y : Int) : cmp_Or_int.f (k + 4) [x, y] = some (if x = 0 then y else x) := by
  have w1 : wrap64 1 = 1 := by unfold wrap64; omega
  have w2 : wrap64 2 = 2 := by unfold wrap64; omega
  have r0 : rd [x, y] 0 = x := rfl
  have r1 : rd [x, y] 1 = y := rfl
  unfold cmp_Or_int.f
  by_cases hx : x = 0
  · by_cases hy : y = 0
    · subst hx hy
      simp [cmp_Or_int.l0, w1, w2, r0, r1]
    · subst hx
      simp [cmp_Or_int.l0, w1, r0, r1, hy]
  · simp [cmp_Or_int.l0, r0, hx]

theorem before_eq (k : Nat) (a b c d e f : Int) (g : Bool) (a' b' c' d' e' f' : Int) (g' : Bool) :
    event_Before.f (k + 4) a b c d e f g a' b' c' d' e' f' g' = isochronref02_Before.f a b c d e f g a' b' c' d' e' f' g' ∧ ∃ r, isochronref02_Before.f a b c d e f g a' b' c' d' e' f' g' = some r := by
  unfold event_Before.f event_order.f isochronref02_Before.f
  rw [cmpk_eq, rcmpk_eq, cmpi_eq]
  simp only [Option.bind_some]
  rw [or2_eq]
  generalize ck a b c a' b' c' = x
  unfold sg
  simp only [Option.bind_some]
  constructor
  · repeat' split
    all_goals (first | omega | (simp; done) | (simp; omega))
  · repeat' split
    all_goals exact ⟨_, rfl⟩

theorem EventPairs : eventPairs.Goal := by
  intro a _ b _
  refine ⟨4, ?_⟩
  unfold isochronlaw02_EventPairs.f
  rw [awake_eq 0]
  obtain ⟨h1, r, h2⟩ := before_eq 0 a.f0.f0 a.f0.f1 a.f0.f2 a.f1 a.f2 a.f3 a.f4 b.f0.f0 b.f0.f1 b.f0.f2 b.f1 b.f2 b.f3 b.f4
  rw [h1, h2]
  unfold event_Twins.f isochronref02_Twins.f event_One.f isochronref02_One.f event_Twin.f isochronref02_Twin.f
  cases ha : a.f4 <;> cases hb : b.f4 <;> by_cases h3 : a.f0.f1 = b.f0.f1 <;> by_cases h4 : a.f3 = b.f3 <;> simp [h3, h4]

end Go.Proofs.Ytgnlhlbndgopmaa.Pure
