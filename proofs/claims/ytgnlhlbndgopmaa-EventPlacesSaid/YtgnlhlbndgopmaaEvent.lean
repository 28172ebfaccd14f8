/- The contracts of package event's plain functions (from the printed ones), each naming its answer. No law is proved here. -/
import Derived.Test.YtgnlhlbndgopmaaPEventPairsx5
namespace Go.Proofs.Ytgnlhlbndgopmaa.Event
open Go.RowKit Go.Proofs.Ytgnlhlbndgopmaa.PEventPairs Go.Proofs.YtgnlhlbndgopmaaW.PrintWords Go.Proofs.YtgnlhlbndgopmaaW.PrintLast Go.Proofs.YtgnlhlbndgopmaaW.PrintMore
set_option linter.unusedVariables false
set_option linter.unusedSimpArgs false

def sg (a b : Int) : Int := if a < b then -1 else if a > b then 1 else 0
def ck (a b c x y z : Int) : Int := if a = x then (if b = y then sg c z else sg b y) else sg a x

theorem cmp64_eq (a b : Int) : cmp_Compare_int64.f a b = some (sg a b) := by
  unfold cmp_Compare_int64.f cmp_isNaN_int64.f sg
  simp
  repeat' split
  all_goals rfl

theorem cmpi_eq (a b : Int) : cmp_Compare_int.f a b = some (sg a b) := by
  unfold cmp_Compare_int.f cmp_isNaN_int.f sg
  simp
  repeat' split
  all_goals rfl

theorem or3_eq (k : Nat) (x y z : Int) : cmp_Or_int.f (k + 4) [x, y, z] = some (if x = 0 then (if y = 0 then z else y) else x) := by
  have w1 : wrap64 1 = 1 := by unfold wrap64; omega
  have w2 : wrap64 2 = 2 := by unfold wrap64; omega
  have w3 : wrap64 3 = 3 := by unfold wrap64; omega
  have r0 : rd [x, y, z] 0 = x := rfl
  have r1 : rd [x, y, z] 1 = y := rfl
  have r2 : rd [x, y, z] 2 = z := rfl
  unfold cmp_Or_int.f
  by_cases hx : x = 0
  · by_cases hy : y = 0
    · by_cases hz : z = 0
      · subst hx hy hz
        simp [cmp_Or_int.l0, w1, w2, w3, r0, r1, r2]
      · subst hx hy
        simp [cmp_Or_int.l0, w1, w2, r0, r1, r2, hz]
    · subst hx
      simp [cmp_Or_int.l0, w1, r0, r1, hy]
  · simp [cmp_Or_int.l0, r0, hx]

theorem sg_zero (a b : Int) : sg a b = 0 ↔ a = b := by unfold sg; repeat' split
                                                       all_goals omega

theorem cmpk_eq (k : Nat) (a b c x y z : Int) : event_Compare.f (k + 4) a b c x y z = some (ck a b c x y z) := by
  unfold event_Compare.f
  rw [cmp64_eq, cmpi_eq, cmpi_eq]
  simp only [Option.bind_some]
  rw [or3_eq]
  unfold ck
  by_cases h1 : a = x
  · by_cases h2 : b = y
    · by_cases h3 : c = z
      · subst h1 h2 h3
        simp [sg]
      · have e1 := (sg_zero a x).2 h1
        have e2 := (sg_zero b y).2 h2
        simp [h1, h2, h3] at *
        simp [e1, e2]
    · have e1 := (sg_zero a x).2 h1
      have e2 : ¬ sg b y = 0 := fun h => h2 ((sg_zero b y).1 h)
      simp [h1, h2] at *
      simp [e1, e2]
  · have e1 : ¬ sg a x = 0 := fun h => h1 ((sg_zero a x).1 h)
    simp [h1, e1]

theorem awake_eq (k : Nat) : isochronlaw02_awake.f (k + 4) = some true := by
  unfold isochronlaw02_awake.f
  rw [cmpk_eq]
  rfl

theorem rsign_eq (a b : Int) : isochronref02_sign.f a b = some (sg a b) := by
  unfold isochronref02_sign.f sg
  repeat' split
  all_goals rfl

theorem rcmpk_eq (a b c x y z : Int) : isochronref02_Compare.f a b c x y z = some (ck a b c x y z) := by
  unfold isochronref02_Compare.f ck
  simp only [rsign_eq, Option.bind_some]
  repeat' split
  all_goals rfl
theorem or2_eq (k : Nat) (x y : Int) : cmp_Or_int.f (k + 4) [x, y] = some (if x = 0 then y else x) := by
  have w1 : wrap64 1 = 1 := by unfold wrap64; omega
  have w2 : wrap64 2 = 2 := by unfold wrap64; omega
  have r0 : rd [x, y] 0 = x := rfl
  have r1 : rd [x, y] 1 = y := rfl
  unfold cmp_Or_int.f
  by_cases hx : x = 0
  · by_cases hy : y = 0
    · subst hx hy
      simp [cmp_Or_int.l0, w1, w2, r0, r1]
    · subst hx
      simp [cmp_Or_int.l0, w1, r0, r1, hy]
  · simp [cmp_Or_int.l0, r0, hx]

theorem before_eq (k : Nat) (a b c d e f : Int) (g : Bool) (a' b' c' d' e' f' : Int) (g' : Bool) :
    event_Before.f (k + 4) a b c d e f g a' b' c' d' e' f' g' = isochronref02_Before.f a b c d e f g a' b' c' d' e' f' g' ∧ ∃ r, isochronref02_Before.f a b c d e f g a' b' c' d' e' f' g' = some r := by
  unfold event_Before.f event_order.f isochronref02_Before.f
  rw [cmpk_eq, rcmpk_eq, cmpi_eq]
  simp only [Option.bind_some]
  rw [or2_eq]
  generalize ck a b c a' b' c' = x
  unfold sg
  simp only [Option.bind_some]
  constructor
  · repeat' split
    all_goals (first | omega | (simp; done) | (simp; omega))
  · repeat' split
    all_goals exact ⟨_, rfl⟩


theorem cmp_call (a b c x y z : Int) (w : World) : Calls Try.prog 13 #[.agg #[.int .i64 a, .int .i64 b, .int .i64 c], .agg #[.int .i64 x, .int .i64 y, .int .i64 z]] w fun e w' => e = .returned (.int .i64 (ck a b c x y z)) ∧ Below w.heap.size w w' :=
  event_Compare.calls 4 a b c x y z _ w (cmpk_eq 0 a b c x y z)

theorem awake_call (w : World) : Calls Try.prog 15 #[] w fun e w' => e = .returned (.bool true) ∧ Below w.heap.size w w' := isochronlaw02_awake.calls 4 true w (awake_eq 0)

/-- Is the first ahead of the second? -/
def bef (a0 a1 a2 a5 b0 b1 b2 b5 : Int) : Bool := decide (ck a0 a1 a2 b0 b1 b2 < 0) || (ck a0 a1 a2 b0 b1 b2 == 0 && decide (a5 < b5))
theorem bef_eq (k : Nat) (a0 a1 a2 a3 a4 a5 : Int) (a6 : Bool) (b0 b1 b2 b3 b4 b5 : Int) (b6 : Bool) : event_Before.f (k + 4) a0 a1 a2 a3 a4 a5 a6 b0 b1 b2 b3 b4 b5 b6 = some (bef a0 a1 a2 a5 b0 b1 b2 b5) := by
  rw [(before_eq k a0 a1 a2 a3 a4 a5 a6 b0 b1 b2 b3 b4 b5 b6).1]
  unfold isochronref02_Before.f bef
  rw [rcmpk_eq]
  simp only [Option.bind_some]
  generalize ck a0 a1 a2 b0 b1 b2 = x
  by_cases h1 : x < 0
  · simp [h1]
  · by_cases h2 : x = 0
    · subst h2
      simp
    · simp [h1, h2]

theorem before_call (a0 a1 a2 a3 a4 a5 : Int) (a6 : Bool) (b0 b1 b2 b3 b4 b5 : Int) (b6 : Bool) (w : World) : Calls Try.prog 16 #[.agg #[.int .i64 a0, .int .i64 a1, .int .i64 a2, .int .i64 a3, .int .i64 a4, .int .i64 a5, .bool a6], .agg #[.int .i64 b0, .int .i64 b1, .int .i64 b2, .int .i64 b3, .int .i64 b4, .int .i64 b5, .bool b6]] w fun e w' => e = .returned (.bool (bef a0 a1 a2 a5 b0 b1 b2 b5)) ∧ Below w.heap.size w w' :=
  event_Before.calls 4 a0 a1 a2 a3 a4 a5 a6 b0 b1 b2 b3 b4 b5 b6 _ w (bef_eq 0 a0 a1 a2 a3 a4 a5 a6 b0 b1 b2 b3 b4 b5 b6)

theorem one_call (a0 a1 a2 a3 a4 a5 : Int) (a6 : Bool) (b0 b1 b2 b3 b4 b5 : Int) (b6 : Bool) (w : World) : Calls Try.prog 18 #[.agg #[.int .i64 a0, .int .i64 a1, .int .i64 a2, .int .i64 a3, .int .i64 a4, .int .i64 a5, .bool a6], .agg #[.int .i64 b0, .int .i64 b1, .int .i64 b2, .int .i64 b3, .int .i64 b4, .int .i64 b5, .bool b6]] w fun e w' => e = .returned (.bool (a1 == b1 && a5 == b5)) ∧ Below w.heap.size w w' :=
  event_One.calls a0 a1 a2 a3 a4 a5 a6 b0 b1 b2 b3 b4 b5 b6 _ w (by unfold event_One.f; by_cases h : a1 = b1 <;> simp [h])

theorem twins_call (a0 a1 a2 a3 a4 a5 : Int) (a6 : Bool) (b0 b1 b2 b3 b4 b5 : Int) (b6 : Bool) (w : World) : Calls Try.prog 20 #[.agg #[.int .i64 a0, .int .i64 a1, .int .i64 a2, .int .i64 a3, .int .i64 a4, .int .i64 a5, .bool a6], .agg #[.int .i64 b0, .int .i64 b1, .int .i64 b2, .int .i64 b3, .int .i64 b4, .int .i64 b5, .bool b6]] w fun e w' => e = .returned (.bool (a1 == b1 && a5 == b5 && a6 == !b6)) ∧ Below w.heap.size w w' :=
  event_Twins.calls a0 a1 a2 a3 a4 a5 a6 b0 b1 b2 b3 b4 b5 b6 _ w (by unfold event_Twins.f event_One.f; by_cases h : a1 = b1 <;> by_cases g : a5 = b5 <;> simp [h, g])

theorem twin_call (a0 a1 a2 a3 a4 a5 : Int) (a6 : Bool) (w : World) : Calls Try.prog 22 #[.agg #[.int .i64 a0, .int .i64 a1, .int .i64 a2, .int .i64 a3, .int .i64 a4, .int .i64 a5, .bool a6]] w fun e w' => e = .returned (.agg #[.int .i64 a0, .int .i64 a1, .int .i64 a2, .int .i64 a3, .int .i64 a4, .int .i64 a5, .bool (!a6)]) ∧ Below w.heap.size w w' :=
  event_Twin.calls a0 a1 a2 a3 a4 a5 a6 _ _ _ _ _ _ _ w rfl
end Go.Proofs.Ytgnlhlbndgopmaa.Event
