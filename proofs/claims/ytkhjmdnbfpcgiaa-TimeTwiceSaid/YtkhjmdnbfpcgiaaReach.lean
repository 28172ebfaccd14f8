/- What vtime.Reach answers, and the other functions of package vtime by contracts that name their answers. No law is proved here. -/
import Derived.Test.YtkhjmdnbfpcgiaaPTimeAddsx1
namespace Go.Proofs.Ytkhjmdnbfpcgiaa.Reach
open Go.RowKit Go.Proofs.Ytkhjmdnbfpcgiaa.PTimeAdds Go.Proofs.YtkhjmdnbfpcgiaaW.PrintWords Go.Proofs.YtkhjmdnbfpcgiaaW.PrintLast Go.Proofs.YtkhjmdnbfpcgiaaW.PrintMore
attribute [local go_sem] max2_int min2_int max_two min_two max_three min_three max_four min_four
set_option linter.unusedVariables false
set_option linter.unusedSimpArgs false

def rch (t d : Int) : Int := if 4611686018427387904 - mn (mx t 0) 4611686018427387904 < mx d 0 then 4611686018427387904 else mn (mx t 0) 4611686018427387904 + mx d 0

theorem rch_sum (t d : Int) : mn (mx t 0) 4611686018427387904 + mn (mx d 0) (4611686018427387904 - mn (mx t 0) 4611686018427387904) = rch t d := by
  unfold rch mn mx
  repeat' split
  all_goals omega

set_option maxHeartbeats 4000000 in
set_option maxRecDepth 100000 in
theorem reach_call (t d : Int) (w : World) : Calls Try.prog 17 #[.int .i64 t, .int .i64 d] w fun e w' => e = .returned (.int .i64 (rch t d)) ∧ Below w.heap.size w w' := by
  have HB := Aside0.mk (Below.refl w.heap.size w)
  have HS := Aside0.mk (rch_sum t d)
  obtain ⟨b, hb⟩ : ∃ b, mn (mx t 0) 4611686018427387904 = b := ⟨_, rfl⟩
  obtain ⟨c, hc⟩ : ∃ c, mx d 0 = c := ⟨_, rfl⟩
  obtain ⟨m, hm⟩ : ∃ m, mx t 0 = m := ⟨_, rfl⟩
  obtain ⟨e, he⟩ : ∃ e, mn c (4611686018427387904 - b) = e := ⟨_, rfl⟩
  have b0 : 0 ≤ b := by rw [← hb]; unfold mn mx; repeat' split
                        all_goals omega
  have b1 : b ≤ 4611686018427387904 := by rw [← hb]; unfold mn mx; repeat' split
                                          all_goals omega
  have e0 : 0 ≤ e := by
    have c0 : 0 ≤ c := by rw [← hc]; unfold mx; split <;> omega
    rw [← he]; unfold mn; split <;> omega
  have e1 : e ≤ 4611686018427387904 := by rw [← he]; unfold mn; split <;> omega
  have HE : Aside0 (b + e = rch t d) := ⟨by rw [← he, ← hb, ← hc]; exact HS.out⟩
  have hm_ : (if t < 0 then 0 else t) = m := hm
  have hb_ : (if 4611686018427387904 < m then 4611686018427387904 else m) = b := by rw [← hb, ← hm]; rfl
  have hc_ : (if d < 0 then 0 else d) = c := hc
  have he_ : (if 4611686018427387904 - b < c then 4611686018427387904 - b else c) = e := he
  clear hb hc hm he
  go_enter Try.func17, Try.ntmps17
  go_wp2
  go_ret
  exact ⟨by rw [← HE.out]; rfl, by repeat (first | (with_reducible first | exact HB.out | apply below_alloc | apply pw_below_drewN | apply below_drew1) | exact HB.out)⟩

theorem b64 {x : Int} (h : (Lit.int .i64 x).wf = true) : -9223372036854775808 ≤ x ∧ x ≤ 9223372036854775807 := by
  have hmin : IntKind.i64.min = -9223372036854775808 := rfl
  have hmax : IntKind.i64.max = 9223372036854775807 := rfl
  simp only [Lit.wf, Bool.and_eq_true, decide_eq_true_eq] at h
  omega

theorem valid_eq (t : Int) : vtime_Valid.f t = some (decide (0 ≤ t ∧ t ≤ 4611686018427387903)) := by
  unfold vtime_Valid.f
  by_cases h : 0 ≤ t
  · simp [h]
  · simp [h]

theorem add_ok {t d : Int} (h0 : 0 ≤ t) (h1 : t ≤ 4611686018427387903) (h2 : 0 ≤ d) (h3 : d ≤ 4611686018427387903 - t) : vtime_Add.f t d = some (t + d, 0) := by
  have e1 : wrap64 (4611686018427387903 - t) = 4611686018427387903 - t := by unfold wrap64; omega
  have e2 : wrap64 (t + d) = t + d := by unfold wrap64; omega
  unfold vtime_Add.f
  rw [valid_eq, decide_eq_true ⟨h0, h1⟩]
  simp only [Option.bind_some, if_true]
  rw [if_neg (by omega), e1, if_neg (by omega), e2]

theorem add_far {t d : Int} (h0 : 0 ≤ t) (h1 : t ≤ 4611686018427387903) (h2 : 0 ≤ d) (h3 : 4611686018427387903 - t < d) : vtime_Add.f t d = some (0, 10) := by
  have e1 : wrap64 (4611686018427387903 - t) = 4611686018427387903 - t := by unfold wrap64; omega
  unfold vtime_Add.f
  rw [valid_eq, decide_eq_true ⟨h0, h1⟩]
  simp only [Option.bind_some, if_true]
  rw [if_neg (by omega), e1, if_pos (by omega)]

theorem add_neg {t d : Int} (h0 : 0 ≤ t) (h1 : t ≤ 4611686018427387903) (h2 : d < 0) : vtime_Add.f t d = some (0, 1) := by
  unfold vtime_Add.f
  rw [valid_eq, decide_eq_true ⟨h0, h1⟩]
  simp only [Option.bind_some, if_true]
  rw [if_pos h2]

theorem add_bad {t d : Int} (h : ¬ (0 ≤ t ∧ t ≤ 4611686018427387903)) : vtime_Add.f t d = some (0, 1) := by
  unfold vtime_Add.f
  rw [valid_eq, decide_eq_false h]
  rfl

theorem awake_eq : isochronlaw01_awake.f = some true := by
  unfold isochronlaw01_awake.f
  rw [add_ok (by omega) (by omega) (by omega) (by omega)]
  rfl

theorem valid_call (t : Int) (w : World) : Calls Try.prog 14 #[.int .i64 t] w fun e w' => e = .returned (.bool (decide (0 ≤ t ∧ t ≤ 4611686018427387903))) ∧ Drawn0 w w' := vtime_Valid.calls t _ w (valid_eq t)
theorem valid_yes (t : Int) (h : 0 ≤ t ∧ t ≤ 4611686018427387903) (w : World) : Calls Try.prog 14 #[.int .i64 t] w fun e w' => e = .returned (.bool true) ∧ Drawn0 w w' := vtime_Valid.calls t _ w (by rw [valid_eq, decide_eq_true h])
theorem valid_no (t : Int) (h : ¬ (0 ≤ t ∧ t ≤ 4611686018427387903)) (w : World) : Calls Try.prog 14 #[.int .i64 t] w fun e w' => e = .returned (.bool false) ∧ Drawn0 w w' := vtime_Valid.calls t _ w (by rw [valid_eq, decide_eq_false h])
theorem awake_call (w : World) : Calls Try.prog 16 #[] w fun e w' => e = .returned (.bool true) ∧ Drawn0 w w' := isochronlaw01_awake.calls _ w awake_eq
end Go.Proofs.Ytkhjmdnbfpcgiaa.Reach
