/- Promises; the walks of ClockPromises, ClockKeeps, ClockTells. -/
import Derived.Test.YtcccigdlmljalaaClockRef
import Derived.Test.YtcccigdlmljalaaReachC
namespace Go.Proofs.Ytcccigdlmljalaa.Clock
open Go.RowKit Go.Deep Go.Proofs.Ytcccigdlmljalaa.Heap Go.Proofs.Ytcccigdlmljalaa.Reach Go.Proofs.YtcccigdlmljalaaW.PrintWords Go.Proofs.YtcccigdlmljalaaW.PrintLast Go.Proofs.YtcccigdlmljalaaW.PrintMore
set_option linter.unusedVariables false
set_option linter.unusedSimpArgs false
attribute [local go_sem] max2_int min2_int max_two min_two max_three min_three max_four min_four

def prm (f n b l y : Int) : Int := mn y (rch (mx f (mn n b)) l)

set_option maxHeartbeats 4000000 in
set_option maxRecDepth 100000 in
theorem promise_call (f n b l y : Int) (w : World) : Calls Try.prog 16 #[.int .i64 f, .int .i64 n, .int .i64 b, .int .i64 l, .int .i64 y] w fun e w' => e = .returned (.int .i64 (prm f n b l y)) ∧ Below w.heap.size w w' := by
  obtain ⟨x, hx⟩ : ∃ x, mn n b = x := ⟨_, rfl⟩
  obtain ⟨z, hz⟩ : ∃ z, mx f x = z := ⟨_, rfl⟩
  obtain ⟨u, hu⟩ : ∃ u, rch z l = u := ⟨_, rfl⟩
  obtain ⟨v, hv⟩ : ∃ v, mn y u = v := ⟨_, rfl⟩
  have HE : Hid (prm f n b l y = v) := by show _ = _; unfold prm; rw [hx, hz, hu, hv]
  have hx_ : (if b < n then b else n) = x := hx
  have hz_ : (if f < x then x else f) = z := hz
  have hv_ : (if u < y then u else y) = v := hv
  have HU := hide hu
  clear hx hz hu hv
  go_enter Try.func16, Try.ntmps16
  go_wp2_with (go_at_call 23; refine (reach_call _ _ _).mono ?_; rintro e w1 ⟨rfl, hb1⟩; rw [HU.out])
  go_ret
  exact ⟨by rw [HE.out]; rfl, hb1⟩

set_option maxHeartbeats 4000000 in
set_option maxRecDepth 100000 in
theorem rpromise_call (f n b l y : Int) (w : World) : Calls Try.prog 17 #[.int .i64 f, .int .i64 n, .int .i64 b, .int .i64 l, .int .i64 y] w fun e w' => e = .returned (.int .i64 (prm f n b l y)) ∧ Below w.heap.size w w' := by
  obtain ⟨x, hx⟩ : ∃ x, mn n b = x := ⟨_, rfl⟩
  obtain ⟨z, hz⟩ : ∃ z, mx f x = z := ⟨_, rfl⟩
  obtain ⟨u, hu⟩ : ∃ u, rch z l = u := ⟨_, rfl⟩
  obtain ⟨v, hv⟩ : ∃ v, mn y u = v := ⟨_, rfl⟩
  have HE : Hid (prm f n b l y = v) := by show _ = _; unfold prm; rw [hx, hz, hu, hv]
  have hx_ : (if b < n then b else n) = x := hx
  have hz_ : (if f < x then x else f) = z := hz
  have hv_ : (if u < y then u else y) = v := hv
  have HU := hide hu
  clear hx hz hu hv
  go_enter Try.func17, Try.ntmps17
  go_wp2_with (go_at_call 24; refine (rreach_call _ _ _).mono ?_; rintro e w1 ⟨rfl, hb1⟩; rw [HU.out])
  go_ret
  exact ⟨by rw [HE.out]; rfl, hb1⟩
end Go.Proofs.Ytcccigdlmljalaa.Clock

namespace Go.Proofs.Ytcccigdlmljalaa.clockPromises
open Go.RowKit Go.Deep Go.Proofs.Ytcccigdlmljalaa.Heap Go.Proofs.Ytcccigdlmljalaa.Reach Go.Proofs.Ytcccigdlmljalaa.Clock Go.Proofs.YtcccigdlmljalaaW.PrintWords Go.Proofs.YtcccigdlmljalaaW.PrintLast Go.Proofs.YtcccigdlmljalaaW.PrintMore
set_option linter.unusedVariables false
theorem walk (a0 : Int) (w0 : (Lit.int .i64 a0).wf = true) (a1 : Int) (w1 : (Lit.int .i64 a1).wf = true) (a2 : Int) (w2 : (Lit.int .i64 a2).wf = true) (a3 : Int) (w3 : (Lit.int .i64 a3).wf = true) (a4 : Int) (w4 : (Lit.int .i64 a4).wf = true) (w : World) :
    Calls Try.prog 6 #[.int .i64 a0, .int .i64 a1, .int .i64 a2, .int .i64 a3, .int .i64 a4] w fun e w' => e = .returned (.bool true) ∧ Below w.heap.size w w' := by
  clear w0 w1 w2 w3 w4
  go_enter Try.func6, Try.ntmps6
  go_wp2_with (first | (go_at_call 16; refine (promise_call _ _ _ _ _ _).mono ?_; rintro e w1 ⟨rfl, hb1⟩) | (go_at_call 17; refine (rpromise_call _ _ _ _ _ _).mono ?_; rintro e w2 ⟨rfl, hb2⟩) | (go_at_call 15; refine (awake_call _).mono ?_; rintro e w3 ⟨rfl, hb3⟩))
  go_ret
  exact ⟨rfl, below_step (below_step hb1 hb2) hb3⟩
end Go.Proofs.Ytcccigdlmljalaa.clockPromises

namespace Go.Proofs.Ytcccigdlmljalaa.clockKeeps
open Go.RowKit Go.Deep Go.Proofs.Ytcccigdlmljalaa.Heap Go.Proofs.Ytcccigdlmljalaa.Reach Go.Proofs.Ytcccigdlmljalaa.Clock Go.Proofs.YtcccigdlmljalaaW.PrintWords Go.Proofs.YtcccigdlmljalaaW.PrintLast Go.Proofs.YtcccigdlmljalaaW.PrintMore
set_option linter.unusedVariables false
theorem b32 {x : Int} (h : (Lit.int .u32 x).wf = true) : 0 ≤ x ∧ x ≤ 4294967295 := by
  have hmin : IntKind.u32.min = 0 := rfl
  have hmax : IntKind.u32.max = 4294967295 := rfl
  simp only [Lit.wf, Bool.and_eq_true, decide_eq_true_eq] at h
  omega
theorem b16 {x : Int} (h : (Lit.int .u16 x).wf = true) : 0 ≤ x ∧ x ≤ 65535 := by
  have hmin : IntKind.u16.min = 0 := rfl
  have hmax : IntKind.u16.max = 65535 := rfl
  simp only [Lit.wf, Bool.and_eq_true, decide_eq_true_eq] at h
  omega
theorem keeps (f n b l y : Int) (h0 : 0 ≤ f) (h1 : f ≤ 4294967295) (h2 : 0 ≤ n) (h3 : n ≤ 4294967295) (h4 : 0 ≤ b) (h5 : b ≤ 4294967295) (h6 : 0 ≤ l) (h7 : l ≤ 65535) (h8 : 0 ≤ y) (h9 : y ≤ 4294967295) :
    prm f n b l y ≤ y ∧ (prm f n b l y ≤ f + l ∨ (prm f n b l y ≤ n + l ∧ prm f n b l y ≤ b + l)) ∧ (prm f n b l y = y ∨ f + l ≤ prm f n b l y) := by
  have e : rch (mx f (mn n b)) l = mx f (mn n b) + l := by
    unfold rch mx mn
    repeat' split
    all_goals omega
  unfold prm
  rw [e]
  unfold mn mx
  repeat' split
  all_goals omega
set_option maxHeartbeats 8000000 in
set_option maxRecDepth 100000 in
theorem walk (a0 : Int) (w0 : (Lit.int .u32 a0).wf = true) (a1 : Int) (w1 : (Lit.int .u32 a1).wf = true) (a2 : Int) (w2 : (Lit.int .u32 a2).wf = true) (a3 : Int) (w3 : (Lit.int .u16 a3).wf = true) (a4 : Int) (w4 : (Lit.int .u32 a4).wf = true) (w : World) :
    Calls Try.prog 7 #[.int .u32 a0, .int .u32 a1, .int .u32 a2, .int .u16 a3, .int .u32 a4] w fun e w' => e = .returned (.bool true) ∧ Below w.heap.size w w' := by
  obtain ⟨p0, q0⟩ := b32 w0
  obtain ⟨p1, q1⟩ := b32 w1
  obtain ⟨p2, q2⟩ := b32 w2
  obtain ⟨p3, q3⟩ := b16 w3
  obtain ⟨p4, q4⟩ := b32 w4
  clear w0 w1 w2 w3 w4
  obtain ⟨k1, k2, k3⟩ := keeps a0 a1 a2 a3 a4 p0 q0 p1 q1 p2 q2 p3 q3 p4 q4
  obtain ⟨P, hP⟩ : ∃ P, prm a0 a1 a2 a3 a4 = P := ⟨_, rfl⟩
  rw [hP] at k1 k2 k3
  have HP := hide hP
  clear hP
  have d1 : decide (P ≤ a4) = true := decide_eq_true k1
  by_cases c1 : P ≤ a0 + a3
  · have d2 : decide (P ≤ a0 + a3) = true := decide_eq_true c1
    by_cases c4 : P = a4
    · have d4 : (P == a4) = true := by rw [beq_iff_eq]; exact c4
      clear k1 k2 k3 c1 c4
      go_enter Try.func7, Try.ntmps7
      go_wp2_with (first | (go_at_call 16; refine (promise_call _ _ _ _ _ _).mono ?_; rintro e w1 ⟨rfl, hb1⟩; rw [HP.out]) | (go_at_call 15; refine (awake_call _).mono ?_; rintro e w3 ⟨rfl, hb3⟩))
      go_ret
      exact ⟨by first | rfl | simp, below_step hb1 hb3⟩
    · have d4 : (P == a4) = false := by rw [beq_eq_false_iff_ne]; exact c4
      have d5 : decide (a0 + a3 ≤ P) = true := decide_eq_true (by omega)
      clear k1 k2 k3 c1 c4
      go_enter Try.func7, Try.ntmps7
      go_wp2_with (first | (go_at_call 16; refine (promise_call _ _ _ _ _ _).mono ?_; rintro e w1 ⟨rfl, hb1⟩; rw [HP.out]) | (go_at_call 15; refine (awake_call _).mono ?_; rintro e w3 ⟨rfl, hb3⟩))
      go_ret
      exact ⟨by first | rfl | simp, below_step hb1 hb3⟩
  · have d2 : decide (P ≤ a0 + a3) = false := decide_eq_false c1
    have d6 : decide (P ≤ a1 + a3) = true := decide_eq_true (by omega)
    have d7 : decide (P ≤ a2 + a3) = true := decide_eq_true (by omega)
    by_cases c4 : P = a4
    · have d4 : (P == a4) = true := by rw [beq_iff_eq]; exact c4
      clear k1 k2 k3 c1 c4
      go_enter Try.func7, Try.ntmps7
      go_wp2_with (first | (go_at_call 16; refine (promise_call _ _ _ _ _ _).mono ?_; rintro e w1 ⟨rfl, hb1⟩; rw [HP.out]) | (go_at_call 15; refine (awake_call _).mono ?_; rintro e w3 ⟨rfl, hb3⟩))
      go_ret
      exact ⟨by first | rfl | simp, below_step hb1 hb3⟩
    · have d4 : (P == a4) = false := by rw [beq_eq_false_iff_ne]; exact c4
      have d5 : decide (a0 + a3 ≤ P) = true := decide_eq_true (by omega)
      clear k1 k2 k3 c1 c4
      go_enter Try.func7, Try.ntmps7
      go_wp2_with (first | (go_at_call 16; refine (promise_call _ _ _ _ _ _).mono ?_; rintro e w1 ⟨rfl, hb1⟩; rw [HP.out]) | (go_at_call 15; refine (awake_call _).mono ?_; rintro e w3 ⟨rfl, hb3⟩))
      go_ret
      exact ⟨by first | rfl | simp, below_step hb1 hb3⟩
end Go.Proofs.Ytcccigdlmljalaa.clockKeeps
