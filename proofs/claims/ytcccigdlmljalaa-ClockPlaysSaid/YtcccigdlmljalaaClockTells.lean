/- Tell, At, in one contract each; the walk of ClockTells. -/
import Derived.Test.YtcccigdlmljalaaClockLaws
namespace Go.Proofs.Ytcccigdlmljalaa.Clock
open Go.RowKit Go.Deep Go.Proofs.Ytcccigdlmljalaa.Heap Go.Proofs.YtcccigdlmljalaaW.PrintWords Go.Proofs.YtcccigdlmljalaaW.PrintLast Go.Proofs.YtcccigdlmljalaaW.PrintMore
set_option linter.unusedVariables false
set_option linter.unusedSimpArgs false

/-- May clock i of n be told t? -/
def may (n : Nat) (i t : Int) : Bool := decide (0 ≤ i ∧ i < n ∧ 0 ≤ t ∧ t ≤ 4611686018427387904)
def errOf (n : Nat) (i t : Int) : Int := if may n i t then 0 else 1
def nxt (ts : List Int) (i t : Int) : List Int := if may ts.length i t then ts.set i.toNat (mx (ts.getD i.toNat 0) t) else ts
def clkAt (ts : List Int) (i : Int) : Int := if 0 ≤ i ∧ i < ts.length then ts.getD i.toNat 0 else 0
theorem nxt_length (ts : List Int) (i t : Int) : (nxt ts i t).length = ts.length := by unfold nxt; split <;> simp

theorem tell_any (w : World) (p g : Nat) (ts : List Int) (i t : Int) (h : Clk w p g ts) :
    Calls Try.prog 10 #[.pointer (some ⟨p, 0, none⟩), .int .i64 i, .int .i64 t] w fun e w' => e = .returned (.int .i64 (errOf ts.length i t)) ∧ Clk w' p g (nxt ts i t) ∧ Only w w' (fun b => b = g) := by
  by_cases c : 0 ≤ i ∧ i < ts.length ∧ 0 ≤ t ∧ t ≤ 4611686018427387904
  · obtain ⟨k, rfl⟩ := Int.eq_ofNat_of_zero_le c.1
    have hk : k < ts.length := by omega
    have e1 : errOf ts.length k t = 0 := by unfold errOf may; rw [decide_eq_true c]; rfl
    have e2 : nxt ts k t = ts.set k (mx ts[k] t) := by unfold nxt may; rw [decide_eq_true c, Int.toNat_natCast]; simp [hk]
    rw [e1, e2]
    exact tell_ok w p g ts k t h hk c.2.2.1 c.2.2.2
  · have e1 : errOf ts.length i t = 1 := by unfold errOf may; rw [decide_eq_false c]; rfl
    have e2 : nxt ts i t = ts := by unfold nxt may; rw [decide_eq_false c]; rfl
    rw [e1, e2]
    exact (tell_bad w p g ts i t h (by omega)).mono fun _ _ ⟨he, hw⟩ => ⟨he, hw ▸ h, hw ▸ Only.refl w _⟩

theorem at_any (w : World) (p g : Nat) (ts : List Int) (i : Int) (h : Clk w p g ts) :
    Calls Try.prog 14 #[.pointer (some ⟨p, 0, none⟩), .int .i64 i] w fun e w' => e = .returned (.int .i64 (clkAt ts i)) ∧ w = w' := by
  by_cases c : 0 ≤ i ∧ i < ts.length
  · obtain ⟨k, rfl⟩ := Int.eq_ofNat_of_zero_le c.1
    have hk : k < ts.length := by omega
    have e : clkAt ts k = ts[k] := by unfold clkAt; rw [if_pos c, Int.toNat_natCast]; simp [hk]
    rw [e]
    exact at_in w p g ts k h hk
  · have e : clkAt ts i = 0 := by unfold clkAt; rw [if_neg c]
    rw [e]
    exact at_out w p g ts i h (by omega)
end Go.Proofs.Ytcccigdlmljalaa.Clock

namespace Go.Proofs.Ytcccigdlmljalaa.clockTells
open Go.RowKit Go.Deep Go.Proofs.Ytcccigdlmljalaa.Heap Go.Proofs.Ytcccigdlmljalaa.Clock Go.Proofs.YtcccigdlmljalaaW.PrintWords Go.Proofs.YtcccigdlmljalaaW.PrintLast Go.Proofs.YtcccigdlmljalaaW.PrintMore
set_option linter.unusedVariables false
set_option linter.unusedSimpArgs false
attribute [local go_sem] max2_int min2_int max_two min_two max_three min_three max_four min_four
theorem b8 {x : Int} (h : (Lit.int .u8 x).wf = true) : 0 ≤ x ∧ x ≤ 255 := by
  have hmin : IntKind.u8.min = 0 := rfl
  have hmax : IntKind.u8.max = 255 := rfl
  simp only [Lit.wf, Bool.and_eq_true, decide_eq_true_eq] at h
  omega
/-- What the clock shows behind two calls. -/
theorem last (m : Nat) (i a b : Int) :
    clkAt (nxt (nxt (List.replicate m 0) i a) i b) i = (if may m i b then mx (if may m i a then mx 0 a else 0) b else (if may m i a then mx 0 a else 0)) := by
  by_cases c : 0 ≤ i ∧ i < m
  · obtain ⟨k, rfl⟩ := Int.eq_ofNat_of_zero_le c.1
    have hk : k < m := by omega
    by_cases ca : may m k a = true <;> by_cases cb : may m k b = true <;> simp [clkAt, nxt, ca, cb, hk]
  · have ha : may m i a = false := by unfold may; exact decide_eq_false (by omega)
    have hb : may m i b = false := by unfold may; exact decide_eq_false (by omega)
    have e : nxt (nxt (List.replicate m 0) i a) i b = List.replicate m 0 := by simp [nxt, ha, hb]
    rw [e, ha, hb]
    unfold clkAt
    rw [if_neg (by simpa using c)]
    rfl
theorem err_of (n : Nat) (i t : Int) : errOf n i t = if 0 ≤ i ∧ i < n ∧ 0 ≤ t ∧ t ≤ 4611686018427387904 then 0 else 1 := by unfold errOf may; simp
theorem may_of (n : Nat) (i t : Int) : (may n i t = true) = (0 ≤ i ∧ i < n ∧ 0 ≤ t ∧ t ≤ 4611686018427387904) := by unfold may; simp
set_option maxHeartbeats 40000000 in
set_option maxRecDepth 100000 in
theorem core (M : Nat) (hM : 1 ≤ M) (hM2 : M ≤ 20) (a0 : Int) (hM3 : 1 + a0 % 20 = M) (h0 : 0 ≤ a0) (h1 : a0 ≤ 255) (a1 a2 a3 : Int) (w : World) (E1 E2 V : Int)
    (hE1 : errOf M a1 a2 = E1) (hE2 : errOf M a1 a3 = E2) (hV : clkAt (nxt (nxt (List.replicate M 0) a1 a2) a1 a3) a1 = V)
    (x1 x2 x3 x4 x5 x6 : Bool) (d1 : decide (0 ≤ a1) = x1) (d2 : decide (a1 < M) = x2) (d3 : decide (0 ≤ a2) = x3) (d4 : decide (a2 ≤ 4611686018427387904) = x4) (d5 : decide (0 ≤ a3) = x5) (d6 : decide (a3 ≤ 4611686018427387904) = x6)
    (m1 : Int) (hm1 : (if 0 < a2 then a2 else 0) = m1) (m2 : Int) (hm2 : (if m1 < a3 then a3 else m1) = m2) (m3 : Int) (hm3 : (if 0 < a3 then a3 else 0) = m3)
    (t1 : (E1 == 0) = (x1 && x2 && x3 && x4)) (t2 : (E2 == 0) = (x1 && x2 && x5 && x6)) (hend : V = (if E2 == 0 then (if E1 == 0 then m2 else m3) else (if E1 == 0 then m1 else 0))) :
    Calls Try.prog 5 #[.int .u8 a0, .int .i64 a1, .int .i64 a2, .int .i64 a3] w fun e w' => e = .returned (.bool true) ∧ Below w.heap.size w w' := by
  have T0 := hide (fun W => new_call M (by omega) W)
  have T1 : Hid (∀ (W : World) (p g : Nat), Clk W p g (List.replicate M 0) → Calls Try.prog 10 #[.pointer (some ⟨p, 0, none⟩), .int .i64 a1, .int .i64 a2] W fun e w' => e = .returned (.int .i64 E1) ∧ Clk w' p g (nxt (List.replicate M 0) a1 a2) ∧ Only W w' (fun b => b = g)) := fun W p g h => by
    have := tell_any W p g _ a1 a2 h
    rwa [List.length_replicate, hE1] at this
  have T2 : Hid (∀ (W : World) (p g : Nat), Clk W p g (nxt (List.replicate M 0) a1 a2) → Calls Try.prog 10 #[.pointer (some ⟨p, 0, none⟩), .int .i64 a1, .int .i64 a3] W fun e w' => e = .returned (.int .i64 E2) ∧ Clk w' p g (nxt (nxt (List.replicate M 0) a1 a2) a1 a3) ∧ Only W w' (fun b => b = g)) := fun W p g h => by
    have := tell_any W p g _ a1 a3 h
    rwa [nxt_length, List.length_replicate, hE2] at this
  have T3 : Hid (∀ (W : World) (p g : Nat), Clk W p g (nxt (nxt (List.replicate M 0) a1 a2) a1 a3) → Calls Try.prog 14 #[.pointer (some ⟨p, 0, none⟩), .int .i64 a1] W fun e w' => e = .returned (.int .i64 V) ∧ W = w') := fun W p g h => by
    have := at_any W p g _ a1 h
    rwa [hV] at this
  clear hE1 hE2 hV
  have q0 := hide (Only.refl w (fun _ => False))
  cases x1 <;> cases x2 <;> cases x3 <;> cases x4 <;> cases x5 <;> cases x6
  all_goals
    simp only [Bool.true_and, Bool.false_and, Bool.and_true, Bool.and_false] at t1 t2
    simp only [t1, t2, if_true, if_false, Bool.false_eq_true] at hend
    have HEND := hide hend
    clear hend
    go_enter Try.func5, Try.ntmps5
    go_wp2_with (first | (go_at_call 8; refine (T0.out _).mono ?_; rintro e w1 ⟨rfl, hC1, hO1⟩; have HC1 := hide hC1; clear hC1; have HO1 := hide hO1; clear hO1; clear T0) | (go_at_call 10; refine (T1.out _ _ _ HC1.out).mono ?_; rintro e w2 ⟨rfl, hC2, hO2⟩; have HC2 := hide hC2; clear hC2; have HO2 := hide hO2; clear hO2; clear T1) | (go_at_call 10; refine (T2.out _ _ _ HC2.out).mono ?_; rintro e w3 ⟨rfl, hC3, hO3⟩; have HC3 := hide hC3; clear hC3; have HO3 := hide hO3; clear hO3; clear T2) | (go_at_call 14; refine (T3.out _ _ _ HC3.out).mono ?_; rintro e w4 ⟨rfl, rfl⟩; rw [HEND.out]) | (go_at_call 15; refine (awake_call _).mono ?_; rintro e w5 ⟨rfl, hb5⟩))
    go_ret
    have o2 : Only w w3 (fun _ => False) := (HO1.out.step HO2.out (fun i hi hlt => by omega)).step HO3.out (fun i hi hlt => by omega)
    exact ⟨by first | rfl | simp, below_step (o2.below (Nat.le_refl _) (fun _ h => h.elim)) hb5⟩
end Go.Proofs.Ytcccigdlmljalaa.clockTells
