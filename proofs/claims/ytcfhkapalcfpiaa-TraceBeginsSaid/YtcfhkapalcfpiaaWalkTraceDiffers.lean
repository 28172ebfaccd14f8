/- The walk of TraceDiffers. -/
import Derived.Test.YtcfhkapalcfpiaaTraceC
import Derived.Test.YtcfhkapalcfpiaaKindsTraceDiffers
import Derived.Laws.Rows
import Derived.Laws.NewBlocks
import Derived.Deep.RegionHeld3
namespace Go.Proofs.Ytcfhkapalcfpiaa.traceDiffers
open Go.RowKit Go.Proofs.Ytcfhkapalcfpiaa.Types Go.Proofs.Ytcfhkapalcfpiaa.Heap Go.Proofs.Ytcfhkapalcfpiaa.Trace Go.Proofs.YtcfhkapalcfpiaaW.PrintWords Go.Proofs.YtcfhkapalcfpiaaW.PrintLast Go.Proofs.YtcfhkapalcfpiaaW.PrintMore
set_option linter.unusedVariables false
set_option linter.unusedSimpArgs false
attribute [local go_sem high] PTraceDiffers.eqA29 PTraceDiffers.eqA27
theorem take_C {w : World} {A : Option Addr} {n m : Nat} {a : List S29} (h : Kd.C k29 w A n a) (hm : m ≤ n) : Kd.C k29 w A m (a.take m) := by
  refine ⟨by rw [List.length_take, h.1]; omega, by have := h.2.1; omega, fun h0 => ?_⟩
  obtain ⟨ad, e, hc⟩ := h.2.2 (by omega)
  refine ⟨ad, e, fun j p hj => hc j p ?_⟩
  rcases Nat.lt_or_ge j m with g | g
  · rwa [List.getElem?_take_of_lt g] at hj
  · rw [List.getElem?_eq_none (by rw [List.length_take]; omega)] at hj; cases hj
set_option maxHeartbeats 16000000 in
set_option maxRecDepth 100000 in
theorem walk (A0 : Option Addr) (c0 : Nat) (l0 : List S29) (hc0 : l0.length ≤ c0) (w0 : ∀ y ∈ l0, I29 y) (y0 : l0.length * 40 ≤ 140737488351232) (A1 : Option Addr) (c1 : Nat) (l1 : List S29) (hc1 : l1.length ≤ c1) (w1 : ∀ y ∈ l1, I29 y) (y1 : l1.length * 40 ≤ 140737488351232) (w : World) (hr0 : Kd.C k29 w A0 l0.length l0) (hr1 : Kd.C k29 w A1 l1.length l1) :
    Calls Try.prog 3 #[.slice A0 l0.length c0, .slice A1 l1.length c1] w fun e w' => e = .returned (.bool true) ∧ Below w.heap.size w w' := by
  obtain ⟨r, hr⟩ := dif_ex l0 l1
  have HD := hide (differ_call A0 c0 l0 A1 c1 l1 hc0 hc1 y0 y1 r hr w hr0 hr1)
  have H0 := hide hr0
  have H1 := hide hr1
  clear hr0 hr1 w0 w1
  rcases hr with ⟨rfl, he⟩ | ⟨n, rfl, hn0, hn1, ht, hne⟩
  · have HS : Hid (∀ W, Below w.heap.size w W → Calls Try.prog 12 #[.slice A0 l0.length c0, .slice A1 l1.length c1] W fun e w' => e = .returned (.bool true) ∧ Below W.heap.size W w') :=
      hide fun W hb => same_call A0 _ c0 l0 A1 _ c1 l1 rfl rfl y0 true (by simpa using he) W (H0.out.imp_ hb (fun _ _ h => k29.K_below hb h)) (H1.out.imp_ hb (fun _ _ h => k29.K_below hb h))
    clear he
    go_enter Try.func3, Try.ntmps3
    go_wp2_with (first | (go_at_call 11; refine (unhide HD).mono ?_; rintro e w1 ⟨rfl, hb1⟩; have HB1 := hide hb1; clear hb1) | (go_at_call 12; refine (unhide HS _ HB1.out).mono ?_; rintro e w2 ⟨rfl, hb2⟩; have HB2 := hide (below_step HB1.out hb2); clear hb2) | (go_at_call 13; refine (awake_call _).mono ?_; rintro e w3 ⟨rfl, hb3⟩; have HB3 := hide (below_step HB2.out hb3); clear hb3))
    go_ret
    exact ⟨rfl, HB3.out⟩
  · have HS : Hid (∀ W, Below w.heap.size w W → Calls Try.prog 12 #[.slice A0 n c0, .slice A1 n c1] W fun e w' => e = .returned (.bool true) ∧ Below W.heap.size W w') :=
      hide fun W hb => same_call A0 n c0 (l0.take n) A1 n c1 (l1.take n) (by rw [List.length_take]; omega) (by rw [List.length_take]; omega) (by rw [List.length_take]; omega) true (by simpa using ht) W (take_C (H0.out.imp_ hb (fun _ _ h => k29.K_below hb h)) hn0) (take_C (H1.out.imp_ hb (fun _ _ h => k29.K_below hb h)) hn1)
    clear ht
    have g0 : decide ((n : Int) < 0) = false := decide_eq_false (by omega)
    have g1 : decide ((l0.length : Int) < (n : Int)) = false := decide_eq_false (by omega)
    have g2 : decide ((l1.length : Int) < (n : Int)) = false := decide_eq_false (by omega)
    have g3 : decide (l0.length < n) = false := decide_eq_false (by omega)
    have g4 : decide (l1.length < n) = false := decide_eq_false (by omega)
    have g5 : n ≤ c0 := by omega
    have g6 : n ≤ c1 := by omega
    have g7 : (n : Int) ≤ (c0 : Int) := by omega
    have g8 : (n : Int) ≤ (c1 : Int) := by omega
    have g9 : (0 : Int) ≤ (n : Int) := by omega
    go_enter Try.func3, Try.ntmps3
    go_wp2_with (go_at_call 11; refine (unhide HD).mono ?_; rintro e w1 ⟨rfl, hb1⟩; have HB1 := hide hb1; clear hb1)
    have HK1 := HB1
    go_region_held3 (fun w' => True) (trivial) (first | (go_at_call 12; refine (unhide HS _ (by first | exact HB1.out | exact HB1.out.drew | exact below_drewN HB1.out _)).mono ?_; rintro e w2 ⟨rfl, hb2⟩; (first | have HB2 := hide (below_step HB1.out hb2) | have HB2 := hide (below_step HB1.out.drew hb2)); clear hb2))
    by_cases e0 : n = l0.length
    · subst e0
      have f0 : ((l0.length : Int) == (l0.length : Int)) = true := by simp
      have f1 : (l0.length == l0.length) = true := by simp
      go_wp2_with fail
      go_quiet (fail)
      go_wp2_with fail
      go_ret
      exact ⟨rfl, below_drewN HB2.out _⟩
    · have f0 : ((n : Int) == (l0.length : Int)) = false := beq_eq_false_iff_ne.mpr (by omega)
      have f1 : (n == l0.length) = false := by simpa using e0
      by_cases e1 : n = l1.length
      · subst e1
        have f2 : ((l1.length : Int) == (l1.length : Int)) = true := by simp
        have f3 : (l1.length == l1.length) = true := by simp
        go_wp2_with fail
        go_quiet (fail)
        go_wp2_with fail
        go_ret
        exact ⟨rfl, below_drewN HB2.out _⟩
      · have f2 : ((n : Int) == (l1.length : Int)) = false := beq_eq_false_iff_ne.mpr (by omega)
        have f3 : (n == l1.length) = false := by simpa using e1
        have t0 : n < l0.length := by omega
        have t1 : n < l1.length := by omega
        obtain ⟨ad, rfl, q0, q1, q2, q3, q4⟩ := at_S29 (H0.out.imp_ HB2.out (fun _ _ h => k29.K_below HB2.out h)) t0
        obtain ⟨bd, rfl, p0, p1, p2, p3, p4⟩ := at_S29 (H1.out.imp_ HB2.out (fun _ _ h => k29.K_below HB2.out h)) t1
        have he : l0[n] ≠ l1[n] := fun h => hne (by rw [List.getElem?_eq_getElem t0, List.getElem?_eq_getElem t1, h])
        have b1 : (n : Int) < (l0.length : Int) := by omega
        have b2 : (n : Int) < (l1.length : Int) := by omega
        obtain ⟨x, hx⟩ : ∃ x, l0[n] = x := ⟨_, rfl⟩
        obtain ⟨y, hy⟩ : ∃ y, l1[n] = y := ⟨_, rfl⟩
        rw [hx] at q0 q1 q2 q3 q4 he
        rw [hy] at p0 p1 p2 p3 p4 he
        obtain ⟨n1, n2⟩ := ne_bool x y he
        clear hx hy he hne
        go_wp2_with fail
        go_quiet (fail)
        go_wp2_with fail
        go_ret
        exact ⟨rfl, below_drewN HB2.out _⟩
end Go.Proofs.Ytcfhkapalcfpiaa.traceDiffers
