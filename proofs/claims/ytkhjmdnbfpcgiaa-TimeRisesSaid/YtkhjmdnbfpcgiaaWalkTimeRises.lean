/- The walk of isochronlaw01.TimeRises: the Go text returns true, at every input. -/
import Derived.Test.YtkhjmdnbfpcgiaaReach
import Derived.Deep.RegionWith
namespace Go.Proofs.Ytkhjmdnbfpcgiaa.timeRises
open Go.RowKit Go.Proofs.Ytkhjmdnbfpcgiaa.PTimeAdds Go.Proofs.YtkhjmdnbfpcgiaaW.PrintWords Go.Proofs.YtkhjmdnbfpcgiaaW.PrintLast Go.Proofs.YtkhjmdnbfpcgiaaW.PrintMore Go.Proofs.Ytkhjmdnbfpcgiaa.Reach
set_option linter.unusedVariables false
set_option linter.unusedSimpArgs false
set_option maxHeartbeats 8000000 in
set_option maxRecDepth 100000 in
theorem walk (a0 : Int) (w0 : (Lit.int .i64 a0).wf = true) (a1 : Int) (w1 : (Lit.int .i64 a1).wf = true) (a2 : Int) (w2 : (Lit.int .i64 a2).wf = true) (a3 : Int) (w3 : (Lit.int .i64 a3).wf = true) (w : World) :
    Calls Try.prog 6 #[.int .i64 a0, .int .i64 a1, .int .i64 a2, .int .i64 a3] w fun e w' => e = .returned (.bool true) ∧ Below w.heap.size w w' := by
  have HB := Aside0.mk (Below.refl w.heap.size w)
  have r0 : 0 ≤ rch a0 a1 := by unfold rch mn mx; repeat' split
                                all_goals omega
  have r1 : rch a0 a1 ≤ 4611686018427387904 := by unfold rch mn mx; repeat' split
                                                  all_goals omega
  have r2 : a0 ≤ a2 → rch a0 a1 ≤ rch a2 a1 := by intro h; unfold rch mn mx; repeat' split
                                                  all_goals omega
  have r3 : a1 ≤ a3 → rch a0 a1 ≤ rch a0 a3 := by intro h; unfold rch mn mx; repeat' split
                                                  all_goals omega
  have d0 : decide (rch a0 a1 < 0) = false := decide_eq_false (by omega)
  have d1 : decide (4611686018427387904 < rch a0 a1) = false := decide_eq_false (by omega)
  clear w0 w1 w2 w3
  by_cases hm : a0 ≤ a2
  · by_cases hg : a3 < a1
    · have X := True.intro
      have c1 : decide (a0 ≤ a2) = true := decide_eq_true hm
      have c2 : decide (a3 < a1) = true := decide_eq_true hg
      have c3 : decide (rch a2 a1 < rch a0 a1) = false := decide_eq_false (by have := r2 hm; omega)
      clear hm hg r2 r3
      go_enter Try.func6, Try.ntmps6
      go_wp2_with (first | (go_at_call 16; refine (awake_call _).mono ?_; rintro e w' ⟨rfl, ⟨nd, rfl⟩⟩) | (go_at_call 17; refine (reach_call _ _ _).mono ?_; rintro e w1 ⟨rfl, hb⟩; have n0_ := Aside0.mk (below_step (by repeat (first | exact HB.out | apply below_alloc | apply pw_below_drewN | apply below_drew1)) hb); clear HB; have HB := n0_; clear n0_; clear hb))
      go_ret
      exact ⟨by first | rfl | (simp; done) | (simp [*]; done), by repeat (first | exact HB.out | apply below_alloc | apply pw_below_drewN | apply below_drew1)⟩
    · have X := True.intro
      have c1 : decide (a0 ≤ a2) = true := decide_eq_true hm
      have c2 : decide (a3 < a1) = false := decide_eq_false hg
      have c3 : decide (rch a2 a1 < rch a0 a1) = false := decide_eq_false (by have := r2 hm; omega)
      have c4 : decide (rch a0 a1 ≤ rch a0 a3) = true := decide_eq_true (r3 (by omega))
      clear hm hg r2 r3
      go_enter Try.func6, Try.ntmps6
      go_wp2_with (first | (go_at_call 16; refine (awake_call _).mono ?_; rintro e w' ⟨rfl, ⟨nd, rfl⟩⟩) | (go_at_call 17; refine (reach_call _ _ _).mono ?_; rintro e w1 ⟨rfl, hb⟩; have n0_ := Aside0.mk (below_step (by repeat (first | exact HB.out | apply below_alloc | apply pw_below_drewN | apply below_drew1)) hb); clear HB; have HB := n0_; clear n0_; clear hb))
      go_ret
      exact ⟨by first | rfl | (simp; done) | (simp [*]; done), by repeat (first | exact HB.out | apply below_alloc | apply pw_below_drewN | apply below_drew1)⟩
  · by_cases hg : a3 < a1
    · have X := True.intro
      have c1 : decide (a0 ≤ a2) = false := decide_eq_false hm
      have c2 : decide (a3 < a1) = true := decide_eq_true hg
      clear hm hg r2 r3
      go_enter Try.func6, Try.ntmps6
      go_wp2_with (first | (go_at_call 16; refine (awake_call _).mono ?_; rintro e w' ⟨rfl, ⟨nd, rfl⟩⟩) | (go_at_call 17; refine (reach_call _ _ _).mono ?_; rintro e w1 ⟨rfl, hb⟩; have n0_ := Aside0.mk (below_step (by repeat (first | exact HB.out | apply below_alloc | apply pw_below_drewN | apply below_drew1)) hb); clear HB; have HB := n0_; clear n0_; clear hb))
      go_ret
      exact ⟨by first | rfl | (simp; done) | (simp [*]; done), by repeat (first | exact HB.out | apply below_alloc | apply pw_below_drewN | apply below_drew1)⟩
    · have X := True.intro
      have c1 : decide (a0 ≤ a2) = false := decide_eq_false hm
      have c2 : decide (a3 < a1) = false := decide_eq_false hg
      have c4 : decide (rch a0 a1 ≤ rch a0 a3) = true := decide_eq_true (r3 (by omega))
      clear hm hg r2 r3
      go_enter Try.func6, Try.ntmps6
      go_wp2_with (first | (go_at_call 16; refine (awake_call _).mono ?_; rintro e w' ⟨rfl, ⟨nd, rfl⟩⟩) | (go_at_call 17; refine (reach_call _ _ _).mono ?_; rintro e w1 ⟨rfl, hb⟩; have n0_ := Aside0.mk (below_step (by repeat (first | exact HB.out | apply below_alloc | apply pw_below_drewN | apply below_drew1)) hb); clear HB; have HB := n0_; clear n0_; clear hb))
      go_ret
      exact ⟨by first | rfl | (simp; done) | (simp [*]; done), by repeat (first | exact HB.out | apply below_alloc | apply pw_below_drewN | apply below_drew1)⟩
end Go.Proofs.Ytkhjmdnbfpcgiaa.timeRises
