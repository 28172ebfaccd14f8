/- The walk of isochronlaw01.TimeBack: the Go text returns true, at every input. -/
import Derived.Test.YtkhjmdnbfpcgiaaReach
import Derived.Deep.RegionWith
namespace Go.Proofs.Ytkhjmdnbfpcgiaa.timeBack
open Go.RowKit Go.Proofs.Ytkhjmdnbfpcgiaa.PTimeAdds Go.Proofs.YtkhjmdnbfpcgiaaW.PrintWords Go.Proofs.YtkhjmdnbfpcgiaaW.PrintLast Go.Proofs.YtkhjmdnbfpcgiaaW.PrintMore Go.Proofs.Ytkhjmdnbfpcgiaa.Reach
set_option linter.unusedVariables false
set_option linter.unusedSimpArgs false
set_option maxHeartbeats 8000000 in
set_option maxRecDepth 100000 in
theorem walk (a0 : Int) (w0 : (Lit.int .i64 a0).wf = true) (a1 : Int) (w1 : (Lit.int .i64 a1).wf = true) (w : World) :
    Calls Try.prog 5 #[.int .i64 a0, .int .i64 a1] w fun e w' => e = .returned (.bool true) ∧ Below w.heap.size w w' := by
  have HB := Aside0.mk (Below.refl w.heap.size w)
  have bt := b64 w0
  have bd := b64 w1
  clear w0 w1
  by_cases h : 0 ≤ a0 ∧ a0 ≤ 4611686018427387903
  · rcases Int.lt_or_le a1 0 with h2 | h2
    · have HA := Aside0.mk (add_neg h.1 h.2 h2)
      have HV := Aside0.mk h
      clear h
      go_enter Try.func5, Try.ntmps5
      go_wp2_with (first | (go_at_call 12; refine (vtime_Add.calls _ _ _ _ _ HA.out).mono ?_; rintro e w' ⟨rfl, ⟨nd, rfl⟩⟩) | (go_at_call 14; refine (valid_yes _ HV.out _).mono ?_; rintro e w' ⟨rfl, ⟨nd, rfl⟩⟩) | (go_at_call 16; refine (awake_call _).mono ?_; rintro e w' ⟨rfl, ⟨nd, rfl⟩⟩) | (go_at_call 17; refine (reach_call _ _ _).mono ?_; rintro e w1 ⟨rfl, hb⟩; have n0_ := Aside0.mk (below_step (by repeat (first | exact HB.out | apply below_alloc | apply pw_below_drewN | apply below_drew1)) hb); clear HB; have HB := n0_; clear n0_; clear hb))
      go_ret
      exact ⟨by first | rfl | (simp; done) | (simp [*]; done), by repeat (first | exact HB.out | apply below_alloc | apply pw_below_drewN | apply below_drew1)⟩
    · rcases Int.lt_or_le (4611686018427387903 - a0) a1 with h3 | h3
      · have HA := Aside0.mk (add_far h.1 h.2 h2 h3)
        have HV := Aside0.mk h
        have e2 : rch a0 a1 = 4611686018427387904 := by unfold rch mn mx; repeat' split
                                                        all_goals omega
        have e2' := Aside0.mk e2
        have e3 : (rch a0 a1 == 4611686018427387904) = true := by rw [e2]; rfl
        have e1 : wrap64 (4611686018427387903 - a1) < a0 := by unfold wrap64; omega
        clear h e2
        go_enter Try.func5, Try.ntmps5
        go_wp2_with (first | (go_at_call 12; refine (vtime_Add.calls _ _ _ _ _ HA.out).mono ?_; rintro e w' ⟨rfl, ⟨nd, rfl⟩⟩) | (go_at_call 14; refine (valid_yes _ HV.out _).mono ?_; rintro e w' ⟨rfl, ⟨nd, rfl⟩⟩) | (go_at_call 16; refine (awake_call _).mono ?_; rintro e w' ⟨rfl, ⟨nd, rfl⟩⟩) | (go_at_call 17; refine (reach_call _ _ _).mono ?_; rintro e w1 ⟨rfl, hb⟩; have n0_ := Aside0.mk (below_step (by repeat (first | exact HB.out | apply below_alloc | apply pw_below_drewN | apply below_drew1)) hb); clear HB; have HB := n0_; clear n0_; clear hb))
        go_ret
        exact ⟨by first | rfl | (simp; done) | (simp [*]; done), by repeat (first | exact HB.out | apply below_alloc | apply pw_below_drewN | apply below_drew1)⟩
      · have HA := Aside0.mk (add_ok h.1 h.2 h2 h3)
        have HV : Aside0 (0 ≤ a0 + a1 ∧ a0 + a1 ≤ 4611686018427387903) := ⟨by omega⟩
        have e2 : rch a0 a1 = a0 + a1 := by unfold rch mn mx; repeat' split
                                            all_goals omega
        have e3 : (rch a0 a1 == a0 + a1) = true := by rw [e2]; simp
        have e4 : (a0 + a1 - a1 == a0) = true := by rw [beq_iff_eq]; omega
        have e5 : decide (a0 ≤ a0 + a1) = true := decide_eq_true (by omega)
        have e6 := h.1
        have e7 := h.2
        clear h e2
        go_enter Try.func5, Try.ntmps5
        go_wp2_with (first | (go_at_call 12; refine (vtime_Add.calls _ _ _ _ _ HA.out).mono ?_; rintro e w' ⟨rfl, ⟨nd, rfl⟩⟩) | (go_at_call 14; refine (valid_yes _ HV.out _).mono ?_; rintro e w' ⟨rfl, ⟨nd, rfl⟩⟩) | (go_at_call 16; refine (awake_call _).mono ?_; rintro e w' ⟨rfl, ⟨nd, rfl⟩⟩) | (go_at_call 17; refine (reach_call _ _ _).mono ?_; rintro e w1 ⟨rfl, hb⟩; have n0_ := Aside0.mk (below_step (by repeat (first | exact HB.out | apply below_alloc | apply pw_below_drewN | apply below_drew1)) hb); clear HB; have HB := n0_; clear n0_; clear hb))
        go_ret
        exact ⟨by first | rfl | (simp; done) | (simp [*]; done), by repeat (first | exact HB.out | apply below_alloc | apply pw_below_drewN | apply below_drew1)⟩
  · have HA := Aside0.mk (add_bad (d := a1) h)
    have HV := Aside0.mk h
    clear h
    go_enter Try.func5, Try.ntmps5
    go_wp2_with (first | (go_at_call 12; refine (vtime_Add.calls _ _ _ _ _ HA.out).mono ?_; rintro e w' ⟨rfl, ⟨nd, rfl⟩⟩) | (go_at_call 14; refine (valid_no _ HV.out _).mono ?_; rintro e w' ⟨rfl, ⟨nd, rfl⟩⟩) | (go_at_call 16; refine (awake_call _).mono ?_; rintro e w' ⟨rfl, ⟨nd, rfl⟩⟩) | (go_at_call 17; refine (reach_call _ _ _).mono ?_; rintro e w1 ⟨rfl, hb⟩; have n0_ := Aside0.mk (below_step (by repeat (first | exact HB.out | apply below_alloc | apply pw_below_drewN | apply below_drew1)) hb); clear HB; have HB := n0_; clear n0_; clear hb))
    go_ret
    exact ⟨by first | rfl | (simp; done) | (simp [*]; done), by repeat (first | exact HB.out | apply below_alloc | apply pw_below_drewN | apply below_drew1)⟩
end Go.Proofs.Ytkhjmdnbfpcgiaa.timeBack
