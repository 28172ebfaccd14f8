/- The walk of isochronlaw01.TimeTwice: the Go text returns true, at every input. -/
import Derived.Test.YtkhjmdnbfpcgiaaReach
import Derived.Deep.RegionWith
namespace Go.Proofs.Ytkhjmdnbfpcgiaa.timeTwice
open Go.RowKit Go.Proofs.Ytkhjmdnbfpcgiaa.PTimeAdds Go.Proofs.YtkhjmdnbfpcgiaaW.PrintWords Go.Proofs.YtkhjmdnbfpcgiaaW.PrintLast Go.Proofs.YtkhjmdnbfpcgiaaW.PrintMore Go.Proofs.Ytkhjmdnbfpcgiaa.Reach
set_option linter.unusedVariables false
set_option linter.unusedSimpArgs false
set_option maxHeartbeats 8000000 in
set_option maxRecDepth 100000 in
theorem walk (a0 : Int) (w0 : (Lit.int .i64 a0).wf = true) (a1 : Int) (w1 : (Lit.int .u32 a1).wf = true) (a2 : Int) (w2 : (Lit.int .u32 a2).wf = true) (w : World) :
    Calls Try.prog 7 #[.int .i64 a0, .int .u32 a1, .int .u32 a2] w fun e w' => e = .returned (.bool true) ∧ Below w.heap.size w w' := by
  have HB := Aside0.mk (Below.refl w.heap.size w)
  have hmin : IntKind.u32.min = 0 := rfl
  have hmax : IntKind.u32.max = 4294967295 := rfl
  simp only [Lit.wf, Bool.and_eq_true, decide_eq_true_eq] at w1 w2
  have p1 : 0 ≤ a1 := by omega
  have p2 : 0 ≤ a2 := by omega
  have q1 : a1 ≤ 4294967295 := by omega
  have q2 : a2 ≤ 4294967295 := by omega
  clear w0 w1 w2 hmin hmax
  have hr : rch (rch a0 a1) a2 = rch a0 (a1 + a2) := by
    unfold rch mn mx
    repeat' split
    all_goals omega
  have e1 : (rch (rch a0 a1) a2 == rch a0 (a1 + a2)) = true := by rw [hr]; simp
  clear hr
  by_cases h : 0 ≤ a0 ∧ a0 ≤ 4611686018427387903
  · rcases Int.lt_or_le (4611686018427387903 - a0) a1 with h3 | h3
    · have HA := Aside0.mk (add_far h.1 h.2 p1 h3)
      have HB2 : Aside0 (vtime_Add.f a0 (a1 + a2) = some (0, 10)) := ⟨add_far h.1 h.2 (by omega) (by omega)⟩
      have HC : Aside0 (vtime_Add.f 0 a2 = some (a2, 0)) := ⟨by rw [add_ok (by omega) (by omega) p2 (by omega)]; simp⟩
      clear h h3
      go_enter Try.func7, Try.ntmps7
      go_wp2_with (first | (go_at_call_of 12 (Value.int .i64 (a1 + a2)); refine (vtime_Add.calls _ _ _ _ _ HB2.out).mono ?_; rintro e w' ⟨rfl, ⟨nd, rfl⟩⟩) | (go_at_call_of 12 (Value.int .i64 a1); refine (vtime_Add.calls _ _ _ _ _ HA.out).mono ?_; rintro e w' ⟨rfl, ⟨nd, rfl⟩⟩) | (go_at_call_of 12 (Value.int .i64 a2); refine (vtime_Add.calls _ _ _ _ _ HC.out).mono ?_; rintro e w' ⟨rfl, ⟨nd, rfl⟩⟩) | (go_at_call 16; refine (awake_call _).mono ?_; rintro e w' ⟨rfl, ⟨nd, rfl⟩⟩) | (go_at_call 17; refine (reach_call _ _ _).mono ?_; rintro e w1 ⟨rfl, hb⟩; have n0_ := Aside0.mk (below_step (by repeat (first | exact HB.out | apply below_alloc | apply pw_below_drewN | apply below_drew1)) hb); clear HB; have HB := n0_; clear n0_; clear hb))
      go_ret
      exact ⟨by first | rfl | (simp; done) | (simp [*]; done), by repeat (first | exact HB.out | apply below_alloc | apply pw_below_drewN | apply below_drew1)⟩
    · have HA := Aside0.mk (add_ok h.1 h.2 p1 h3)
      rcases Int.lt_or_le (4611686018427387903 - a0) (a1 + a2) with h4 | h4
      · have HB2 : Aside0 (vtime_Add.f a0 (a1 + a2) = some (0, 10)) := ⟨add_far h.1 h.2 (by omega) (by omega)⟩
        have HC : Aside0 (vtime_Add.f (a0 + a1) a2 = some (0, 10)) := ⟨add_far (by omega) (by omega) p2 (by omega)⟩
        have h5 := h.1
        have h6 := h.2
        clear h
        go_enter Try.func7, Try.ntmps7
        go_wp2_with (first | (go_at_call_of 12 (Value.int .i64 (a1 + a2)); refine (vtime_Add.calls _ _ _ _ _ HB2.out).mono ?_; rintro e w' ⟨rfl, ⟨nd, rfl⟩⟩) | (go_at_call_of 12 (Value.int .i64 a1); refine (vtime_Add.calls _ _ _ _ _ HA.out).mono ?_; rintro e w' ⟨rfl, ⟨nd, rfl⟩⟩) | (go_at_call_of 12 (Value.int .i64 a2); refine (vtime_Add.calls _ _ _ _ _ HC.out).mono ?_; rintro e w' ⟨rfl, ⟨nd, rfl⟩⟩) | (go_at_call 16; refine (awake_call _).mono ?_; rintro e w' ⟨rfl, ⟨nd, rfl⟩⟩) | (go_at_call 17; refine (reach_call _ _ _).mono ?_; rintro e w1 ⟨rfl, hb⟩; have n0_ := Aside0.mk (below_step (by repeat (first | exact HB.out | apply below_alloc | apply pw_below_drewN | apply below_drew1)) hb); clear HB; have HB := n0_; clear n0_; clear hb))
        go_ret
        exact ⟨by first | rfl | (simp; done) | (simp [*]; done), by repeat (first | exact HB.out | apply below_alloc | apply pw_below_drewN | apply below_drew1)⟩
      · have HB2 : Aside0 (vtime_Add.f a0 (a1 + a2) = some (a0 + (a1 + a2), 0)) := ⟨add_ok h.1 h.2 (by omega) (by omega)⟩
        have HC : Aside0 (vtime_Add.f (a0 + a1) a2 = some (a0 + a1 + a2, 0)) := ⟨add_ok (by omega) (by omega) p2 (by omega)⟩
        have e2 : (a0 + a1 + a2 == a0 + (a1 + a2)) = true := by rw [beq_iff_eq]; omega
        have h5 := h.1
        have h6 := h.2
        clear h
        go_enter Try.func7, Try.ntmps7
        go_wp2_with (first | (go_at_call_of 12 (Value.int .i64 (a1 + a2)); refine (vtime_Add.calls _ _ _ _ _ HB2.out).mono ?_; rintro e w' ⟨rfl, ⟨nd, rfl⟩⟩) | (go_at_call_of 12 (Value.int .i64 a1); refine (vtime_Add.calls _ _ _ _ _ HA.out).mono ?_; rintro e w' ⟨rfl, ⟨nd, rfl⟩⟩) | (go_at_call_of 12 (Value.int .i64 a2); refine (vtime_Add.calls _ _ _ _ _ HC.out).mono ?_; rintro e w' ⟨rfl, ⟨nd, rfl⟩⟩) | (go_at_call 16; refine (awake_call _).mono ?_; rintro e w' ⟨rfl, ⟨nd, rfl⟩⟩) | (go_at_call 17; refine (reach_call _ _ _).mono ?_; rintro e w1 ⟨rfl, hb⟩; have n0_ := Aside0.mk (below_step (by repeat (first | exact HB.out | apply below_alloc | apply pw_below_drewN | apply below_drew1)) hb); clear HB; have HB := n0_; clear n0_; clear hb))
        go_ret
        exact ⟨by first | rfl | (simp; done) | (simp [*]; done), by repeat (first | exact HB.out | apply below_alloc | apply pw_below_drewN | apply below_drew1)⟩
  · have HA := Aside0.mk (add_bad (d := a1) h)
    have HB2 := Aside0.mk (add_bad (d := a1 + a2) h)
    have HC : Aside0 (vtime_Add.f 0 a2 = some (a2, 0)) := ⟨by rw [add_ok (by omega) (by omega) p2 (by omega)]; simp⟩
    clear h
    go_enter Try.func7, Try.ntmps7
    go_wp2_with (first | (go_at_call_of 12 (Value.int .i64 (a1 + a2)); refine (vtime_Add.calls _ _ _ _ _ HB2.out).mono ?_; rintro e w' ⟨rfl, ⟨nd, rfl⟩⟩) | (go_at_call_of 12 (Value.int .i64 a1); refine (vtime_Add.calls _ _ _ _ _ HA.out).mono ?_; rintro e w' ⟨rfl, ⟨nd, rfl⟩⟩) | (go_at_call_of 12 (Value.int .i64 a2); refine (vtime_Add.calls _ _ _ _ _ HC.out).mono ?_; rintro e w' ⟨rfl, ⟨nd, rfl⟩⟩) | (go_at_call 16; refine (awake_call _).mono ?_; rintro e w' ⟨rfl, ⟨nd, rfl⟩⟩) | (go_at_call 17; refine (reach_call _ _ _).mono ?_; rintro e w1 ⟨rfl, hb⟩; have n0_ := Aside0.mk (below_step (by repeat (first | exact HB.out | apply below_alloc | apply pw_below_drewN | apply below_drew1)) hb); clear HB; have HB := n0_; clear n0_; clear hb))
    go_ret
    exact ⟨by first | rfl | (simp; done) | (simp [*]; done), by repeat (first | exact HB.out | apply below_alloc | apply pw_below_drewN | apply below_drew1)⟩
end Go.Proofs.Ytkhjmdnbfpcgiaa.timeTwice
