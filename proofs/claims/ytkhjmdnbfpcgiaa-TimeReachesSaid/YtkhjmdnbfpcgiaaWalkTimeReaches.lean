/- The walk of isochronlaw01.TimeReaches: the Go text returns true, at every input. -/
import Derived.Test.YtkhjmdnbfpcgiaaReach
import Derived.Deep.RegionWith
namespace Go.Proofs.Ytkhjmdnbfpcgiaa.timeReaches
open Go.RowKit Go.Proofs.Ytkhjmdnbfpcgiaa.PTimeAdds Go.Proofs.YtkhjmdnbfpcgiaaW.PrintWords Go.Proofs.YtkhjmdnbfpcgiaaW.PrintLast Go.Proofs.YtkhjmdnbfpcgiaaW.PrintMore Go.Proofs.Ytkhjmdnbfpcgiaa.Reach
set_option linter.unusedVariables false
set_option linter.unusedSimpArgs false
attribute [local go_sem] max2_int min2_int max_two min_two max_three min_three max_four min_four
set_option maxHeartbeats 8000000 in
set_option maxRecDepth 100000 in
theorem rreach_call (t d : Int) (w : World) : Calls Try.prog 18 #[.int .i64 t, .int .i64 d] w fun e w' => e = .returned (.int .i64 (rch t d)) ∧ Below w.heap.size w w' := by
  have HB := Aside0.mk (Below.refl w.heap.size w)
  obtain ⟨c, hc⟩ : ∃ c, mx d 0 = c := ⟨_, rfl⟩
  obtain ⟨m, hm⟩ : ∃ m, mx t 0 = m := ⟨_, rfl⟩
  obtain ⟨b, hb⟩ : ∃ b, mn m 4611686018427387904 = b := ⟨_, rfl⟩
  have b0 : 0 ≤ b := by rw [← hb, ← hm]; unfold mn mx; repeat' split
                        all_goals omega
  have b1 : b ≤ 4611686018427387904 := by rw [← hb]; unfold mn; split <;> omega
  have c0 : 0 ≤ c := by rw [← hc]; unfold mx; split <;> omega
  have HE : Aside0 (rch t d = if 4611686018427387904 - b < c then 4611686018427387904 else b + c) := ⟨by rw [← hb, ← hm, ← hc]; rfl⟩
  have hm_ : (if t < 0 then 0 else t) = m := hm
  have hb_ : (if 4611686018427387904 < m then 4611686018427387904 else m) = b := hb
  have hc_ : (if d < 0 then 0 else d) = c := hc
  clear hb hc hm
  by_cases hlt : 4611686018427387904 - b < c
  · have HE2 : Aside0 (rch t d = 4611686018427387904) := ⟨by rw [HE.out, if_pos hlt]⟩
    clear HE
    go_enter Try.func18, Try.ntmps18
    go_wp2
    go_ret
    exact ⟨by rw [HE2.out]; rfl, by repeat (first | (with_reducible first | exact HB.out | apply below_alloc | apply pw_below_drewN | apply below_drew1) | exact HB.out)⟩
  · have HE2 : Aside0 (rch t d = b + c) := ⟨by rw [HE.out, if_neg hlt]⟩
    clear HE
    go_enter Try.func18, Try.ntmps18
    go_wp2
    go_ret
    exact ⟨by rw [HE2.out]; rfl, by repeat (first | (with_reducible first | exact HB.out | apply below_alloc | apply pw_below_drewN | apply below_drew1) | exact HB.out)⟩
set_option maxHeartbeats 8000000 in
set_option maxRecDepth 100000 in
theorem walk (a0 : Int) (w0 : (Lit.int .i64 a0).wf = true) (a1 : Int) (w1 : (Lit.int .i64 a1).wf = true) (w : World) :
    Calls Try.prog 4 #[.int .i64 a0, .int .i64 a1] w fun e w' => e = .returned (.bool true) ∧ Below w.heap.size w w' := by
  have HB := Aside0.mk (Below.refl w.heap.size w)
  go_enter Try.func4, Try.ntmps4
  go_wp2_with (first | (go_at_call 16; refine (awake_call _).mono ?_; rintro e w' ⟨rfl, ⟨nd, rfl⟩⟩) | (go_at_call 17; refine (reach_call _ _ _).mono ?_; rintro e w1 ⟨rfl, hb⟩; have n0_ := Aside0.mk (below_step (by repeat (first | exact HB.out | apply below_alloc | apply pw_below_drewN | apply below_drew1)) hb); clear HB; have HB := n0_; clear n0_; clear hb) | (go_at_call 18; refine (rreach_call _ _ _).mono ?_; rintro e w1 ⟨rfl, hb⟩; have n0_ := Aside0.mk (below_step (by repeat (first | exact HB.out | apply below_alloc | apply pw_below_drewN | apply below_drew1)) hb); clear HB; have HB := n0_; clear n0_; clear hb))
  go_ret
  exact ⟨by first | rfl | (simp; done) | (simp [*]; done), by repeat (first | exact HB.out | apply below_alloc | apply pw_below_drewN | apply below_drew1)⟩
end Go.Proofs.Ytkhjmdnbfpcgiaa.timeReaches
