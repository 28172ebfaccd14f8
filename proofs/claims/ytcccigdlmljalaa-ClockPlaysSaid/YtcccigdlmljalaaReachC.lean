/- What vtime.Reach and the reference's Reach answer. No law is proved here. -/
import Derived.Test.YtcccigdlmljalaaProg
import Derived.Test.YtcccigdlmljalaaWMore
namespace Go.Proofs.Ytcccigdlmljalaa.Reach
open Go.RowKit Go.Proofs.YtcccigdlmljalaaW.PrintWords Go.Proofs.YtcccigdlmljalaaW.PrintLast Go.Proofs.YtcccigdlmljalaaW.PrintMore
attribute [local go_sem] max2_int min2_int max_two min_two max_three min_three max_four min_four
set_option linter.unusedVariables false
set_option linter.unusedSimpArgs false

def rch (t d : Int) : Int := if 4611686018427387904 - mn (mx t 0) 4611686018427387904 < mx d 0 then 4611686018427387904 else mn (mx t 0) 4611686018427387904 + mx d 0

theorem rch_sum (t d : Int) : mn (mx t 0) 4611686018427387904 + mn (mx d 0) (4611686018427387904 - mn (mx t 0) 4611686018427387904) = rch t d := by
  unfold rch mn mx
  repeat' split
  all_goals omega

set_option maxHeartbeats 4000000 in
set_option maxRecDepth 100000 in
theorem reach_call (t d : Int) (w : World) : Calls Try.prog 23 #[.int .i64 t, .int .i64 d] w fun e w' => e = .returned (.int .i64 (rch t d)) ∧ Below w.heap.size w w' := by
  have HB := Aside0.mk (Below.refl w.heap.size w)
  have HS := Aside0.mk (rch_sum t d)
  obtain ⟨b, hb⟩ : ∃ b, mn (mx t 0) 4611686018427387904 = b := ⟨_, rfl⟩
  obtain ⟨c, hc⟩ : ∃ c, mx d 0 = c := ⟨_, rfl⟩
  obtain ⟨m, hm⟩ : ∃ m, mx t 0 = m := ⟨_, rfl⟩
  obtain ⟨e, he⟩ : ∃ e, mn c (4611686018427387904 - b) = e := ⟨_, rfl⟩
  have b0 : 0 ≤ b := by rw [← hb]; unfold mn mx; repeat' split
                        all_goals omega
  have b1 : b ≤ 4611686018427387904 := by rw [← hb]; unfold mn mx; repeat' split
                                          all_goals omega
  have e0 : 0 ≤ e := by
    have c0 : 0 ≤ c := by rw [← hc]; unfold mx; split <;> omega
    rw [← he]; unfold mn; split <;> omega
  have e1 : e ≤ 4611686018427387904 := by rw [← he]; unfold mn; split <;> omega
  have HE : Aside0 (b + e = rch t d) := ⟨by rw [← he, ← hb, ← hc]; exact HS.out⟩
  have hm_ : (if t < 0 then 0 else t) = m := hm
  have hb_ : (if 4611686018427387904 < m then 4611686018427387904 else m) = b := by rw [← hb, ← hm]; rfl
  have hc_ : (if d < 0 then 0 else d) = c := hc
  have he_ : (if 4611686018427387904 - b < c then 4611686018427387904 - b else c) = e := he
  clear hb hc hm he
  go_enter Try.func23, Try.ntmps23
  go_wp2
  go_ret
  exact ⟨by rw [← HE.out]; rfl, by repeat (first | (with_reducible first | exact HB.out | apply below_alloc | apply pw_below_drewN | apply below_drew1) | exact HB.out)⟩

set_option maxHeartbeats 8000000 in
set_option maxRecDepth 100000 in
theorem rreach_call (t d : Int) (w : World) : Calls Try.prog 24 #[.int .i64 t, .int .i64 d] w fun e w' => e = .returned (.int .i64 (rch t d)) ∧ Below w.heap.size w w' := by
  have HB := Aside0.mk (Below.refl w.heap.size w)
  obtain ⟨c, hc⟩ : ∃ c, mx d 0 = c := ⟨_, rfl⟩
  obtain ⟨m, hm⟩ : ∃ m, mx t 0 = m := ⟨_, rfl⟩
  obtain ⟨b, hb⟩ : ∃ b, mn m 4611686018427387904 = b := ⟨_, rfl⟩
  have b0 : 0 ≤ b := by rw [← hb, ← hm]; unfold mn mx; repeat' split
                        all_goals omega
  have b1 : b ≤ 4611686018427387904 := by rw [← hb]; unfold mn; split <;> omega
  have c0 : 0 ≤ c := by rw [← hc]; unfold mx; split <;> omega
  have HE : Aside0 (rch t d = if 4611686018427387904 - b < c then 4611686018427387904 else b + c) := ⟨by rw [← hb, ← hm, ← hc]; rfl⟩
  have hm_ : (if t < 0 then 0 else t) = m := hm
  have hb_ : (if 4611686018427387904 < m then 4611686018427387904 else m) = b := hb
  have hc_ : (if d < 0 then 0 else d) = c := hc
  clear hb hc hm
  by_cases hlt : 4611686018427387904 - b < c
  · have HE2 : Aside0 (rch t d = 4611686018427387904) := ⟨by rw [HE.out, if_pos hlt]⟩
    clear HE
    go_enter Try.func24, Try.ntmps24
    go_wp2
    go_ret
    exact ⟨by rw [HE2.out]; rfl, by repeat (first | (with_reducible first | exact HB.out | apply below_alloc | apply pw_below_drewN | apply below_drew1) | exact HB.out)⟩
  · have HE2 : Aside0 (rch t d = b + c) := ⟨by rw [HE.out, if_neg hlt]⟩
    clear HE
    go_enter Try.func24, Try.ntmps24
    go_wp2
    go_ret
    exact ⟨by rw [HE2.out]; rfl, by repeat (first | (with_reducible first | exact HB.out | apply below_alloc | apply pw_below_drewN | apply below_drew1) | exact HB.out)⟩
end Go.Proofs.Ytcccigdlmljalaa.Reach
