/- The walk of TraceLanes. -/
import Derived.Test.YtcfhkapalcfpiaaProject
import Derived.Test.YtcfhkapalcfpiaaKindsTraceLanes
import Derived.Deep.RegionHeld3
namespace Go.Proofs.Ytcfhkapalcfpiaa.traceLanes
open Go.RowKit Go.Proofs.Ytcfhkapalcfpiaa.Types Go.Proofs.Ytcfhkapalcfpiaa.Heap Go.Proofs.Ytcfhkapalcfpiaa.Trace Go.Proofs.YtcfhkapalcfpiaaW.PrintWords Go.Proofs.YtcfhkapalcfpiaaW.PrintLast Go.Proofs.YtcfhkapalcfpiaaW.PrintMore
set_option linter.unusedVariables false
set_option linter.unusedSimpArgs false
attribute [local go_sem high] PTraceDiffers.eqA29 PTraceDiffers.eqA27
theorem own_split (l : List D) (n : Int) (k : Nat) : own l n = own (l.take k) n ++ own (l.drop k) n := by
  unfold own
  rw [← List.filter_append, List.take_append_drop]
theorem own_own (l : List D) (n : Int) : own (own l n) n = own l n := by
  unfold own
  rw [List.filter_filter]
  simp
theorem lane {l : List D} {n : Int} {k : Nat} (hk : k < l.length) (h : (l[k].f1 == n) = true) : ∃ hlt : (own (l.take k) n).length < (own l n).length, (own l n)[(own (l.take k) n).length] = l[k] := by
  have e : own l n = own (l.take k) n ++ (l[k] :: own (l.drop (k + 1)) n) := by
    rw [own_split l n (k + 1), own_yes hk h, List.append_assoc]
    rfl
  have hlt : (own (l.take k) n).length < (own l n).length := by
    rw [e, List.length_append, List.length_cons]
    omega
  refine ⟨hlt, ?_⟩
  have : (own l n)[(own (l.take k) n).length]? = some l[k] := by
    rw [e, List.getElem?_append_right (Nat.le_refl _)]
    simp
  rw [List.getElem?_eq_getElem hlt] at this
  injection this
set_option maxHeartbeats 16000000 in
set_option maxRecDepth 100000 in
theorem walk (A0 : Option Addr) (c0 : Nat) (l0 : List S29) (hc0 : l0.length ≤ c0) (w0 : ∀ y ∈ l0, I29 y) (y0 : l0.length * 40 ≤ 140737488351232) (x1 : Int) (w1 : (Lit.int .i64 x1).wf = true) (w : World) (hr0 : Kd.C k29 w A0 l0.length l0) :
    Calls Try.prog 5 #[.slice A0 l0.length c0, .int .i64 x1] w fun e w' => e = .returned (.bool true) ∧ Below w.heap.size w w' := by
  have H1 := hide (project_call A0 c0 l0 hc0 y0 x1 w hr0)
  have H0 := hide hr0
  have hle0 : (own l0 x1).length ≤ l0.length := List.length_filter_le _ _
  have hle : (own l0 x1).length * 40 ≤ 140737488351232 := by omega
  have HL := hide hle
  clear hr0 w0 w1 hle
  go_enter Try.func5, Try.ntmps5
  go_wp2_with (go_at_call 14; refine (unhide H1).mono ?_; rintro e w1 ⟨v1, rfl, ho1, hb1⟩; obtain ⟨A1, c1, rfl, hl1, hC1⟩ := Kd.R_reads ho1; have HC1 := hide hC1; have HB1 := hide hb1; clear ho1 hb1 hC1 H1)
  go_loopw [6, 7] (fun v i wr => ∃ k : Nat, k ≤ l0.length ∧ i = .int .i64 k ∧ v = .int .i64 ((own (l0.take k) x1).length : Nat) ∧ Hid (Below w1.heap.size w1 wr)) (fun _ i _ => l0.length - (intOf i).toNat)
  case atStart => exact ⟨0, Nat.zero_le _, rfl, rfl, hide (Below.refl _ _)⟩
  case round =>
    obtain ⟨k, hk, rfl, rfl, HB⟩ := hrel
    have HW := hide (below_step HB1.out HB.out)
    by_cases hlt : k < l0.length
    · obtain ⟨ad, rfl, q0, q1, q2, q3, q4⟩ := at_S29 (H0.out.imp_ HW.out (fun _ _ h => k29.K_below HW.out h)) hlt
      have b1 : (k : Int) < (l0.length : Int) := by omega
      have hol := own_le l0 x1 k
      cases hb : (l0[k].f1 == x1)
      · have HN := hide (own_no hlt hb)
        have hb2 : (l0[k].f1 != x1) = true := by simp [bne, hb]
        obtain ⟨x, hx⟩ : ∃ x, l0[k] = x := ⟨_, rfl⟩
        rw [hx] at q0 q1 q2 q3 q4 hb hb2
        clear hx
        go_wp2
        go_roundw
        case rel => exact ⟨k + 1, by omega, by go_num, by rw [HN.out], HB⟩
        case measure => simp [intOf]; omega
      · have HY := hide (own_yes hlt hb)
        obtain ⟨ht, hg⟩ := lane hlt hb
        have hb2 : (l0[k].f1 != x1) = false := by simp [bne, hb]
        obtain ⟨bd, rfl, p0, p1, p2, p3, p4⟩ := at_S29 (HC1.out.imp_ HB.out (fun _ _ h => k29.K_below HB.out h)) ht
        rw [hg] at p0 p1 p2 p3 p4
        obtain ⟨x, hx⟩ : ∃ x, l0[k] = x := ⟨_, rfl⟩
        have HY1 : Hid ((own (l0.take (k + 1)) x1).length = (own (l0.take k) x1).length + 1) := hide (by rw [HY.out]; simp)
        rw [hx] at q0 q1 q2 q3 q4 p0 p1 p2 p3 p4 hb hb2
        clear hx hg HY
        obtain ⟨m, hm⟩ : ∃ m, (own (l0.take k) x1).length = m := ⟨_, rfl⟩
        rw [hm] at p0 p1 p2 p3 p4 ht HY1 hol ⊢
        have g1 : (m : Int) < ((own l0 x1).length : Int) := by omega
        have g2 : decide (((own l0 x1).length : Int) ≤ (m : Int)) = false := decide_eq_false (by omega)
        have g3 : decide ((own l0 x1).length ≤ m) = false := decide_eq_false (by omega)
        have n1 := eq_bool x
        clear hm
        go_wp2_with fail
        go_quiet (fail)
        go_wp2_with fail
        go_roundw
        case rel => exact ⟨k + 1, by omega, by go_num, by rw [HY1.out]; go_num, hide (below_drewN HB.out _)⟩
        case measure => simp [intOf]; omega
    · have : k = l0.length := by omega
      subst this
      have b1 : ¬ (l0.length : Int) < (l0.length : Int) := by omega
      rw [List.take_length]
      have f1 : (((own l0 x1).length : Int) == ((own l0 x1).length : Int)) = true := by simp
      have f2 : ((own l0 x1).length == (own l0 x1).length) = true := by simp
      have HX := hide (HC1.out.imp_ HB.out (fun _ _ h => k29.K_below HB.out h))
      have H2 := hide (project_call A1 c1 (own l0 x1) hl1 HL.out x1 wr HX.out)
      go_wp2_with (first | (go_at_call 14; refine (unhide H2).mono ?_; rintro e w2 ⟨v2, rfl, ho2, hb2⟩; obtain ⟨A2, c2, rfl, hl2, hC2⟩ := Kd.R_reads ho2; have HC2 := hide hC2; have HK := hide (HX.out.imp_ hb2 (fun _ _ h => k29.K_below hb2 h)); have HB2 := hide (below_step HW.out hb2); clear ho2 hb2 hC2) | (go_at_call 12; refine (same_call A2 _ c2 (own (own l0 x1) x1) A1 _ c1 (own l0 x1) rfl rfl (by rw [own_own]; exact HL.out) true (by simp [own_own]) _ HC2.out HK.out).mono ?_; rintro e w3 ⟨rfl, hb3⟩; have HB3 := hide (below_step HB2.out hb3); clear hb3) | (go_at_call 13; refine (awake_call _).mono ?_; rintro e w4 ⟨rfl, hb4⟩; have HB4 := hide (below_step HB3.out hb4); clear hb4))
      go_ret
      exact ⟨rfl, HB4.out⟩
end Go.Proofs.Ytcfhkapalcfpiaa.traceLanes
