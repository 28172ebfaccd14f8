/- The walk of EventAgain. -/
import Derived.Test.YtgnlhlbndgopmaaSame
import Derived.Test.YtgnlhlbndgopmaaAwake02
import Derived.Test.YtgnlhlbndgopmaaPlc
import Derived.Test.YtgnlhlbndgopmaaKindsEventAgain
set_option linter.unusedVariables false
set_option linter.unusedSimpArgs false
namespace Go.Proofs.Ytgnlhlbndgopmaa.eventAgain
open Go.Proofs Go.RowKit Go.Sort Go.Proofs.Ytgnlhlbndgopmaa.Types Go.Proofs.Ytgnlhlbndgopmaa.Heap Go.Proofs.Ytgnlhlbndgopmaa.Row Go.Proofs.Ytgnlhlbndgopmaa.Ord Go.Proofs.YtgnlhlbndgopmaaW.PrintWords Go.Proofs.YtgnlhlbndgopmaaW.PrintLast Go.Proofs.YtgnlhlbndgopmaaW.PrintMore
open Go.Proofs.Ytgnlhlbndgopmaa.Sorted (M OwnM Made flatM infoM zM sorted_call weakM)
open Go.Proofs.Ytgnlhlbndgopmaa.SortPure (isort length_isort Srt srt_isort isort_of_srt srt_cons)
open Go.Proofs.Ytgnlhlbndgopmaa.Ref02 (cg gr_call)
/-- In an ordered list those that are ahead of x stand in front. -/
theorem front {l : List M} (h : Srt befM l) (x : M) : ∃ l1 l2, l = l1 ++ l2 ∧ (∀ y ∈ l1, befM y x = true) ∧ (∀ y ∈ l2, befM y x = false) := by
  induction l with
  | nil => exact ⟨[], [], rfl, by simp, by simp⟩
  | cons a l ih =>
    obtain ⟨ha, hl⟩ := srt_cons.1 h
    cases hx : befM a x
    · refine ⟨[], a :: l, rfl, by simp, ?_⟩
      intro y hy
      rcases List.mem_cons.1 hy with rfl | hy
      · exact hx
      · exact weakM.tr _ _ _ (ha y hy) hx
    · obtain ⟨l1, l2, rfl, h1, h2⟩ := ih hl
      exact ⟨a :: l1, l2, rfl, by simpa [hx] using h1, h2⟩
theorem place_le {s : List M} (h : Srt befM s) {i : Nat} (hi : i < s.length) : ∃ n : Nat, Plc.plc s s[i] = (n : Int) ∧ n ≤ i ∧ ∃ hn : n < s.length, befM s[n] s[i] = false := by
  obtain ⟨l1, l2, e, h1, h2⟩ := front h s[i]
  have hf : s.filter (befM · s[i]) = l1 := by
    conv => lhs; arg 2; rw [e]
    rw [List.filter_append, List.filter_eq_self.2 h1, List.filter_eq_nil_iff.2 (fun y hy => by rw [h2 y hy]; simp), List.append_nil]
  have hirr : befM s[i] s[i] = false := weakM.irr _
  have hle : l1.length ≤ i := by
    rcases Nat.lt_or_ge i l1.length with q | q
    · have hm : s[i] ∈ l1 := by
        have : s[i] = l1[i] := by
          have h3 : s[i]? = l1[i]? := by
            conv => lhs; rw [e]
            rw [List.getElem?_append_left q]
          rw [List.getElem?_eq_getElem hi, List.getElem?_eq_getElem q] at h3
          exact Option.some.inj h3
        rw [this]
        exact List.getElem_mem q
      have := h1 _ hm
      rw [hirr] at this
      cases this
    · exact q
  have hn : l1.length < s.length := by omega
  refine ⟨l1.length, by unfold Plc.plc; rw [hf], hle, hn, ?_⟩
  have hl2 : 0 < l2.length := by
    have := congrArg List.length e
    rw [List.length_append] at this
    omega
  have h4 : s[l1.length] = l2[0] := by
    have h3 : s[l1.length]? = l2[0]? := by
      conv => lhs; rw [e]
      rw [List.getElem?_append_right (Nat.le_refl _), Nat.sub_self]
    rw [List.getElem?_eq_getElem hn, List.getElem?_eq_getElem hl2] at h3
    exact Option.some.inj h3
  rw [h4]
  exact h2 _ (List.getElem_mem hl2)
theorem before_prev {s : List M} (h : Srt befM s) {j : Nat} (hj : j + 1 < s.length) : befM s[j + 1] s[j] = false :=
  List.pairwise_iff_getElem.1 h j (j + 1) (by omega) hj (by omega)
set_option maxHeartbeats 16000000 in
set_option maxRecDepth 100000 in
theorem walk (A0 : Option Addr) (c0 : Nat) (l0 : List S29) (hc0 : l0.length ≤ c0) (w0 : ∀ y ∈ l0, I29 y) (y0 : l0.length * 56 ≤ 140737488351232) (w : World) (hr0 : Kd.C k29 w A0 l0.length l0) :
    Calls Try.prog 12 #[.slice A0 l0.length c0] w fun e w' => e = .returned (.bool true) ∧ Below w.heap.size w w' := by
  have HR := hide hr0
  have HY : Hid (l0.length * 56 ≤ 140737488351232) := hide (by omega)
  have hl63 : (l0.length : Int) ≤ 9223372036854775806 := by omega
  have mixed : Try.prog.follows .mixedOrders = true := by kernel_rfl
  have hS := srt_isort weakM l0
  have hlen : (isort befM l0).length = l0.length := length_isort l0
  have T1 := hide (sorted_call A0 c0 l0 hc0 (by omega) w hr0)
  obtain ⟨s, hs⟩ : ∃ s, isort befM l0 = s := ⟨_, rfl⟩
  rw [hs] at T1 hS hlen
  have HS := hide hS
  have HLen := hide hlen
  have hss := hide (isort_of_srt weakM s hS)
  clear hr0 w0 y0 hc0 hs hS hlen
  go_enter Try.func12, Try.ntmps12
  go_wp2_with fail
  refine (unhide T1).mono ?_
  rintro e w1 ⟨v1, rfl, ho1, hb1⟩
  obtain ⟨A1, c1, rfl, hc1, hC1, _⟩ := ho1.reads flatM rfl k29_mk
  have B1 := hide hb1
  have HC1 := hide hC1
  have Hc1 := hide hc1
  clear ho1 hb1 hC1 hc1 T1
  go_wp2_with fail
  refine (sorted_call A1 c1 s Hc1.out (by have := HLen.out; have := HY.out; omega) _ HC1.out).mono ?_
  rw [hss.out]
  rintro e w2 ⟨v2, rfl, ho2, hb2⟩
  obtain ⟨A2, c2, rfl, hc2, hC2, _⟩ := ho2.reads flatM rfl k29_mk
  have B2 := hide (below_step B1.out hb2)
  have HM2 := hide (C_below HC1.out hb2)
  have HC2 := hide hC2
  clear ho2 hb2 hC2 hc2
  go_wp2_with fail
  refine (Same.same_call A2 _ c2 s A1 _ c1 s rfl rfl (by have := HLen.out; have := HY.out; omega) true (by simp) _ HC2.out HM2.out).mono ?_
  rintro e w3 ⟨rfl, hg3⟩
  have B3 := hide (below_step B2.out hg3.below)
  have HM3 := hide (C_below HM2.out hg3.below)
  clear hg3
  have f1 : ((s.length : Int) != (l0.length : Int)) = false := by rw [HLen.out]; simp
  have f2 : (s.length != l0.length) = false := by rw [HLen.out]; simp
  go_wp2_with fail
  go_loopw [4] (fun i wr => ∃ k : Nat, k ≤ s.length ∧ i = .int .i64 k ∧ Hid (Below w3.heap.size w3 wr)) (fun i _ => s.length - (intOf i).toNat)
  case atStart => exact ⟨0, Nat.zero_le _, rfl, hide (Below.refl _ _)⟩
  case round =>
    obtain ⟨k, hk, rfl, HB⟩ := hrel
    have HW := hide (below_step B3.out HB.out)
    have hs63 : (s.length : Int) ≤ 9223372036854775806 := by have := HLen.out; omega
    by_cases hlt : k < s.length
    · obtain ⟨n, hp, hnk, hn, hbn⟩ := place_le HS.out hlt
      obtain ⟨ad, hA, q0, q1, q2, q3, q4, q5, q6⟩ := at_S29 (C_below HM3.out HB.out) hlt
      cases hA
      have b1 : (k : Int) < (s.length : Int) := by omega
      have HP := hide (Plc.place_call (some ad) c1 s Hc1.out (by have := HLen.out; have := HY.out; omega) s[k] wr (C_below HM3.out HB.out))
      rw [hp] at HP
      have HBn := hide hbn
      have HX : ∀ x, x = s[k] → True := fun _ _ => trivial
      obtain ⟨x, hx⟩ : ∃ x, s[k] = x := ⟨_, rfl⟩
      rw [hx] at q0 q1 q2 q3 q4 q5 q6 HP HBn
      have HXk := hide hx
      clear hx hp hbn HX
      go_wp2_with (go_at_call 26; refine (unhide HP).mono ?_; rintro e w4 ⟨rfl, hb4⟩; have HB4 := hide (below_step HB.out hb4); clear hb4 HP q0 q1 q2 q3 q4 q5 q6)
      have g0 : decide ((k : Int) < (n : Int)) = false := decide_eq_false (by omega)
      have g0n : decide (k < n) = false := decide_eq_false (by omega)
      have HCk := hide (C_below HM3.out HB4.out)
      obtain ⟨ad', hA, q0, q1, q2, q3, q4, q5, q6⟩ := at_S29 HCk.out hlt
      cases hA
      rw [HXk.out] at q0 q1 q2 q3 q4 q5 q6
      have q0 := cg q0; have q1 := cg q1; have q2 := cg q2; have q3 := cg q3; have q4 := cg q4; have q5 := cg q5; have q6 := cg q6
      rcases Nat.eq_zero_or_pos k with h0 | h0
      · have hn0 : n = 0 := by omega
        have k1 : decide ((0 : Int) < (k : Int)) = false := decide_eq_false (by omega)
        have k1n : decide (0 < k) = false := decide_eq_false (by omega)
        have k2 : decide ((n : Int) < (k : Int)) = false := decide_eq_false (by omega)
        have k2n : decide (n < k) = false := decide_eq_false (by omega)
        clear h0 hn0
        go_wp2_with fail
        refine wp_region_quiet_grown (by assumption) (by kernel_rfl) ?_
        repeat (go_big_quiet_step (fail))
        refine wpQuiet_nil ?_
        intro _ hw'
        obtain ⟨⟨nq, osq⟩, hw''⟩ := hw'
        subst hw''
        have HB5 := hide (HB4.out.trans ((Ref02.Gr.of (w := w4) nq osq).below.mono HB4.out.size))
        clear q0 q1 q2 q3 q4 q5 q6
        generalize grow (w4.drewN nq) osq = w5 at HB5 ⊢
        go_wp2_with fail
        go_roundw
        case rel => exact ⟨k + 1, by omega, by go_num, HB5⟩
        case measure => simp [intOf]; omega
      · obtain ⟨j, hj⟩ : ∃ j, k = j + 1 := ⟨k - 1, by omega⟩
        have HJ := hide hj
        have hjl : j < s.length := by omega
        have k1 : decide ((0 : Int) < (k : Int)) = true := decide_eq_true (by omega)
        have k1n : decide (0 < k) = true := decide_eq_true (by omega)
        have j1 : (k : Int) - 1 = (j : Int) := by omega
        have j2 : IntKind.i64.wrap (j : Int) = (j : Int) := by rw [IntKind.wrap_i64]; omega
        have j3 : (j : Int) < (s.length : Int) := by omega
        have hbp : befM x s[j] = false := by
          have := before_prev HS.out (j := j) (by omega)
          rw [← HXk.out]
          have e : s[k] = s[j + 1] := by congr 1
          rw [e]
          exact this
        obtain ⟨ad', hA, p0, p1, p2, p3, p4, p5, p6⟩ := at_S29 HCk.out hjl
        cases hA
        obtain ⟨y, hy⟩ : ∃ y, s[j] = y := ⟨_, rfl⟩
        rw [hy] at p0 p1 p2 p3 p4 p5 p6 hbp
        have p0 := cg p0; have p1 := cg p1; have p2 := cg p2; have p3 := cg p3; have p4 := cg p4; have p5 := cg p5; have p6 := cg p6
        have hc1 := gr_call (fun W => before_call x y W) w4
        rw [hbp] at hc1
        unfold c29 at hc1
        clear hy hj h0 hbp
        rcases Nat.lt_or_ge n k with h1 | h1
        · have k2 : decide ((n : Int) < (k : Int)) = true := decide_eq_true (by omega)
          have k2n : decide (n < k) = true := decide_eq_true (by omega)
          have n1 : (n : Int) < (s.length : Int) := by omega
          obtain ⟨ad', hA, r0, r1, r2, r3, r4, r5, r6⟩ := at_S29 HCk.out hn
          cases hA
          have hbz := HBn.out
          obtain ⟨z, hz⟩ : ∃ z, s[n] = z := ⟨_, rfl⟩
          rw [hz] at r0 r1 r2 r3 r4 r5 r6 hbz
          have r0 := cg r0; have r1 := cg r1; have r2 := cg r2; have r3 := cg r3; have r4 := cg r4; have r5 := cg r5; have r6 := cg r6
          have hc2 := gr_call (fun W => before_call z x W) w4
          rw [hbz] at hc2
          unfold c29 at hc2
          clear hz h1 hbz HBn
          go_wp2_with fail
          refine wp_region_quiet_grown (by assumption) (by kernel_rfl) ?_
          repeat (go_big_quiet_step ((go_at_call 16; first | (with_reducible exact hc1 _ _) | (with_reducible exact hc2 _ _))))
          refine wpQuiet_nil ?_
          intro _ hw'
          obtain ⟨⟨nq, osq⟩, hw''⟩ := hw'
          subst hw''
          have HB5 := hide (HB4.out.trans ((Ref02.Gr.of (w := w4) nq osq).below.mono HB4.out.size))
          clear q0 q1 q2 q3 q4 q5 q6
          generalize grow (w4.drewN nq) osq = w5 at HB5 ⊢
          go_wp2_with fail
          go_roundw
          case rel => exact ⟨k + 1, by omega, by go_num, HB5⟩
          case measure => simp [intOf]; omega
        · have k2 : decide ((n : Int) < (k : Int)) = false := decide_eq_false (by omega)
          have k2n : decide (n < k) = false := decide_eq_false (by omega)
          clear h1 HBn
          go_wp2_with fail
          refine wp_region_quiet_grown (by assumption) (by kernel_rfl) ?_
          repeat (go_big_quiet_step ((go_at_call 16; exact hc1 _ _)))
          refine wpQuiet_nil ?_
          intro _ hw'
          obtain ⟨⟨nq, osq⟩, hw''⟩ := hw'
          subst hw''
          have HB5 := hide (HB4.out.trans ((Ref02.Gr.of (w := w4) nq osq).below.mono HB4.out.size))
          clear q0 q1 q2 q3 q4 q5 q6
          generalize grow (w4.drewN nq) osq = w5 at HB5 ⊢
          go_wp2_with fail
          go_roundw
          case rel => exact ⟨k + 1, by omega, by go_num, HB5⟩
          case measure => simp [intOf]; omega
    · have : k = s.length := by omega
      subst this
      have b1 : ¬ (s.length : Int) < (s.length : Int) := by omega
      go_wp2_with (go_at_call 15; refine (Awake.awake_call _).mono ?_; rintro e w4 ⟨rfl, hg4⟩; have HB4 := hide (below_step HW.out hg4.below); clear hg4)
      go_ret
      exact ⟨rfl, HB4.out⟩
end Go.Proofs.Ytgnlhlbndgopmaa.eventAgain
