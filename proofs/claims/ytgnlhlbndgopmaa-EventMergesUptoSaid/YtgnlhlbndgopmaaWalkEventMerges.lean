/- The walk of EventMerges. -/
import Derived.Test.YtgnlhlbndgopmaaSame
import Derived.Test.YtgnlhlbndgopmaaAwake02
import Derived.Test.YtgnlhlbndgopmaaKindsEventMerges
set_option linter.unusedVariables false
set_option linter.unusedSimpArgs false
namespace Go.Proofs.Ytgnlhlbndgopmaa.eventMerges
open Go.Proofs Go.RowKit Go.Sort Go.Proofs.Ytgnlhlbndgopmaa.Types Go.Proofs.Ytgnlhlbndgopmaa.Heap Go.Proofs.Ytgnlhlbndgopmaa.Row Go.Proofs.Ytgnlhlbndgopmaa.Ord Go.Proofs.YtgnlhlbndgopmaaW.PrintWords Go.Proofs.YtgnlhlbndgopmaaW.PrintLast Go.Proofs.YtgnlhlbndgopmaaW.PrintMore
open Go.Proofs.Ytgnlhlbndgopmaa.Sorted (M OwnM Made flatM infoM zM sorted_call weakM)
open Go.Proofs.Ytgnlhlbndgopmaa.SortPure (isort length_isort merge merge_isort merge_cons merge_nil_left merge_nil_right)
open Go.Proofs.Ytgnlhlbndgopmaa.Ref02 (cg gr_call Gr.of)
theorem step {z x y : List M} {n : Nat} {u : M} {i' k' : Nat} (h : z.drop n = u :: merge befM (x.drop i') (y.drop k')) (hn : n < z.length) : z[n] = u ∧ z.drop (n + 1) = merge befM (x.drop i') (y.drop k') := by
  rw [List.drop_eq_getElem_cons hn] at h
  injection h with h1 h2
  exact ⟨h1, h2⟩
theorem takeX {z x y : List M} {n i k : Nat} (h : z.drop n = merge befM (x.drop i) (y.drop k)) (hi : i < x.length) (hk : (y.length ≤ k) ∨ (∃ hk : k < y.length, befM y[k] x[i] = false)) : z.drop n = x[i] :: merge befM (x.drop (i + 1)) (y.drop k) := by
  rw [h, List.drop_eq_getElem_cons hi]
  rcases hk with q | ⟨q, e⟩
  · rw [List.drop_of_length_le q, merge_nil_right, merge_nil_right]
  · rw [List.drop_eq_getElem_cons q, merge_cons, e, if_neg (by simp)]
theorem takeY {z x y : List M} {n i k : Nat} (h : z.drop n = merge befM (x.drop i) (y.drop k)) (hk : k < y.length) (hi : (x.length ≤ i) ∨ (∃ hi : i < x.length, befM y[k] x[i] = true)) : z.drop n = y[k] :: merge befM (x.drop i) (y.drop (k + 1)) := by
  rw [h, List.drop_eq_getElem_cons hk]
  rcases hi with q | ⟨q, e⟩
  · rw [List.drop_of_length_le q, merge_nil_left, merge_nil_left]
  · rw [List.drop_eq_getElem_cons q, merge_cons, e, if_pos rfl]
set_option maxHeartbeats 16000000 in
set_option maxRecDepth 100000 in
theorem walk (A0 : Option Addr) (c0 : Nat) (l0 : List S29) (hc0 : l0.length ≤ c0) (w0 : ∀ y ∈ l0, I29 y) (y0 : l0.length * 56 ≤ 140737488351232) (A1 : Option Addr) (c1 : Nat) (l1 : List S29) (hc1 : l1.length ≤ c1) (w1 : ∀ y ∈ l1, I29 y) (y1 : l1.length * 56 ≤ 140737488351232)
    (hup : l0.length + l1.length ≤ 1048576) (w : World) (hr0 : Kd.C k29 w A0 l0.length l0) (hr1 : Kd.C k29 w A1 l1.length l1) :
    Calls Try.prog 11 #[.slice A0 l0.length c0, .slice A1 l1.length c1] w fun e w' => e = .returned (.bool true) ∧ Below w.heap.size w w' := by
  have mixed : Try.prog.follows .mixedOrders = true := by kernel_rfl
  have HR0 := hide hr0
  have HR1 := hide hr1
  have HC0 := hide hc0
  have HC1 := hide hc1
  have HUP := hide hup
  have E1 : Hid (OwnM (w.alloc (.cells #[] 29)) w.heap.size (.slice (some ⟨w.heap.size, 0, none⟩) 0 0) []) := hide (Own.empty w _ _ (Nat.le_refl _))
  have BW1 : Hid (Below w.heap.size w (w.alloc (.cells #[] 29))) := hide ((Below.refl w.heap.size w).alloc (Nat.le_refl _) _)
  obtain ⟨x, hx⟩ : ∃ x, isort befM l0 = x := ⟨_, rfl⟩
  obtain ⟨y, hy⟩ : ∃ y, isort befM l1 = y := ⟨_, rfl⟩
  obtain ⟨zl, hzl⟩ : ∃ zl, l0 ++ l1 = zl := ⟨_, rfl⟩
  obtain ⟨z, hz⟩ : ∃ z, isort befM zl = z := ⟨_, rfl⟩
  have HZl := hide hzl
  have hzll : zl.length = l0.length + l1.length := by rw [← hzl, List.length_append]
  have HZll := hide hzll
  have hlx : x.length = l0.length := by rw [← hx, length_isort]
  have hly : y.length = l1.length := by rw [← hy, length_isort]
  have hlz : z.length = x.length + y.length := by rw [hlx, hly, ← hz, length_isort, hzll]
  have HMg : Hid (z.drop (0 + 0) = merge befM (x.drop 0) (y.drop 0)) := hide (by rw [List.drop_zero, List.drop_zero, List.drop_zero, ← hx, ← hy, ← hz, merge_isort weakM, hzl])
  have HLx := hide hlx
  have HLy := hide hly
  have HLz := hide hlz
  have Hx := hide hx
  have Hy := hide hy
  have Hz := hide hz
  have bx : x.length ≤ 1048576 := by omega
  have by' : y.length ≤ 1048576 := by omega
  clear hr0 hr1 w0 y0 hc0 w1 y1 hc1 hup hx hy hz hlx hly hlz hzl hzll
  go_enter Try.func11, Try.ntmps11
  go_wp2_with (first
    | ((with_reducible refine gate_builtin (b := .append) (xs := #[.tmp 11, .tmp 12]) rfl ?_); at_builtin; refine wp_append flatM rfl k29_open rfl (.tmp 11) (.tmp 12) 36 rfl zM 56 Try.underlying36 infoM rfl _ rfl E1.out _ _ _ l0 rfl (C_below HR0.out BW1.out) (by omega) ?aL11 ?aB11 ?_; (case aL11 => have := HUP.out; simp; omega); (case aB11 => exact BW1.out.size); intro v1 w3 ho hg; have E2 := hide ho; have BW2 := hide (BW1.out.grown hg BW1.out.size (fun b hb => (E1.out.blk b hb).1)); clear ho hg E1 BW1)
    | ((with_reducible refine gate_builtin (b := .append) (xs := #[.tmp 13, .tmp 14]) rfl ?_); at_builtin; refine wp_append flatM rfl k29_open rfl (.tmp 13) (.tmp 14) 36 rfl zM 56 Try.underlying36 infoM rfl _ rfl E2.out _ _ _ l1 rfl (C_below HR1.out BW2.out) (by omega) ?aL13 ?aB13 ?_; (case aL13 => have := HUP.out; simp; omega); (case aB13 => exact BW2.out.size); intro v2 w4 ho hg; have ho2 : OwnM w4 w.heap.size v2 zl := (by have := ho; rw [List.nil_append, HZl.out] at this; exact this); obtain ⟨A2, c2, rfl, hc2, hC2, _⟩ := ho2.reads flatM rfl k29_mk; have Hc2 := hide hc2; have HC2 := hide hC2; have B2 := hide (BW2.out.grown hg BW2.out.size (fun b hb => (E2.out.blk b hb).1)); clear ho ho2 hg E2 BW2 hc2 hC2))
  go_wp2_with fail
  refine (sorted_call A2 c2 zl Hc2.out (by have := HZll.out; have := HUP.out; omega) _ HC2.out).mono ?_
  rw [Hz.out]
  rintro e w5 ⟨v3, rfl, ho3, hb3⟩
  obtain ⟨A3, c3, rfl, hc3, hC3, _⟩ := ho3.reads flatM rfl k29_mk
  have B3 := hide (below_step B2.out hb3)
  have HZ3 := hide hC3
  clear ho3 hb3 hC3 hc3 HC2 Hc2
  go_wp2_with fail
  refine (sorted_call A0 c0 l0 HC0.out (by have := HUP.out; omega) _ (C_below HR0.out B3.out)).mono ?_
  rw [Hx.out]
  rintro e w6 ⟨v4, rfl, ho4, hb4⟩
  obtain ⟨A4, c4, rfl, hc4, hC4, _⟩ := ho4.reads flatM rfl k29_mk
  have B4 := hide (below_step B3.out hb4)
  have HX4 := hide hC4
  have HZ4 := hide (C_below HZ3.out hb4)
  clear ho4 hb4 hC4 hc4 HZ3
  go_wp2_with fail
  refine (sorted_call A1 c1 l1 HC1.out (by have := HUP.out; omega) _ (C_below HR1.out B4.out)).mono ?_
  rw [Hy.out]
  rintro e w7 ⟨v5, rfl, ho5, hb5⟩
  obtain ⟨A5, c5, rfl, hc5, hC5, _⟩ := ho5.reads flatM rfl k29_mk
  have B5 := hide (below_step B4.out hb5)
  have HYy := hide hC5
  have HZ := hide (C_below HZ4.out hb5)
  have HX := hide (C_below HX4.out hb5)
  clear ho5 hb5 hC5 hc5 HZ4 HX4
  go_wp2_with fail
  go_loopw [8, 9, 10] (fun s8 s9 s10 wr => ∃ i k : Nat, i ≤ x.length ∧ k ≤ y.length ∧ s8 = .int .i64 i ∧ s9 = .int .i64 k ∧ s10 = .int .i64 ((i + k : Nat) : Int) ∧ Hid (z.drop (i + k) = merge befM (x.drop i) (y.drop k)) ∧ Hid (Below w7.heap.size w7 wr)) (fun _ _ s10 _ => z.length - (intOf s10).toNat)
  case atStart => exact ⟨0, 0, Nat.zero_le _, Nat.zero_le _, rfl, rfl, rfl, HMg, hide (Below.refl _ _)⟩
  case round =>
    obtain ⟨i, k, hil, hkl, rfl, rfl, rfl, HD, HB⟩ := hrel
    by_cases hzn : i + k < z.length
    · have hzz := HLz.out
      have b1 : ((i + k : Nat) : Int) < (z.length : Int) := by omega
      by_cases hix : i < x.length
      · by_cases hky : k < y.length
        · have d1 : decide ((i : Int) < (x.length : Int)) = true := decide_eq_true (by omega)
          have d1n : decide (i < x.length) = true := decide_eq_true hix
          have d2 : ((k : Int) == (y.length : Int)) = false := by rw [beq_eq_false_iff_ne]; omega
          have d2n : (k == y.length) = false := by rw [beq_eq_false_iff_ne]; omega
          have d3 : (i : Int) < (x.length : Int) := by omega
          have d4 : (k : Int) < (y.length : Int) := by omega
          obtain ⟨adx, hAx, q0, q1, q2, q3, q4, q5, q6⟩ := at_S29 (C_below HX.out HB.out) hix
          obtain ⟨X, hX⟩ : ∃ X, x[i] = X := ⟨_, rfl⟩
          rw [hX] at q0 q1 q2 q3 q4 q5 q6
          have q0 := cg q0; have q1 := cg q1; have q2 := cg q2; have q3 := cg q3; have q4 := cg q4; have q5 := cg q5; have q6 := cg q6
          obtain ⟨ady, hAy, p0, p1, p2, p3, p4, p5, p6⟩ := at_S29 (C_below HYy.out HB.out) hky
          obtain ⟨Y, hY⟩ : ∃ Y, y[k] = Y := ⟨_, rfl⟩
          rw [hY] at p0 p1 p2 p3 p4 p5 p6
          have p0 := cg p0; have p1 := cg p1; have p2 := cg p2; have p3 := cg p3; have p4 := cg p4; have p5 := cg p5; have p6 := cg p6
          have hcall := gr_call (fun W => before_call Y X W) wr
          unfold c29 at hcall
          cases hbv : befM Y X
          · rw [hbv] at hcall
            obtain ⟨he1, hd1⟩ := step (takeX HD.out hix (.inr ⟨hky, by rw [hX, hY]; exact hbv⟩)) hzn
            have HE1 := hide he1
            have HD1 : Hid (z.drop (i + 1 + k) = merge befM (x.drop (i + 1)) (y.drop k)) := hide (by rw [show i + 1 + k = i + k + 1 by omega]; exact hd1)
            clear hX hY hbv he1 hd1
            cases hAx
            cases hAy
            go_wp2_with fail
            refine wp_region_quiet_grown (by assumption) (by kernel_rfl) ?_
            repeat (go_big_quiet_step ((go_at_call 16; exact hcall _ _)))
            refine wpQuiet_nil ?_
            intro _ hw'
            obtain ⟨⟨nq, osq⟩, hw''⟩ := hw'
            subst hw''
            clear hcall q0 q1 q2 q3 q4 q5 q6 p0 p1 p2 p3 p4 p5 p6 hzz d2 d2n d4
            have HB5 := hide (HB.out.trans ((Gr.of (w := wr) nq osq).below.mono HB.out.size))
            generalize grow (wr.drewN nq) osq = w5 at HB5 ⊢
            obtain ⟨ad1, hA1, q0, q1, q2, q3, q4, q5, q6⟩ := at_S29 (C_below HZ.out HB5.out) hzn
            obtain ⟨ad2, hA2, p0, p1, p2, p3, p4, p5, p6⟩ := at_S29 (C_below HX.out HB5.out) hix
            rw [HE1.out] at q0 q1 q2 q3 q4 q5 q6
            obtain ⟨u, hu'⟩ : ∃ u, x[i] = u := ⟨_, rfl⟩
            rw [hu'] at p0 p1 p2 p3 p4 p5 p6 q0 q1 q2 q3 q4 q5 q6
            cases hA1
            cases hA2
            have n1 := Same.eqM_refl u
            unfold Same.eqM at n1
            clear hu'
            have nz : ((i + k : Nat) : Int) = (i : Int) + (k : Int) := by omega
            go_wp2_with fail
            go_quiet (fail)
            go_wp2_with fail
            go_roundw
            case rel => exact ⟨i + 1, k, by omega, hkl, by go_num, rfl, by (congr 1 <;> omega), HD1, hide (below_drewN HB5.out _)⟩
            case measure => simp [intOf]; omega
          · rw [hbv] at hcall
            obtain ⟨he1, hd1⟩ := step (takeY HD.out hky (.inr ⟨hix, by rw [hX, hY]; exact hbv⟩)) hzn
            have HE1 := hide he1
            have HD1 : Hid (z.drop (i + (k + 1)) = merge befM (x.drop i) (y.drop (k + 1))) := hide hd1
            clear hX hY hbv he1 hd1
            cases hAx
            cases hAy
            go_wp2_with fail
            refine wp_region_quiet_grown (by assumption) (by kernel_rfl) ?_
            repeat (go_big_quiet_step ((go_at_call 16; exact hcall _ _)))
            refine wpQuiet_nil ?_
            intro _ hw'
            obtain ⟨⟨nq, osq⟩, hw''⟩ := hw'
            subst hw''
            clear hcall q0 q1 q2 q3 q4 q5 q6 p0 p1 p2 p3 p4 p5 p6 hzz d1 d1n d3
            have HB5 := hide (HB.out.trans ((Gr.of (w := wr) nq osq).below.mono HB.out.size))
            generalize grow (wr.drewN nq) osq = w5 at HB5 ⊢
            obtain ⟨ad1, hA1, q0, q1, q2, q3, q4, q5, q6⟩ := at_S29 (C_below HZ.out HB5.out) hzn
            obtain ⟨ad2, hA2, p0, p1, p2, p3, p4, p5, p6⟩ := at_S29 (C_below HYy.out HB5.out) hky
            rw [HE1.out] at q0 q1 q2 q3 q4 q5 q6
            obtain ⟨u, hu'⟩ : ∃ u, y[k] = u := ⟨_, rfl⟩
            rw [hu'] at p0 p1 p2 p3 p4 p5 p6 q0 q1 q2 q3 q4 q5 q6
            cases hA1
            cases hA2
            have n1 := Same.eqM_refl u
            unfold Same.eqM at n1
            clear hu'
            have nz : ((i + k : Nat) : Int) = (i : Int) + (k : Int) := by omega
            go_wp2_with fail
            go_quiet (fail)
            go_wp2_with fail
            go_roundw
            case rel => exact ⟨i, k + 1, hil, by omega, rfl, by go_num, by (congr 1 <;> omega), HD1, hide (below_drewN HB5.out _)⟩
            case measure => simp [intOf]; omega
        · have d1 : decide ((i : Int) < (x.length : Int)) = true := decide_eq_true (by omega)
          have d1n : decide (i < x.length) = true := decide_eq_true hix
          have hke : k = y.length := by omega
          subst hke
          have d2 : ((y.length : Int) == (y.length : Int)) = true := by simp
          have d2n : (y.length == y.length) = true := by simp
          have d3 : (i : Int) < (x.length : Int) := by omega
          obtain ⟨he1, hd1⟩ := step (takeX HD.out hix (.inl (Nat.le_refl _))) hzn
          have HE1 := hide he1
          have HD1 : Hid (z.drop (i + 1 + y.length) = merge befM (x.drop (i + 1)) (y.drop y.length)) := hide (by rw [show i + 1 + y.length = i + y.length + 1 by omega]; exact hd1)
          clear he1 hd1
          go_wp2_with fail
          refine wp_region_quiet_grown (by assumption) (by kernel_rfl) ?_
          repeat (go_big_quiet_step (fail))
          refine wpQuiet_nil ?_
          intro _ hw'
          obtain ⟨⟨nq, osq⟩, hw''⟩ := hw'
          subst hw''
          clear hzz
          have HB5 := hide (HB.out.trans ((Gr.of (w := wr) nq osq).below.mono HB.out.size))
          generalize grow (wr.drewN nq) osq = w5 at HB5 ⊢
          obtain ⟨ad1, hA1, q0, q1, q2, q3, q4, q5, q6⟩ := at_S29 (C_below HZ.out HB5.out) hzn
          obtain ⟨ad2, hA2, p0, p1, p2, p3, p4, p5, p6⟩ := at_S29 (C_below HX.out HB5.out) hix
          rw [HE1.out] at q0 q1 q2 q3 q4 q5 q6
          obtain ⟨u, hu'⟩ : ∃ u, x[i] = u := ⟨_, rfl⟩
          rw [hu'] at p0 p1 p2 p3 p4 p5 p6 q0 q1 q2 q3 q4 q5 q6
          cases hA1
          cases hA2
          have n1 := Same.eqM_refl u
          unfold Same.eqM at n1
          clear hu'
          have nz : ((i + y.length : Nat) : Int) = (i : Int) + (y.length : Int) := by omega
          go_wp2_with fail
          go_quiet (fail)
          go_wp2_with fail
          go_roundw
          case rel => exact ⟨i + 1, y.length, by omega, Nat.le_refl _, by go_num, rfl, by (congr 1 <;> omega), HD1, hide (below_drewN HB5.out _)⟩
          case measure => simp [intOf]; omega
      · have hix2 : i = x.length := by omega
        subst hix2
        have hky : k < y.length := by omega
        have d1 : decide ((x.length : Int) < (x.length : Int)) = false := by simp
        have d1n : decide (x.length < x.length) = false := by simp
        have d2 : ((k : Int) == (y.length : Int)) = false := by rw [beq_eq_false_iff_ne]; omega
        have d2n : (k == y.length) = false := by rw [beq_eq_false_iff_ne]; omega
        have d4 : (k : Int) < (y.length : Int) := by omega
        obtain ⟨he1, hd1⟩ := step (takeY HD.out hky (.inl (Nat.le_refl _))) hzn
        have HE1 := hide he1
        have HD1 : Hid (z.drop (x.length + (k + 1)) = merge befM (x.drop x.length) (y.drop (k + 1))) := hide hd1
        clear he1 hd1
        go_wp2_with fail
        refine wp_region_quiet_grown (by assumption) (by kernel_rfl) ?_
        repeat (go_big_quiet_step (fail))
        refine wpQuiet_nil ?_
        intro _ hw'
        obtain ⟨⟨nq, osq⟩, hw''⟩ := hw'
        subst hw''
        clear hzz
        have HB5 := hide (HB.out.trans ((Gr.of (w := wr) nq osq).below.mono HB.out.size))
        generalize grow (wr.drewN nq) osq = w5 at HB5 ⊢
        obtain ⟨ad1, hA1, q0, q1, q2, q3, q4, q5, q6⟩ := at_S29 (C_below HZ.out HB5.out) hzn
        obtain ⟨ad2, hA2, p0, p1, p2, p3, p4, p5, p6⟩ := at_S29 (C_below HYy.out HB5.out) hky
        rw [HE1.out] at q0 q1 q2 q3 q4 q5 q6
        obtain ⟨u, hu'⟩ : ∃ u, y[k] = u := ⟨_, rfl⟩
        rw [hu'] at p0 p1 p2 p3 p4 p5 p6 q0 q1 q2 q3 q4 q5 q6
        cases hA1
        cases hA2
        have n1 := Same.eqM_refl u
        unfold Same.eqM at n1
        clear hu'
        have nz : ((x.length + k : Nat) : Int) = (x.length : Int) + (k : Int) := by omega
        go_wp2_with fail
        go_quiet (fail)
        go_wp2_with fail
        go_roundw
        case rel => exact ⟨x.length, k + 1, Nat.le_refl _, by omega, rfl, by go_num, by (congr 1 <;> omega), HD1, hide (below_drewN HB5.out _)⟩
        case measure => simp [intOf]; omega
    · have hzz := HLz.out
      have hi2 : i = x.length := by omega
      have hk2 : k = y.length := by omega
      subst hi2 hk2
      have b1 : ¬ ((x.length + y.length : Nat) : Int) < (z.length : Int) := by omega
      have e1 : ((x.length : Int) == (l0.length : Int)) = true := by rw [HLx.out]; simp
      have e2 : (x.length == l0.length) = true := by rw [HLx.out]; simp
      have e3 : ((y.length : Int) == (l1.length : Int)) = true := by rw [HLy.out]; simp
      have e4 : (y.length == l1.length) = true := by rw [HLy.out]; simp
      clear hzz
      go_wp2_with (go_at_call 15; refine (Awake.awake_call _).mono ?_; rintro e w8 ⟨rfl, hg8⟩; have HB8 := hide (below_step (below_step B5.out HB.out) hg8.below); clear hg8)
      go_ret
      exact ⟨rfl, HB8.out⟩
end Go.Proofs.Ytgnlhlbndgopmaa.eventMerges
