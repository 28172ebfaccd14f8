/- The walk of LadderOrder. (Written by wip/t08/ordergen.py.) -/
import Derived.Test.YtkhdghlgkljdgaaLP
import Derived.Test.YtkhdghlgkljdgaaSameL
import Derived.Test.YtkhdghlgkljdgaaKindsLadderOrder
namespace Go.Proofs.Ytkhdghlgkljdgaa.ladderOrder
open Go.Proofs Go.RowKit Go.Deep Go.Proofs.Ytkhdghlgkljdgaa.SortPure Go.Proofs.Ytkhdghlgkljdgaa.Types Go.Proofs.Ytkhdghlgkljdgaa.Heap Go.Proofs.Ytkhdghlgkljdgaa.Row Go.Proofs.Ytkhdghlgkljdgaa.CQ Go.Proofs.Ytkhdghlgkljdgaa.LQ Go.Proofs.Ytkhdghlgkljdgaa.Ord Go.Proofs.Ytkhdghlgkljdgaa.Sorted Go.Proofs.Ytkhdghlgkljdgaa.Same Go.Proofs.YtkhdghlgkljdgaaW.PrintWords Go.Proofs.YtkhdghlgkljdgaaW.PrintLast Go.Proofs.YtkhdghlgkljdgaaW.PrintMore
set_option linter.unusedVariables false
set_option linter.unusedSimpArgs false
attribute [local go_sem high] eqRun
attribute [local go_sem] max2_int min2_int max_two min_two
set_option maxHeartbeats 16000000 in
set_option maxRecDepth 100000 in
theorem walk (a0 : Int) (wa0 : (Lit.int .i64 a0).wf = true) (A0 : Option Addr) (c0 : Nat) (l0 : List S25) (hc0 : l0.length ≤ c0) (w0 : ∀ y ∈ l0, I25 y) (y0 : l0.length * 56 ≤ 140737488351232) (w : World) (hr0 : Kd.C k25 w A0 l0.length l0) :
    Calls Try.prog 4 #[.int .i64 a0, .slice A0 l0.length c0] w fun e w' => e = .returned (.bool true) ∧ Below w.heap.size w w' := by
  have HR := hide hr0
  have HY := hide y0
  have HWF := hide w0
  clear hr0 y0 w0 wa0
  go_enter Try.func4, Try.ntmps4
  go_wp2_with fail
  by_cases hw : a0 < 1 ∨ 16384 < a0
  · refine (new_bad w hw).mono ?_
    rintro e w2 ⟨rfl, hw2⟩
    have hw3 := hw2.symm
    subst hw3
    rcases hw with hw | hw
    · have h1 : decide (a0 < 1) = true := decide_eq_true hw
      go_wp2_with (go_at_call 9; refine (awake_call _).mono ?_; rintro e w5 ⟨rfl, hb5⟩; have HB5 := hide hb5; clear hb5)
      go_ret
      exact ⟨rfl, Below.refl _ _⟩
    · have h1 : decide (a0 < 1) = false := decide_eq_false (by omega)
      have h2 : decide (a0 > 16384) = true := decide_eq_true hw
      have h3 : decide (16384 < a0) = true := decide_eq_true hw
      go_wp2_with (go_at_call 9; refine (awake_call _).mono ?_; rintro e w5 ⟨rfl, hb5⟩; have HB5 := hide hb5; clear hb5)
      go_ret
      exact ⟨rfl, HB5.out⟩
  · refine (new_call w (by omega)).mono ?_
    rintro e w2 ⟨rfl, hq, hb⟩
    have HQ2 := hide hq
    clear hq hb hw
    obtain ⟨g, hg⟩ : ∃ g, w.heap.size = g := ⟨_, rfl⟩
    rw [hg] at HQ2
    rw [hg]
    clear hg
    go_wp2_with fail
    · obtain ⟨n, hn⟩ : ∃ n : Nat, 500 = n := ⟨_, rfl⟩
      have hnI : (500 : Int) = (n : Int) := by omega
      rw [hnI]
      have HN : Hid (n ≤ 500 ∧ n ≤ l0.length) := hide (by omega)
      clear hn hnI
      go_loopw [8, 9] (fun vi iv wr => ∃ (k : Nat) (sl : List M) (Ai : Option Addr) (ci : Nat), iv = .int .i64 k ∧ vi = .slice Ai k ci ∧ k ≤ n ∧ Hid (Cs (fun x => (Value.slice Ai k ci).ownBlock = some x) w wr g a0 sl) ∧ Hid (OwnM wr w.heap.size (.slice Ai k ci) ((tag l0).take k)) ∧ Hid (sl.Perm ((tag l0).take k))) (fun _ iv _ => n - (intOf iv).toNat)
      case atStart => exact ⟨0, [], none, 0, rfl, rfl, Nat.zero_le _, hide (HQ2.out.less (fun x h => by cases h)), hide (Own.nil _ _ _ _ _), hide (List.Perm.refl _)⟩
      case round =>
        obtain ⟨k, sl, Ai, ci, rfl, rfl, hk, HQ, HI, HP⟩ := hrel
        clear HQ2
        by_cases hlt : k < n
        · have b1 : (k : Int) < (n : Int) := by omega
          have hk5 : (k : Int) ≤ 500 := by have := HN.out; omega
          have hkl : k < l0.length := by have := HN.out; omega
          obtain ⟨ad, rfl, q0, q1, q2, q3, q4, q5, q6⟩ := at_S25 (Kd.C_below HR.out HQ.out.bel) hkl
          have bl : (k : Int) < (l0.length : Int) := by omega
          have HTG : Hid ((tag l0).take (k + 1) = (tag l0).take k ++ [retag k l0[k]]) := hide (tag_take l0 k hkl)
          obtain ⟨y, hy⟩ : ∃ y, l0[k] = y := ⟨_, rfl⟩
          rw [hy] at q0 q1 q2 q3 q4 q5 q6 HTG
          clear hy
          have HQa := hide (HQ.out.add (.cells #[.int .i64 y.f0.f0, .int .i64 y.f0.f1, .int .i64 y.f0.f2, .int .i64 y.f1, .int .i64 y.f2, .int .i64 y.f3, .bool y.f4] 25))
          have HIa := hide (HI.out.alloc (.cells #[.int .i64 y.f0.f0, .int .i64 y.f0.f1, .int .i64 y.f0.f2, .int .i64 y.f1, .int .i64 y.f2, .int .i64 y.f3, .bool y.f4] 25))
          have HMa := hide (Blk.new wr 25 #[.int .i64 y.f0.f0, .int .i64 y.f0.f1, .int .i64 y.f0.f2, .int .i64 y.f1, .int .i64 y.f2, .int .i64 y.f3, .bool y.f4])
          have HGW : Hid (w.heap.size ≤ wr.heap.size) := hide HQ.out.bel.size
          have HNa : Hid (∀ x, (Value.slice Ai k ci).ownBlock = some x → x ≠ wr.heap.size) := hide (fun x hx => by have := (HI.out.blk x hx).2; omega)
          obtain ⟨Wa, hWa⟩ : ∃ Wa, wr.alloc (.cells #[.int .i64 y.f0.f0, .int .i64 y.f0.f1, .int .i64 y.f0.f2, .int .i64 y.f1, .int .i64 y.f2, .int .i64 y.f3, .bool y.f4] 25) = Wa := ⟨_, rfl⟩
          obtain ⟨gm, hgm⟩ : ∃ gm, wr.heap.size = gm := ⟨_, rfl⟩
          rw [hWa] at HQa HIa HMa
          rw [hgm] at HMa HQa HNa HGW
          have y5 : Wa.cell? ⟨gm, 5, none⟩ = some (.int .i64 y.f3) := HMa.out.cell 5
          have fy5 : Wa.frozen? ⟨gm, 5, none⟩ = false := HMa.out.frozen 5
          have hOm : Only Wa (Wa.setCell ⟨gm, 5, none⟩ (.int .i64 k)) (fun x => x = gm) := (Only.refl Wa (fun x => x = gm)).setCell (p := ⟨gm, 5, none⟩) (.inl rfl) _
          have HMb : Hid (Blk (Wa.setCell ⟨gm, 5, none⟩ (.int .i64 k)) gm 25 #[.int .i64 y.f0.f0, .int .i64 y.f0.f1, .int .i64 y.f0.f2, .int .i64 y.f1, .int .i64 y.f2, .int .i64 k, .bool y.f4]) := hide (HMa.out.set_ 5 (.int .i64 k))
          have HQb := hide (HQa.out.far hOm (fun x e => .inr e) (fun x e => by rw [e]; exact HGW.out))
          have HIb := hide (HIa.out.only hOm (fun x hx e => HNa.out x hx e))
          clear hOm
          obtain ⟨Wb, hWb⟩ : ∃ Wb, Wa.setCell ⟨gm, 5, none⟩ (.int .i64 k) = Wb := ⟨_, rfl⟩
          rw [hWb] at HMb HQb HIb
          have v0 : Wb.cell? ⟨gm, 0, none⟩ = some (.int .i64 y.f0.f0) := HMb.out.cell 0
          have v1 : Wb.cell? ⟨gm, 1, none⟩ = some (.int .i64 y.f0.f1) := HMb.out.cell 1
          have v2 : Wb.cell? ⟨gm, 2, none⟩ = some (.int .i64 y.f0.f2) := HMb.out.cell 2
          have v3 : Wb.cell? ⟨gm, 3, none⟩ = some (.int .i64 y.f1) := HMb.out.cell 3
          have v4 : Wb.cell? ⟨gm, 4, none⟩ = some (.int .i64 y.f2) := HMb.out.cell 4
          have v5 : Wb.cell? ⟨gm, 5, none⟩ = some (.int .i64 k) := HMb.out.cell 5
          have v6 : Wb.cell? ⟨gm, 6, none⟩ = some (.bool y.f4) := HMb.out.cell 6
          have HM4 := hide (HMb.out.alloc (.cells #[.int .i64 y.f0.f0, .int .i64 y.f0.f1, .int .i64 y.f0.f2, .int .i64 y.f1, .int .i64 y.f2, .int .i64 k, .bool y.f4] 25))
          have HI4 := hide (HIb.out.alloc (.cells #[.int .i64 y.f0.f0, .int .i64 y.f0.f1, .int .i64 y.f0.f2, .int .i64 y.f1, .int .i64 y.f2, .int .i64 k, .bool y.f4] 25))
          have HQ4 := hide (HQb.out.alloc (.cells #[.int .i64 y.f0.f0, .int .i64 y.f0.f1, .int .i64 y.f0.f2, .int .i64 y.f1, .int .i64 y.f2, .int .i64 k, .bool y.f4] 25))
          have HC4 : Hid (Kd.C k25 (Wb.alloc (.cells #[.int .i64 y.f0.f0, .int .i64 y.f0.f1, .int .i64 y.f0.f2, .int .i64 y.f1, .int .i64 y.f2, .int .i64 k, .bool y.f4] 25)) (some ⟨Wb.heap.size, 0, none⟩) 1 [retag k y]) := hide (C_one (Blk.new Wb 25 _) flatM rfl k25_mk)
          obtain ⟨W4, hW4⟩ : ∃ W4, Wb.alloc (.cells #[.int .i64 y.f0.f0, .int .i64 y.f0.f1, .int .i64 y.f0.f2, .int .i64 y.f1, .int .i64 y.f2, .int .i64 k, .bool y.f4] 25) = W4 := ⟨_, rfl⟩
          obtain ⟨gs, hgs⟩ : ∃ gs, Wb.heap.size = gs := ⟨_, rfl⟩
          rw [hW4] at HM4 HI4 HQ4 HC4
          rw [hgs] at HC4
          have HSg : Hid (w.heap.size ≤ W4.heap.size) := hide HQ4.out.bel.size
          have hll : ((tag l0).take k).length = k := by simp [tag]; omega
          have HLL := hide hll
          clear hll HI HQ HQa HIa HMa HQb HIb HMb
          go_wp2_with ((with_reducible refine gate_builtin (b := .append) (xs := #[.tmp 47, .tmp 49]) rfl ?_); at_builtin; refine wpList_plain (by rfl) (fun K hK => ?_); refine wp1_append flatM rfl k25_open (.tmp 47) (.tmp 49) 26 rfl zM 56 Try.underlying26 infoM rfl _ (by rfl) HI4.out _ _ _ [retag k y] (by rfl) HC4.out (by omega) ?aL HSg.out ?_; (case aL => rw [HLL.out]; have := HN.out; simp only [List.length_singleton]; omega); intro A' m' c' w5 hm ho hg hblk; have hmk : m' = k + 1 := (by rw [hm, HLL.out]; rfl); subst hmk; have HO5 := hide ho; have HG5 := hide hg; have HBk5 := hide hblk; have HM5 := hide (HM4.out.grown hg (fun e => HNa.out gm e.symm rfl)); have u0 : w5.cell? ⟨gm, 0, none⟩ = some (.int .i64 y.f0.f0) := HM5.out.cell 0; have u1 : w5.cell? ⟨gm, 1, none⟩ = some (.int .i64 y.f0.f1) := HM5.out.cell 1; have u2 : w5.cell? ⟨gm, 2, none⟩ = some (.int .i64 y.f0.f2) := HM5.out.cell 2; have u3 : w5.cell? ⟨gm, 3, none⟩ = some (.int .i64 y.f1) := HM5.out.cell 3; have u4 : w5.cell? ⟨gm, 4, none⟩ = some (.int .i64 y.f2) := HM5.out.cell 4; have u5 : w5.cell? ⟨gm, 5, none⟩ = some (.int .i64 k) := HM5.out.cell 5; have u6 : w5.cell? ⟨gm, 6, none⟩ = some (.bool y.f4) := HM5.out.cell 6; clear hm ho hg hblk; refine hK _ _ ?_)
          have HI5 : Hid (OwnM w5 w.heap.size (.slice A' (k + 1) c') ((tag l0).take (k + 1))) := hide (by rw [HTG.out]; exact HO5.out)
          have HQ5 : Hid (Cs (fun x => (Value.slice A' (k + 1) c').ownBlock = some x) w w5 g a0 sl) := hide (HQ4.out.grow (S := fun x => (Value.slice Ai k ci).ownBlock = some x) (only_of_grown HG5.out (fun i e => .inl e)) (fun x e => .inl e) (fun x e => (HI4.out.blk x e).1) (fun x e => ⟨(HI5.out.blk x e).2, by
            rcases HBk5.out with h | h
            · exact .inl (.inl (h.symm.trans e))
            · have := h.symm.trans e
              injection this with this
              exact .inr (Nat.le_of_eq this)⟩))
          have hln : sl.length = k := by rw [HP.out.length_eq]; exact HLL.out
          have hnew : ∀ x ∈ sl, ¬ isOf (retag k y).f0.f1 (retag k y).f3 x := fun x hx hq => by
            have h1 := HP.out.mem_iff.1 hx
            obtain ⟨j, hj, hje⟩ := List.getElem_of_mem h1
            have hjk : j < k := by rw [HLL.out] at hj; exact hj
            have h2 : x.f3 = (j : Int) := by rw [← hje, List.getElem_take]; exact tag_get l0 j _
            have h3 : x.f3 = (k : Int) := hq.2
            omega
          have HPu := hide (cs_push_new HQ5.out (retag k y) hnew (by have := HN.out; omega))
          unfold cM c25 retag at HPu
          have HPp := hide ((perm_ins (lt := befM) sl (retag k y)).trans ((HP.out.cons _).trans (show (retag k y :: (tag l0).take k).Perm ((tag l0).take (k + 1)) by rw [HTG.out]; exact List.perm_append_comm (l₁ := [retag k y]))))
          clear hln hnew HI4 HQ4 HM4 HC4 HSg HO5 HG5 HBk5
          refine HPu.out.mono ?_
          rintro e w6 ⟨rfl, hq6, hk6⟩
          have HQ6 := hide hq6
          have HI6 := hide (HI5.out.move (fun x hx => hk6 x hx))
          clear hq6 hk6 HPu HI5 HQ5
          go_wp2_with fail
          go_roundw
          case rel => exact ⟨k + 1, _, A', c', by go_num, rfl, by omega, HQ6, HI6, HPp⟩
          case measure => simp [intOf]; omega
        · have b1 : ¬ (k : Int) < (n : Int) := by omega
          obtain rfl : k = n := by omega
          obtain ⟨S, hS⟩ : ∃ S, (tag l0).take k = S := ⟨_, rfl⟩
          have hll : ((tag l0).take k).length = k := by have := HN.out; simp [tag]; omega
          rw [hS] at hll HI HP
          obtain ⟨Aj, cj, hvj, hcj, hCj, _⟩ := HI.out.reads flatM rfl k25_mk
          injection hvj with e1 e2 e3
          subst e1 e3
          have HSo := hide (sorted_call Ai ci S hcj (by rw [hll]; have := HN.out; omega) wr hCj)
          rw [hll] at HSo
          clear e2
          have HE : Hid (isort befM S = sl) := hide (srt_uq_eq (srt_isort weakM S) HQ.out.at_.srt ((perm_isort S).trans HP.out.symm) ((Uq.perm ((perm_isort S).trans HP.out.symm)).2 HQ.out.at_.uq))
          have HRl : Hid (sl.length = k) := hide (by rw [HP.out.length_eq]; exact hll)
          clear hS hll hCj hcj hk hlt b1
          go_wp2_with fail
          refine HSo.out.mono ?_
          rw [HE.out]
          rintro e w4 ⟨vS, rfl, hoS, hbS⟩
          obtain ⟨As, cs, hvs, _, _⟩ := hoS.slice
          subst hvs
          obtain ⟨R0, hR0⟩ : ∃ R0, sl = R0 := ⟨_, rfl⟩
          rw [hR0] at hoS HRl HQ ⊢
          have HQ4 : Hid (Cs (fun x => (Value.slice As R0.length cs).ownBlock = some x) w w4 g a0 (R0.drop 0)) := hide ((HQ.out.grow (S := fun _ => False) (only_of_below hbS _) (fun x e => e.elim) (fun x e => e.elim) (fun x e => ⟨(hoS.blk x e).2, .inr (hoS.blk x e).1⟩)))
          have HW4 := hide hoS
          obtain ⟨bw, hbw⟩ : ∃ bw, wr.heap.size = bw := ⟨_, rfl⟩
          rw [hbw] at HW4
          clear hR0 hbw hoS hbS HSo HP HQ HI HE
          rw [HRl.out]
          go_wp2_with fail
          go_loopw [12] (fun iv wr => ∃ (i : Nat), iv = .int .i64 i ∧ i ≤ k ∧ Hid (Cs (fun x => (Value.slice As R0.length cs).ownBlock = some x) w wr g a0 (R0.drop i)) ∧ Hid (OwnM wr bw (.slice As R0.length cs) R0)) (fun iv _ => k - (intOf iv).toNat)
          case atStart => exact ⟨0, rfl, Nat.zero_le _, HQ4, HW4⟩
          case round =>
            obtain ⟨i, rfl, hi, HQ, HW⟩ := hrel
            clear HQ4 HW4
            have hk5 : (k : Int) ≤ 500 := by have := HN.out; omega
            by_cases hlt : i < k
            · have t1 : (i : Int) < (k : Int) := by omega
              have hir : i < R0.length := by rw [HRl.out]; exact hlt
              have hd : R0.drop i = R0[i] :: R0.drop (i + 1) := List.drop_eq_getElem_cons hir
              obtain ⟨z, hz⟩ : ∃ z, R0[i] = z := ⟨_, rfl⟩
              rw [hz] at hd
              rw [hd] at HQ
              have hlen2 : (R0.drop (i + 1)).length = k - i - 1 := by rw [List.length_drop, HRl.out]; omega
              have HPo := hide (cs_pop_some HQ.out)
              unfold cM c25 at HPo
              clear hd
              go_wp2_with fail
              refine HPo.out.mono ?_
              rintro e w5 ⟨rfl, hq5, hk5'⟩
              have HW5 := hide (HW.out.move (fun x hx => hk5' x hx))
              have HQ5 := hide hq5
              clear hq5 hk5' HPo HQ HW
              rename_i K1 h1 K2 h2
              have HK := hide h1
              clear h1
              go_wp2_with fail
              have HQ6 := hide (HQ5.out.alloc (.cells #[.int .i64 z.f0.f0, .int .i64 z.f0.f1, .int .i64 z.f0.f2, .int .i64 z.f1, .int .i64 z.f2, .int .i64 z.f3, .bool z.f4] 25))
              have HW6 := hide (HW5.out.alloc (.cells #[.int .i64 z.f0.f0, .int .i64 z.f0.f1, .int .i64 z.f0.f2, .int .i64 z.f1, .int .i64 z.f2, .int .i64 z.f3, .bool z.f4] 25))
              have HM6 := hide (Blk.new w5 25 #[.int .i64 z.f0.f0, .int .i64 z.f0.f1, .int .i64 z.f0.f2, .int .i64 z.f1, .int .i64 z.f2, .int .i64 z.f3, .bool z.f4])
              generalize w5.alloc (.cells #[.int .i64 z.f0.f0, .int .i64 z.f0.f1, .int .i64 z.f0.f2, .int .i64 z.f1, .int .i64 z.f2, .int .i64 z.f3, .bool z.f4] 25) = w6 at HQ6 HW6 HM6 ⊢
              generalize w5.heap.size = gm at HM6 ⊢
              refine HK.out _ _ ?_
              clear HK K1 HQ5 HW5
              have m0 : w6.cell? ⟨gm, 0, none⟩ = some (.int .i64 z.f0.f0) := HM6.out.cell 0
              have m1 : w6.cell? ⟨gm, 1, none⟩ = some (.int .i64 z.f0.f1) := HM6.out.cell 1
              have m2 : w6.cell? ⟨gm, 2, none⟩ = some (.int .i64 z.f0.f2) := HM6.out.cell 2
              have m3 : w6.cell? ⟨gm, 3, none⟩ = some (.int .i64 z.f1) := HM6.out.cell 3
              have m4 : w6.cell? ⟨gm, 4, none⟩ = some (.int .i64 z.f2) := HM6.out.cell 4
              have m5 : w6.cell? ⟨gm, 5, none⟩ = some (.int .i64 z.f3) := HM6.out.cell 5
              have m6 : w6.cell? ⟨gm, 6, none⟩ = some (.bool z.f4) := HM6.out.cell 6
              obtain ⟨Av, cv, hvv, _, hCv, _⟩ := HW6.out.reads flatM rfl k25_mk
              cases hvv
              obtain ⟨ad, rfl, q0, q1, q2, q3, q4, q5, q6⟩ := at_S25 hCv hir
              rw [hz] at q0 q1 q2 q3 q4 q5 q6
              obtain ⟨d, hd⟩ : ∃ d, k - i - 1 = d := ⟨_, rfl⟩
              have hdI : (k : Int) - (i : Int) - 1 = (d : Int) := by omega
              have HLe : Hid (∀ nq, Calls Try.prog 11 #[.pointer (some ⟨g, 0, none⟩)] (w6.drewN nq) fun e w'' => e = .returned (.int .i64 (d : Nat)) ∧ ∃ m, w'' = w6.drewN m) := hide (fun nq => Calls.quiet_of_same (n := nq) (by have := cs_len (HQ6.out.below (below_drewN (Below.refl w6.heap.size w6) nq)); rw [hlen2, hd] at this; exact this))
              have n1 := eqM_refl z
              unfold eqM at n1
              clear hCv hz
              go_wp2_with fail
              refine wp_region_quiet_lit (by kernel_rfl) (Lex.lexB_of _ (by kernel_rfl) (by kernel_rfl)) ?_
              repeat (go_big_quiet_step ((go_at_call 11; with_reducible exact HLe.out _)))
              refine wpQuiet_nil ?_
              intro _ hw'
              obtain ⟨nq, hw''⟩ := hw'
              subst hw''
              go_wp2_with fail
              go_roundw
              case rel => exact ⟨i + 1, by go_num, by omega, hide (HQ6.out.below (below_drewN (Below.refl w6.heap.size w6) nq)), hide (HW6.out.drewN nq)⟩
              case measure => simp [intOf]; omega
            · have t1 : ¬ (i : Int) < (k : Int) := by omega
              obtain rfl : i = k := by omega
              have hnil : R0.drop i = [] := List.drop_of_length_le (by rw [HRl.out]; exact Nat.le_refl _)
              rw [hnil] at HQ
              have HPo := hide (cs_pop_none HQ.out)
              unfold zA at HPo
              go_wp2_with fail
              refine HPo.out.mono ?_
              rintro e w5 ⟨rfl, hq5, _⟩
              have HB5 := hide hq5.bel
              clear hq5 HPo
              go_wp2_with fail
              go_ret
              exact ⟨rfl, HB5.out.alloc HB5.out.size _⟩
    · obtain ⟨n, hn⟩ : ∃ n : Nat, l0.length = n := ⟨_, rfl⟩
      have hnI : (l0.length : Int) = (n : Int) := by omega
      rw [hnI]
      have HN : Hid (n ≤ 500 ∧ n ≤ l0.length) := hide (by omega)
      clear hn hnI
      go_loopw [8, 9] (fun vi iv wr => ∃ (k : Nat) (sl : List M) (Ai : Option Addr) (ci : Nat), iv = .int .i64 k ∧ vi = .slice Ai k ci ∧ k ≤ n ∧ Hid (Cs (fun x => (Value.slice Ai k ci).ownBlock = some x) w wr g a0 sl) ∧ Hid (OwnM wr w.heap.size (.slice Ai k ci) ((tag l0).take k)) ∧ Hid (sl.Perm ((tag l0).take k))) (fun _ iv _ => n - (intOf iv).toNat)
      case atStart => exact ⟨0, [], none, 0, rfl, rfl, Nat.zero_le _, hide (HQ2.out.less (fun x h => by cases h)), hide (Own.nil _ _ _ _ _), hide (List.Perm.refl _)⟩
      case round =>
        obtain ⟨k, sl, Ai, ci, rfl, rfl, hk, HQ, HI, HP⟩ := hrel
        clear HQ2
        by_cases hlt : k < n
        · have b1 : (k : Int) < (n : Int) := by omega
          have hk5 : (k : Int) ≤ 500 := by have := HN.out; omega
          have hkl : k < l0.length := by have := HN.out; omega
          obtain ⟨ad, rfl, q0, q1, q2, q3, q4, q5, q6⟩ := at_S25 (Kd.C_below HR.out HQ.out.bel) hkl
          have bl : (k : Int) < (l0.length : Int) := by omega
          have HTG : Hid ((tag l0).take (k + 1) = (tag l0).take k ++ [retag k l0[k]]) := hide (tag_take l0 k hkl)
          obtain ⟨y, hy⟩ : ∃ y, l0[k] = y := ⟨_, rfl⟩
          rw [hy] at q0 q1 q2 q3 q4 q5 q6 HTG
          clear hy
          have HQa := hide (HQ.out.add (.cells #[.int .i64 y.f0.f0, .int .i64 y.f0.f1, .int .i64 y.f0.f2, .int .i64 y.f1, .int .i64 y.f2, .int .i64 y.f3, .bool y.f4] 25))
          have HIa := hide (HI.out.alloc (.cells #[.int .i64 y.f0.f0, .int .i64 y.f0.f1, .int .i64 y.f0.f2, .int .i64 y.f1, .int .i64 y.f2, .int .i64 y.f3, .bool y.f4] 25))
          have HMa := hide (Blk.new wr 25 #[.int .i64 y.f0.f0, .int .i64 y.f0.f1, .int .i64 y.f0.f2, .int .i64 y.f1, .int .i64 y.f2, .int .i64 y.f3, .bool y.f4])
          have HGW : Hid (w.heap.size ≤ wr.heap.size) := hide HQ.out.bel.size
          have HNa : Hid (∀ x, (Value.slice Ai k ci).ownBlock = some x → x ≠ wr.heap.size) := hide (fun x hx => by have := (HI.out.blk x hx).2; omega)
          obtain ⟨Wa, hWa⟩ : ∃ Wa, wr.alloc (.cells #[.int .i64 y.f0.f0, .int .i64 y.f0.f1, .int .i64 y.f0.f2, .int .i64 y.f1, .int .i64 y.f2, .int .i64 y.f3, .bool y.f4] 25) = Wa := ⟨_, rfl⟩
          obtain ⟨gm, hgm⟩ : ∃ gm, wr.heap.size = gm := ⟨_, rfl⟩
          rw [hWa] at HQa HIa HMa
          rw [hgm] at HMa HQa HNa HGW
          have y5 : Wa.cell? ⟨gm, 5, none⟩ = some (.int .i64 y.f3) := HMa.out.cell 5
          have fy5 : Wa.frozen? ⟨gm, 5, none⟩ = false := HMa.out.frozen 5
          have hOm : Only Wa (Wa.setCell ⟨gm, 5, none⟩ (.int .i64 k)) (fun x => x = gm) := (Only.refl Wa (fun x => x = gm)).setCell (p := ⟨gm, 5, none⟩) (.inl rfl) _
          have HMb : Hid (Blk (Wa.setCell ⟨gm, 5, none⟩ (.int .i64 k)) gm 25 #[.int .i64 y.f0.f0, .int .i64 y.f0.f1, .int .i64 y.f0.f2, .int .i64 y.f1, .int .i64 y.f2, .int .i64 k, .bool y.f4]) := hide (HMa.out.set_ 5 (.int .i64 k))
          have HQb := hide (HQa.out.far hOm (fun x e => .inr e) (fun x e => by rw [e]; exact HGW.out))
          have HIb := hide (HIa.out.only hOm (fun x hx e => HNa.out x hx e))
          clear hOm
          obtain ⟨Wb, hWb⟩ : ∃ Wb, Wa.setCell ⟨gm, 5, none⟩ (.int .i64 k) = Wb := ⟨_, rfl⟩
          rw [hWb] at HMb HQb HIb
          have v0 : Wb.cell? ⟨gm, 0, none⟩ = some (.int .i64 y.f0.f0) := HMb.out.cell 0
          have v1 : Wb.cell? ⟨gm, 1, none⟩ = some (.int .i64 y.f0.f1) := HMb.out.cell 1
          have v2 : Wb.cell? ⟨gm, 2, none⟩ = some (.int .i64 y.f0.f2) := HMb.out.cell 2
          have v3 : Wb.cell? ⟨gm, 3, none⟩ = some (.int .i64 y.f1) := HMb.out.cell 3
          have v4 : Wb.cell? ⟨gm, 4, none⟩ = some (.int .i64 y.f2) := HMb.out.cell 4
          have v5 : Wb.cell? ⟨gm, 5, none⟩ = some (.int .i64 k) := HMb.out.cell 5
          have v6 : Wb.cell? ⟨gm, 6, none⟩ = some (.bool y.f4) := HMb.out.cell 6
          have HM4 := hide (HMb.out.alloc (.cells #[.int .i64 y.f0.f0, .int .i64 y.f0.f1, .int .i64 y.f0.f2, .int .i64 y.f1, .int .i64 y.f2, .int .i64 k, .bool y.f4] 25))
          have HI4 := hide (HIb.out.alloc (.cells #[.int .i64 y.f0.f0, .int .i64 y.f0.f1, .int .i64 y.f0.f2, .int .i64 y.f1, .int .i64 y.f2, .int .i64 k, .bool y.f4] 25))
          have HQ4 := hide (HQb.out.alloc (.cells #[.int .i64 y.f0.f0, .int .i64 y.f0.f1, .int .i64 y.f0.f2, .int .i64 y.f1, .int .i64 y.f2, .int .i64 k, .bool y.f4] 25))
          have HC4 : Hid (Kd.C k25 (Wb.alloc (.cells #[.int .i64 y.f0.f0, .int .i64 y.f0.f1, .int .i64 y.f0.f2, .int .i64 y.f1, .int .i64 y.f2, .int .i64 k, .bool y.f4] 25)) (some ⟨Wb.heap.size, 0, none⟩) 1 [retag k y]) := hide (C_one (Blk.new Wb 25 _) flatM rfl k25_mk)
          obtain ⟨W4, hW4⟩ : ∃ W4, Wb.alloc (.cells #[.int .i64 y.f0.f0, .int .i64 y.f0.f1, .int .i64 y.f0.f2, .int .i64 y.f1, .int .i64 y.f2, .int .i64 k, .bool y.f4] 25) = W4 := ⟨_, rfl⟩
          obtain ⟨gs, hgs⟩ : ∃ gs, Wb.heap.size = gs := ⟨_, rfl⟩
          rw [hW4] at HM4 HI4 HQ4 HC4
          rw [hgs] at HC4
          have HSg : Hid (w.heap.size ≤ W4.heap.size) := hide HQ4.out.bel.size
          have hll : ((tag l0).take k).length = k := by simp [tag]; omega
          have HLL := hide hll
          clear hll HI HQ HQa HIa HMa HQb HIb HMb
          go_wp2_with ((with_reducible refine gate_builtin (b := .append) (xs := #[.tmp 47, .tmp 49]) rfl ?_); at_builtin; refine wpList_plain (by rfl) (fun K hK => ?_); refine wp1_append flatM rfl k25_open (.tmp 47) (.tmp 49) 26 rfl zM 56 Try.underlying26 infoM rfl _ (by rfl) HI4.out _ _ _ [retag k y] (by rfl) HC4.out (by omega) ?aL HSg.out ?_; (case aL => rw [HLL.out]; have := HN.out; simp only [List.length_singleton]; omega); intro A' m' c' w5 hm ho hg hblk; have hmk : m' = k + 1 := (by rw [hm, HLL.out]; rfl); subst hmk; have HO5 := hide ho; have HG5 := hide hg; have HBk5 := hide hblk; have HM5 := hide (HM4.out.grown hg (fun e => HNa.out gm e.symm rfl)); have u0 : w5.cell? ⟨gm, 0, none⟩ = some (.int .i64 y.f0.f0) := HM5.out.cell 0; have u1 : w5.cell? ⟨gm, 1, none⟩ = some (.int .i64 y.f0.f1) := HM5.out.cell 1; have u2 : w5.cell? ⟨gm, 2, none⟩ = some (.int .i64 y.f0.f2) := HM5.out.cell 2; have u3 : w5.cell? ⟨gm, 3, none⟩ = some (.int .i64 y.f1) := HM5.out.cell 3; have u4 : w5.cell? ⟨gm, 4, none⟩ = some (.int .i64 y.f2) := HM5.out.cell 4; have u5 : w5.cell? ⟨gm, 5, none⟩ = some (.int .i64 k) := HM5.out.cell 5; have u6 : w5.cell? ⟨gm, 6, none⟩ = some (.bool y.f4) := HM5.out.cell 6; clear hm ho hg hblk; refine hK _ _ ?_)
          have HI5 : Hid (OwnM w5 w.heap.size (.slice A' (k + 1) c') ((tag l0).take (k + 1))) := hide (by rw [HTG.out]; exact HO5.out)
          have HQ5 : Hid (Cs (fun x => (Value.slice A' (k + 1) c').ownBlock = some x) w w5 g a0 sl) := hide (HQ4.out.grow (S := fun x => (Value.slice Ai k ci).ownBlock = some x) (only_of_grown HG5.out (fun i e => .inl e)) (fun x e => .inl e) (fun x e => (HI4.out.blk x e).1) (fun x e => ⟨(HI5.out.blk x e).2, by
            rcases HBk5.out with h | h
            · exact .inl (.inl (h.symm.trans e))
            · have := h.symm.trans e
              injection this with this
              exact .inr (Nat.le_of_eq this)⟩))
          have hln : sl.length = k := by rw [HP.out.length_eq]; exact HLL.out
          have hnew : ∀ x ∈ sl, ¬ isOf (retag k y).f0.f1 (retag k y).f3 x := fun x hx hq => by
            have h1 := HP.out.mem_iff.1 hx
            obtain ⟨j, hj, hje⟩ := List.getElem_of_mem h1
            have hjk : j < k := by rw [HLL.out] at hj; exact hj
            have h2 : x.f3 = (j : Int) := by rw [← hje, List.getElem_take]; exact tag_get l0 j _
            have h3 : x.f3 = (k : Int) := hq.2
            omega
          have HPu := hide (cs_push_new HQ5.out (retag k y) hnew (by have := HN.out; omega))
          unfold cM c25 retag at HPu
          have HPp := hide ((perm_ins (lt := befM) sl (retag k y)).trans ((HP.out.cons _).trans (show (retag k y :: (tag l0).take k).Perm ((tag l0).take (k + 1)) by rw [HTG.out]; exact List.perm_append_comm (l₁ := [retag k y]))))
          clear hln hnew HI4 HQ4 HM4 HC4 HSg HO5 HG5 HBk5
          refine HPu.out.mono ?_
          rintro e w6 ⟨rfl, hq6, hk6⟩
          have HQ6 := hide hq6
          have HI6 := hide (HI5.out.move (fun x hx => hk6 x hx))
          clear hq6 hk6 HPu HI5 HQ5
          go_wp2_with fail
          go_roundw
          case rel => exact ⟨k + 1, _, A', c', by go_num, rfl, by omega, HQ6, HI6, HPp⟩
          case measure => simp [intOf]; omega
        · have b1 : ¬ (k : Int) < (n : Int) := by omega
          obtain rfl : k = n := by omega
          obtain ⟨S, hS⟩ : ∃ S, (tag l0).take k = S := ⟨_, rfl⟩
          have hll : ((tag l0).take k).length = k := by have := HN.out; simp [tag]; omega
          rw [hS] at hll HI HP
          obtain ⟨Aj, cj, hvj, hcj, hCj, _⟩ := HI.out.reads flatM rfl k25_mk
          injection hvj with e1 e2 e3
          subst e1 e3
          have HSo := hide (sorted_call Ai ci S hcj (by rw [hll]; have := HN.out; omega) wr hCj)
          rw [hll] at HSo
          clear e2
          have HE : Hid (isort befM S = sl) := hide (srt_uq_eq (srt_isort weakM S) HQ.out.at_.srt ((perm_isort S).trans HP.out.symm) ((Uq.perm ((perm_isort S).trans HP.out.symm)).2 HQ.out.at_.uq))
          have HRl : Hid (sl.length = k) := hide (by rw [HP.out.length_eq]; exact hll)
          clear hS hll hCj hcj hk hlt b1
          go_wp2_with fail
          refine HSo.out.mono ?_
          rw [HE.out]
          rintro e w4 ⟨vS, rfl, hoS, hbS⟩
          obtain ⟨As, cs, hvs, _, _⟩ := hoS.slice
          subst hvs
          obtain ⟨R0, hR0⟩ : ∃ R0, sl = R0 := ⟨_, rfl⟩
          rw [hR0] at hoS HRl HQ ⊢
          have HQ4 : Hid (Cs (fun x => (Value.slice As R0.length cs).ownBlock = some x) w w4 g a0 (R0.drop 0)) := hide ((HQ.out.grow (S := fun _ => False) (only_of_below hbS _) (fun x e => e.elim) (fun x e => e.elim) (fun x e => ⟨(hoS.blk x e).2, .inr (hoS.blk x e).1⟩)))
          have HW4 := hide hoS
          obtain ⟨bw, hbw⟩ : ∃ bw, wr.heap.size = bw := ⟨_, rfl⟩
          rw [hbw] at HW4
          clear hR0 hbw hoS hbS HSo HP HQ HI HE
          rw [HRl.out]
          go_wp2_with fail
          go_loopw [12] (fun iv wr => ∃ (i : Nat), iv = .int .i64 i ∧ i ≤ k ∧ Hid (Cs (fun x => (Value.slice As R0.length cs).ownBlock = some x) w wr g a0 (R0.drop i)) ∧ Hid (OwnM wr bw (.slice As R0.length cs) R0)) (fun iv _ => k - (intOf iv).toNat)
          case atStart => exact ⟨0, rfl, Nat.zero_le _, HQ4, HW4⟩
          case round =>
            obtain ⟨i, rfl, hi, HQ, HW⟩ := hrel
            clear HQ4 HW4
            have hk5 : (k : Int) ≤ 500 := by have := HN.out; omega
            by_cases hlt : i < k
            · have t1 : (i : Int) < (k : Int) := by omega
              have hir : i < R0.length := by rw [HRl.out]; exact hlt
              have hd : R0.drop i = R0[i] :: R0.drop (i + 1) := List.drop_eq_getElem_cons hir
              obtain ⟨z, hz⟩ : ∃ z, R0[i] = z := ⟨_, rfl⟩
              rw [hz] at hd
              rw [hd] at HQ
              have hlen2 : (R0.drop (i + 1)).length = k - i - 1 := by rw [List.length_drop, HRl.out]; omega
              have HPo := hide (cs_pop_some HQ.out)
              unfold cM c25 at HPo
              clear hd
              go_wp2_with fail
              refine HPo.out.mono ?_
              rintro e w5 ⟨rfl, hq5, hk5'⟩
              have HW5 := hide (HW.out.move (fun x hx => hk5' x hx))
              have HQ5 := hide hq5
              clear hq5 hk5' HPo HQ HW
              rename_i K1 h1 K2 h2
              have HK := hide h1
              clear h1
              go_wp2_with fail
              have HQ6 := hide (HQ5.out.alloc (.cells #[.int .i64 z.f0.f0, .int .i64 z.f0.f1, .int .i64 z.f0.f2, .int .i64 z.f1, .int .i64 z.f2, .int .i64 z.f3, .bool z.f4] 25))
              have HW6 := hide (HW5.out.alloc (.cells #[.int .i64 z.f0.f0, .int .i64 z.f0.f1, .int .i64 z.f0.f2, .int .i64 z.f1, .int .i64 z.f2, .int .i64 z.f3, .bool z.f4] 25))
              have HM6 := hide (Blk.new w5 25 #[.int .i64 z.f0.f0, .int .i64 z.f0.f1, .int .i64 z.f0.f2, .int .i64 z.f1, .int .i64 z.f2, .int .i64 z.f3, .bool z.f4])
              generalize w5.alloc (.cells #[.int .i64 z.f0.f0, .int .i64 z.f0.f1, .int .i64 z.f0.f2, .int .i64 z.f1, .int .i64 z.f2, .int .i64 z.f3, .bool z.f4] 25) = w6 at HQ6 HW6 HM6 ⊢
              generalize w5.heap.size = gm at HM6 ⊢
              refine HK.out _ _ ?_
              clear HK K1 HQ5 HW5
              have m0 : w6.cell? ⟨gm, 0, none⟩ = some (.int .i64 z.f0.f0) := HM6.out.cell 0
              have m1 : w6.cell? ⟨gm, 1, none⟩ = some (.int .i64 z.f0.f1) := HM6.out.cell 1
              have m2 : w6.cell? ⟨gm, 2, none⟩ = some (.int .i64 z.f0.f2) := HM6.out.cell 2
              have m3 : w6.cell? ⟨gm, 3, none⟩ = some (.int .i64 z.f1) := HM6.out.cell 3
              have m4 : w6.cell? ⟨gm, 4, none⟩ = some (.int .i64 z.f2) := HM6.out.cell 4
              have m5 : w6.cell? ⟨gm, 5, none⟩ = some (.int .i64 z.f3) := HM6.out.cell 5
              have m6 : w6.cell? ⟨gm, 6, none⟩ = some (.bool z.f4) := HM6.out.cell 6
              obtain ⟨Av, cv, hvv, _, hCv, _⟩ := HW6.out.reads flatM rfl k25_mk
              cases hvv
              obtain ⟨ad, rfl, q0, q1, q2, q3, q4, q5, q6⟩ := at_S25 hCv hir
              rw [hz] at q0 q1 q2 q3 q4 q5 q6
              obtain ⟨d, hd⟩ : ∃ d, k - i - 1 = d := ⟨_, rfl⟩
              have hdI : (k : Int) - (i : Int) - 1 = (d : Int) := by omega
              have HLe : Hid (∀ nq, Calls Try.prog 11 #[.pointer (some ⟨g, 0, none⟩)] (w6.drewN nq) fun e w'' => e = .returned (.int .i64 (d : Nat)) ∧ ∃ m, w'' = w6.drewN m) := hide (fun nq => Calls.quiet_of_same (n := nq) (by have := cs_len (HQ6.out.below (below_drewN (Below.refl w6.heap.size w6) nq)); rw [hlen2, hd] at this; exact this))
              have n1 := eqM_refl z
              unfold eqM at n1
              clear hCv hz
              go_wp2_with fail
              refine wp_region_quiet_lit (by kernel_rfl) (Lex.lexB_of _ (by kernel_rfl) (by kernel_rfl)) ?_
              repeat (go_big_quiet_step ((go_at_call 11; with_reducible exact HLe.out _)))
              refine wpQuiet_nil ?_
              intro _ hw'
              obtain ⟨nq, hw''⟩ := hw'
              subst hw''
              go_wp2_with fail
              go_roundw
              case rel => exact ⟨i + 1, by go_num, by omega, hide (HQ6.out.below (below_drewN (Below.refl w6.heap.size w6) nq)), hide (HW6.out.drewN nq)⟩
              case measure => simp [intOf]; omega
            · have t1 : ¬ (i : Int) < (k : Int) := by omega
              obtain rfl : i = k := by omega
              have hnil : R0.drop i = [] := List.drop_of_length_le (by rw [HRl.out]; exact Nat.le_refl _)
              rw [hnil] at HQ
              have HPo := hide (cs_pop_none HQ.out)
              unfold zA at HPo
              go_wp2_with fail
              refine HPo.out.mono ?_
              rintro e w5 ⟨rfl, hq5, _⟩
              have HB5 := hide hq5.bel
              clear hq5 HPo
              go_wp2_with fail
              go_ret
              exact ⟨rfl, HB5.out.alloc HB5.out.size _⟩
end Go.Proofs.Ytkhdghlgkljdgaa.ladderOrder
