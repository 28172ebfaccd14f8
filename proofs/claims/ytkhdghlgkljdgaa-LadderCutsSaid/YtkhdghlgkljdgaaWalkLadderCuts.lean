/- The walk of LadderCuts. (Written by wip/t08/cutsgen.py out of HeapCuts'.) -/
import Derived.Test.YtkhdghlgkljdgaaLS
import Derived.Test.YtkhdghlgkljdgaaSameL
import Derived.Test.YtkhdghlgkljdgaaKindsLadderCuts
namespace Go.Proofs.Ytkhdghlgkljdgaa.ladderCuts
open Go.Proofs Go.RowKit Go.Deep Go.Proofs.Ytkhdghlgkljdgaa.SortPure Go.Proofs.Ytkhdghlgkljdgaa.Types Go.Proofs.Ytkhdghlgkljdgaa.Heap Go.Proofs.Ytkhdghlgkljdgaa.Row Go.Proofs.Ytkhdghlgkljdgaa.CQ Go.Proofs.Ytkhdghlgkljdgaa.LQ Go.Proofs.Ytkhdghlgkljdgaa.Ord Go.Proofs.Ytkhdghlgkljdgaa.Sorted Go.Proofs.Ytkhdghlgkljdgaa.Same Go.Proofs.YtkhdghlgkljdgaaW.PrintWords Go.Proofs.YtkhdghlgkljdgaaW.PrintLast Go.Proofs.YtkhdghlgkljdgaaW.PrintMore
set_option linter.unusedVariables false
set_option linter.unusedSimpArgs false
attribute [local go_sem high] eqRun
attribute [local go_sem] max2_int min2_int max_two min_two
set_option maxHeartbeats 16000000 in
set_option maxRecDepth 100000 in
theorem walk (a0 : Int) (wa0 : (Lit.int .i64 a0).wf = true) (A0 : Option Addr) (c0 : Nat) (l0 : List S25) (hc0 : l0.length ≤ c0) (w0 : ∀ y ∈ l0, I25 y) (y0 : l0.length * 56 ≤ 140737488351232) (a1 : Int) (w1 : (Lit.int .u8 a1).wf = true) (w : World) (hr0 : Kd.C k25 w A0 l0.length l0) :
    Calls Try.prog 5 #[.int .i64 a0, .slice A0 l0.length c0, .int .u8 a1] w fun e w' => e = .returned (.bool true) ∧ Below w.heap.size w w' := by
  have HR := hide hr0
  have HY := hide y0
  have HWF := hide w0
  have u : IntKind.u8.min ≤ a1 ∧ a1 ≤ IntKind.u8.max := by simpa [Lit.wf] using w1
  have e1 : IntKind.u8.min = 0 := by decide
  have e2 : IntKind.u8.max = 255 := by decide
  have ha : 0 ≤ a1 ∧ a1 < 256 := by omega
  clear hr0 y0 w0 w1 u e1 e2 wa0
  obtain ⟨a, rfl⟩ : ∃ a : Nat, a1 = (a : Int) := ⟨a1.toNat, by omega⟩
  have ha2 : (a : Int) < 256 := ha.2
  clear ha
  go_enter Try.func5, Try.ntmps5
  go_wp2_with fail
  by_cases hw : a0 < 1 ∨ 16384 < a0
  · refine (new_bad w hw).mono ?_
    rintro e w2 ⟨rfl, hw2⟩
    have hw3 := hw2.symm
    subst hw3
    go_wp2_with fail
    refine (new_bad w hw).mono ?_
    rintro e w2 ⟨rfl, hw2⟩
    have hw3 := hw2.symm
    subst hw3
    rcases hw with hw | hw
    · have h1 : decide (a0 < 1) = true := decide_eq_true hw
      go_wp2_with (go_at_call 9; refine (awake_call _).mono ?_; rintro e w5 ⟨rfl, hb5⟩; have HB5 := hide hb5; clear hb5)
      go_ret
      exact ⟨rfl, Below.refl _ _⟩
    · have h1 : decide (a0 < 1) = false := decide_eq_false (by omega)
      have h2 : decide (a0 > 16384) = true := decide_eq_true hw
      have h3 : decide (16384 < a0) = true := decide_eq_true hw
      go_wp2_with (go_at_call 9; refine (awake_call _).mono ?_; rintro e w5 ⟨rfl, hb5⟩; have HB5 := hide hb5; clear hb5)
      go_ret
      exact ⟨rfl, HB5.out⟩
  have hw1 : 1 ≤ a0 ∧ a0 ≤ 16384 := by omega
  refine (new_at w hw1.1 hw1.2).mono ?_
  rintro e w2 ⟨rfl, hq, hb⟩
  have HQ2 := hide hq
  have HB2 := hide hb
  have HL2 : Hid (w.heap.size < w2.heap.size) := hide hq.blk.lt
  clear hq hb
  go_wp2_with fail
  refine (new_at w2 hw1.1 hw1.2).mono ?_
  rintro e w3 ⟨rfl, hq, hb⟩
  have HT3 : Hid (Two (fun _ => False) a0 w w3 w.heap.size w2.heap.size [] []) := hide (by
    have hs := HL2.out
    have hl := hq.blk.lt
    have hz := hb.size
    refine ⟨(fun x => x = w.heap.size), (fun x => x = w2.heap.size), ⟨⟨_, _, _, _, _, _, HQ2.out.below hb, inv_nil⟩, hw1⟩, ⟨⟨_, _, _, _, _, _, hq, inv_nil⟩, hw1⟩, fun x h1 h2 => by omega, fun x hx => ?_, below_step HB2.out hb, fun x e => e.elim⟩
    rcases hx with e | e
    · exact ⟨by omega, by omega, fun q => q⟩
    · exact ⟨by omega, by omega, fun q => q⟩)
  obtain ⟨g, hg⟩ : ∃ g, w.heap.size = g := ⟨_, rfl⟩
  obtain ⟨gp, hgp⟩ : ∃ gp, w2.heap.size = gp := ⟨_, rfl⟩
  rw [hg, hgp] at HT3
  rw [hg, hgp]
  have HT3 : Hid (Two (fun _ => False) a0 w w3 g gp [] []) := HT3
  clear hg hgp hq hb HQ2 HB2 HL2
  by_cases h0 : l0.length = 0
  · obtain rfl : l0 = [] := List.eq_nil_of_length_eq_zero h0
    go_wp2_with fail
    refine (two_cut_none HT3.out 0 0 (by simp) (fun m hm => by simp at hm)).mono ?_
    rintro e w4 ⟨rfl, hT, hb⟩
    unfold zA
    go_wp2_with fail
    go_ret
    first
      | exact ⟨rfl, hT.bel⟩
      | exact ⟨rfl, hT.bel.alloc hT.bel.size _⟩
  · have z1 : ((l0.length : Int) == 0) = false := by rw [beq_eq_false_iff_ne]; omega
    have z2 : (l0.length == 0) = false := by simpa using h0
    by_cases h300 : (l0.length : Int) ≤ 300
    · go_wp2_with fail
      obtain ⟨n, hn⟩ : ∃ n : Nat, l0.length = n := ⟨_, rfl⟩
      have hnI : (l0.length : Int) = (n : Int) := by omega
      rw [hnI]
      obtain ⟨kk, hkk⟩ : ∃ kk : Nat, (a : Int) % (n : Int) = (kk : Int) := ⟨a % n, by first | rfl | exact (Int.natCast_emod a n).symm | simp⟩
      rw [hkk]
      have HN : Hid (n ≤ 300 ∧ n ≤ l0.length ∧ kk < n) := hide (by
        have h1 := Int.emod_lt_of_pos (a : Int) (b := (n : Int)) (by omega)
        refine ⟨by omega, by omega, by omega⟩)
      clear hn hnI hkk
      have HTa := hide ((HT3.out.add (.cells #[.int .i64 0, .int .i64 0, .int .i64 0, .int .i64 0, .int .i64 0, .int .i64 0, .bool false] 25)).less (Y := fun x => x = w3.heap.size) (fun x hx => .inr hx))
      have HOa : Hid (Blk (w3.alloc (.cells #[.int .i64 0, .int .i64 0, .int .i64 0, .int .i64 0, .int .i64 0, .int .i64 0, .bool false] 25)) w3.heap.size 25 (cM default).toArray) := hide (Blk.new w3 25 #[.int .i64 0, .int .i64 0, .int .i64 0, .int .i64 0, .int .i64 0, .int .i64 0, .bool false])
      have HGo : Hid (w.heap.size ≤ w3.heap.size) := hide HT3.out.bel.size
      generalize w3.alloc (.cells #[.int .i64 0, .int .i64 0, .int .i64 0, .int .i64 0, .int .i64 0, .int .i64 0, .bool false] 25) = w4 at HTa HOa ⊢
      generalize w3.heap.size = go at HTa HOa HGo ⊢
      clear HT3
      go_loopw [16] (fun iv wr => ∃ (i : Nat) (lq lp : List M) (z : M), iv = .int .i64 i ∧ i ≤ n ∧ Hid (Two (fun x => x = go) a0 w wr g gp lq lp) ∧ Hid (Blk wr go 25 (cM z).toArray) ∧ Hid (lq.Perm ((tag l0).take i)) ∧ Hid (Hq lq) ∧ Hid (Hq lp) ∧ Hid (i ≤ kk → lp.Perm ((tag l0).take i)) ∧ Hid (∀ h : kk < l0.length, kk < i → z = retag kk l0[kk] ∧ (z :: lp).Perm ((tag l0).take i))) (fun iv _ => n - (intOf iv).toNat)
      case atStart => exact ⟨0, [], [], default, rfl, Nat.zero_le _, HTa, HOa, hide (List.Perm.refl _), hide hq_nil, hide hq_nil, hide (fun _ => List.Perm.refl _), hide (fun h1 h2 => absurd h2 (Nat.not_lt_zero _))⟩
      case round =>
        obtain ⟨i, lq, lp, z, rfl, hi, HT, HO, HP, HHq, HHp, HPa, HPb⟩ := hrel
        clear HTa HOa
        by_cases hlt : i < n
        · have b1 : (i : Int) < (n : Int) := by omega
          have hi5 : (i : Int) ≤ 300 := by have := HN.out; omega
          have hil : i < l0.length := by have := HN.out; omega
          have bl : (i : Int) < (l0.length : Int) := by omega
          obtain ⟨ad, rfl, q0, q1, q2, q3, q4, q5, q6⟩ := at_S25 (Kd.C_below HR.out HT.out.bel) hil
          have HTG : Hid ((tag l0).take (i + 1) = (tag l0).take i ++ [retag i l0[i]]) := hide (tag_take l0 i hil)
          obtain ⟨y, hy⟩ : ∃ y, l0[i] = y := ⟨_, rfl⟩
          have HYY : Hid (∀ h : i < l0.length, l0[i] = y) := hide (fun h => hy)
          rw [hy] at q0 q1 q2 q3 q4 q5 q6 HTG
          clear hy
          have HTm := hide (HT.out.add (.cells #[.int .i64 y.f0.f0, .int .i64 y.f0.f1, .int .i64 y.f0.f2, .int .i64 y.f1, .int .i64 y.f2, .int .i64 y.f3, .bool y.f4] 25))
          have HMa := hide (Blk.new wr 25 #[.int .i64 y.f0.f0, .int .i64 y.f0.f1, .int .i64 y.f0.f2, .int .i64 y.f1, .int .i64 y.f2, .int .i64 y.f3, .bool y.f4])
          have HOm := hide (HO.out.alloc (.cells #[.int .i64 y.f0.f0, .int .i64 y.f0.f1, .int .i64 y.f0.f2, .int .i64 y.f1, .int .i64 y.f2, .int .i64 y.f3, .bool y.f4] 25))
          have HNg : Hid (go ≠ wr.heap.size ∧ w.heap.size ≤ wr.heap.size) := hide ⟨by have := HO.out.lt; omega, HT.out.bel.size⟩
          obtain ⟨Wa, hWa⟩ : ∃ Wa, wr.alloc (.cells #[.int .i64 y.f0.f0, .int .i64 y.f0.f1, .int .i64 y.f0.f2, .int .i64 y.f1, .int .i64 y.f2, .int .i64 y.f3, .bool y.f4] 25) = Wa := ⟨_, rfl⟩
          obtain ⟨gm, hgm⟩ : ∃ gm, wr.heap.size = gm := ⟨_, rfl⟩
          rw [hWa] at HTm HMa HOm
          rw [hgm] at HTm HMa HNg
          have y5 : Wa.cell? ⟨gm, 5, none⟩ = some (.int .i64 y.f3) := HMa.out.cell 5
          have fy5 : Wa.frozen? ⟨gm, 5, none⟩ = false := HMa.out.frozen 5
          have HMb : Hid (Blk (Wa.setCell ⟨gm, 5, none⟩ (.int .i64 i)) gm 25 #[.int .i64 y.f0.f0, .int .i64 y.f0.f1, .int .i64 y.f0.f2, .int .i64 y.f1, .int .i64 y.f2, .int .i64 i, .bool y.f4]) := hide (HMa.out.set_ 5 (.int .i64 i))
          have HTb := hide (HTm.out.set_ (a := ⟨gm, 5, none⟩) (.inr rfl) HNg.out.2 (.int .i64 i))
          have HOb := hide (HOm.out.far (p := ⟨gm, 5, none⟩) HNg.out.1 (.int .i64 i))
          obtain ⟨Wb, hWb⟩ : ∃ Wb, Wa.setCell ⟨gm, 5, none⟩ (.int .i64 i) = Wb := ⟨_, rfl⟩
          rw [hWb] at HMb HTb HOb
          clear HTm HMa HOm
          have v0 : Wb.cell? ⟨gm, 0, none⟩ = some (.int .i64 y.f0.f0) := HMb.out.cell 0
          have v1 : Wb.cell? ⟨gm, 1, none⟩ = some (.int .i64 y.f0.f1) := HMb.out.cell 1
          have v2 : Wb.cell? ⟨gm, 2, none⟩ = some (.int .i64 y.f0.f2) := HMb.out.cell 2
          have v3 : Wb.cell? ⟨gm, 3, none⟩ = some (.int .i64 y.f1) := HMb.out.cell 3
          have v4 : Wb.cell? ⟨gm, 4, none⟩ = some (.int .i64 y.f2) := HMb.out.cell 4
          have v5 : Wb.cell? ⟨gm, 5, none⟩ = some (.int .i64 i) := HMb.out.cell 5
          have v6 : Wb.cell? ⟨gm, 6, none⟩ = some (.bool y.f4) := HMb.out.cell 6
          have hll : ((tag l0).take i).length = i := by simp [tag]; omega
          have hnew : ∀ lx : List M, (∀ x ∈ lx, x ∈ (tag l0).take i) → ∀ x ∈ lx, ¬ isOf (retag i y).f0.f1 (retag i y).f3 x := fun lx hlx x hx hq => by
            have h1 := hlx x hx
            obtain ⟨j, hj, hje⟩ := List.getElem_of_mem h1
            have hjk : j < i := by rw [hll] at hj; exact hj
            have h2 : x.f3 = (j : Int) := by rw [← hje, List.getElem_take]; exact tag_get l0 j _
            have h3 : x.f3 = (i : Int) := hq.2
            omega
          have hPu := two_push HTb.out (retag i y) (by rw [HP.out.length_eq, hll]; have := HN.out; omega) (hnew lq (fun x hx => HP.out.mem_iff.1 hx))
          have HPp := hide (pushL_perm lq (retag i y))
          have HHq2 := hide (hq_push HHq.out (retag i y))
          obtain ⟨lq2, hlq2⟩ : ∃ lq2, pushL lq (retag i y) = lq2 := ⟨_, rfl⟩
          rw [hlq2] at hPu HPp HHq2
          have HPu : Hid (Calls Try.prog 10 #[.pointer (some ⟨g, 0, none⟩), .agg #[.int .i64 y.f0.f0, .int .i64 y.f0.f1, .int .i64 y.f0.f2, .int .i64 y.f1, .int .i64 y.f2, .int .i64 i, .bool y.f4]] Wb fun e w' => e = .returned (.int .i64 0) ∧ Two (fun x => x = go ∨ x = gm) a0 w w' g gp lq2 lp ∧ ∀ x, (x = go ∨ x = gm) → w'.heap[x]? = Wb.heap[x]?) := hide hPu
          have HNew := hide hnew
          have HLL := hide hll
          have HP2 : Hid (lq2.Perm ((tag l0).take (i + 1))) := hide (HPp.out.trans (by rw [HTG.out]; exact (HP.out.cons _).trans (List.perm_append_comm (l₁ := [retag i y]))))
          clear hPu hnew hll hlq2 HPp HHq HP
          go_wp2_with fail
          refine HPu.out.mono ?_
          rintro e w5 ⟨rfl, hT5, hX5⟩
          have HT5 := hide hT5
          have HO5 : Hid (Blk w5 go 25 (cM z).toArray) := hide ((hX5 go (.inl rfl)).trans HOb.out)
          have HM5 : Hid (Blk w5 gm 25 #[.int .i64 y.f0.f0, .int .i64 y.f0.f1, .int .i64 y.f0.f2, .int .i64 y.f1, .int .i64 y.f2, .int .i64 i, .bool y.f4]) := hide ((hX5 gm (.inr rfl)).trans HMb.out)
          clear hT5 hX5 HPu HTb HOb HMb v0 v1 v2 v3 v4 v5 v6
          have x0 : w5.cell? ⟨gm, 0, none⟩ = some (.int .i64 y.f0.f0) := HM5.out.cell 0
          have x1 : w5.cell? ⟨gm, 1, none⟩ = some (.int .i64 y.f0.f1) := HM5.out.cell 1
          have x2 : w5.cell? ⟨gm, 2, none⟩ = some (.int .i64 y.f0.f2) := HM5.out.cell 2
          have x3 : w5.cell? ⟨gm, 3, none⟩ = some (.int .i64 y.f1) := HM5.out.cell 3
          have x4 : w5.cell? ⟨gm, 4, none⟩ = some (.int .i64 y.f2) := HM5.out.cell 4
          have x5 : w5.cell? ⟨gm, 5, none⟩ = some (.int .i64 i) := HM5.out.cell 5
          have x6 : w5.cell? ⟨gm, 6, none⟩ = some (.bool y.f4) := HM5.out.cell 6
          by_cases hik : i = kk
          · subst hik
            have e1 : ((i : Int) == (i : Int)) = true := by simp
            have o0 : w5.cell? ⟨go, 0, none⟩ = some (.int .i64 z.f0.f0) := HO5.out.cell 0
            have o1 : w5.cell? ⟨go, 1, none⟩ = some (.int .i64 z.f0.f1) := HO5.out.cell 1
            have o2 : w5.cell? ⟨go, 2, none⟩ = some (.int .i64 z.f0.f2) := HO5.out.cell 2
            have o3 : w5.cell? ⟨go, 3, none⟩ = some (.int .i64 z.f1) := HO5.out.cell 3
            have o4 : w5.cell? ⟨go, 4, none⟩ = some (.int .i64 z.f2) := HO5.out.cell 4
            have o5 : w5.cell? ⟨go, 5, none⟩ = some (.int .i64 z.f3) := HO5.out.cell 5
            have o6 : w5.cell? ⟨go, 6, none⟩ = some (.bool z.f4) := HO5.out.cell 6
            have p0 : w5.frozen? ⟨go, 0, none⟩ = false := HO5.out.frozen 0
            have p1 : w5.frozen? ⟨go, 1, none⟩ = false := HO5.out.frozen 1
            have p2 : w5.frozen? ⟨go, 2, none⟩ = false := HO5.out.frozen 2
            have p3 : w5.frozen? ⟨go, 3, none⟩ = false := HO5.out.frozen 3
            have p4 : w5.frozen? ⟨go, 4, none⟩ = false := HO5.out.frozen 4
            have p5 : w5.frozen? ⟨go, 5, none⟩ = false := HO5.out.frozen 5
            have p6 : w5.frozen? ⟨go, 6, none⟩ = false := HO5.out.frozen 6
            have hch : (((((((w5.setCell ⟨go, 0, none⟩ (.int .i64 y.f0.f0)).setCell ⟨go, 1, none⟩ (.int .i64 y.f0.f1)).setCell ⟨go, 2, none⟩ (.int .i64 y.f0.f2)).setCell ⟨go, 3, none⟩ (.int .i64 y.f1)).setCell ⟨go, 4, none⟩ (.int .i64 y.f2)).setCell ⟨go, 5, none⟩ (.int .i64 i)).setCell ⟨go, 6, none⟩ (.bool y.f4)) = w5.setCells go 0 (c25 (retag i y)) := rfl
            obtain ⟨t1, t2⟩ := two_store7 HT5.out (.inl rfl) HGo.out z (retag i y) HO5.out
            have HT6 := hide (t1.less (Y := fun x => x = go) (fun x hx => .inl hx))
            have HO6 := hide t2
            have HPa6 : Hid (i + 1 ≤ i → lp.Perm ((tag l0).take (i + 1))) := hide (fun h => absurd h (by omega))
            have HPb6 : Hid (∀ h : i < l0.length, i < i + 1 → retag i y = retag i l0[i] ∧ (retag i y :: lp).Perm ((tag l0).take (i + 1))) := hide (fun h1 h2 => ⟨by rw [HYY.out h1], by rw [HTG.out]; exact ((HPa.out (Nat.le_refl _)).cons _).trans (List.perm_append_comm (l₁ := [retag i y]))⟩)
            clear t1 t2 HT5 HM5
            go_wp2_with fail
            go_roundw
            case rel => exact ⟨i + 1, lq2, lp, retag i y, by go_num, by omega, HT6, HO6, HP2, HHq2, HHp, HPa6, HPb6⟩
            case measure => simp [intOf]; omega
          · have e1 : ((i : Int) == (kk : Int)) = false := by rw [beq_eq_false_iff_ne]; omega
            have hmem : ∀ x ∈ lp, x ∈ (tag l0).take i := fun x hx => by
              by_cases hc : i ≤ kk
              · exact (HPa.out hc).mem_iff.1 hx
              · exact (HPb.out (by have := HN.out; omega) (by omega)).2.mem_iff.1 (List.mem_cons_of_mem _ hx)
            have hlen : lp.length ≤ i := by
              by_cases hc : i ≤ kk
              · rw [(HPa.out hc).length_eq, HLL.out]; exact Nat.le_refl _
              · have h := (HPb.out (by have := HN.out; omega) (by omega)).2.length_eq
                rw [HLL.out] at h
                simp at h
                omega
            have hPu := two_push HT5.out.swap (retag i y) (by have := HN.out; omega) (HNew.out lp hmem)
            have HPp := hide (pushL_perm lp (retag i y))
            have HHp2 := hide (hq_push HHp.out (retag i y))
            obtain ⟨lp2, hlp2⟩ : ∃ lp2, pushL lp (retag i y) = lp2 := ⟨_, rfl⟩
            rw [hlp2] at hPu HPp HHp2
            have HPu : Hid (Calls Try.prog 10 #[.pointer (some ⟨gp, 0, none⟩), .agg #[.int .i64 y.f0.f0, .int .i64 y.f0.f1, .int .i64 y.f0.f2, .int .i64 y.f1, .int .i64 y.f2, .int .i64 i, .bool y.f4]] w5 fun e w' => e = .returned (.int .i64 0) ∧ Two (fun x => x = go ∨ x = gm) a0 w w' gp g lp2 lq2 ∧ ∀ x, (x = go ∨ x = gm) → w'.heap[x]? = w5.heap[x]?) := hide hPu
            clear hPu hmem hlen hlp2 HT5
            go_wp2_with fail
            refine HPu.out.mono ?_
            rintro e w6 ⟨rfl, hT6, hX6⟩
            have HT6 := hide (hT6.swap.less (Y := fun x => x = go) (fun x hx => .inl hx))
            have HO6 : Hid (Blk w6 go 25 (cM z).toArray) := hide ((hX6 go (.inl rfl)).trans HO5.out)
            have HPa6 : Hid (i + 1 ≤ kk → lp2.Perm ((tag l0).take (i + 1))) := hide (fun h => HPp.out.trans (by rw [HTG.out]; exact ((HPa.out (by omega)).cons _).trans (List.perm_append_comm (l₁ := [retag i y]))))
            have HPb6 : Hid (∀ h : kk < l0.length, kk < i + 1 → z = retag kk l0[kk] ∧ (z :: lp2).Perm ((tag l0).take (i + 1))) := hide (fun h1 h2 => by
              obtain ⟨q1, q2⟩ := HPb.out h1 (by omega)
              refine ⟨q1, ((HPp.out.cons z).trans (List.Perm.swap _ _ _)).trans ?_⟩
              rw [HTG.out]
              exact (q2.cons _).trans (List.perm_append_comm (l₁ := [retag i y])))
            clear hT6 hX6 HPu HO5 HM5 x0 x1 x2 x3 x4 x5 x6
            go_wp2_with fail
            go_roundw
            case rel => exact ⟨i + 1, lq2, lp2, z, by go_num, by omega, HT6, HO6, HP2, HHq2, HHp2, HPa6, HPb6⟩
            case measure => simp [intOf]; omega
        · have b1 : ¬ (i : Int) < (n : Int) := by omega
          obtain rfl : i = n := by omega
          have hkl : kk < l0.length := by have := HN.out; omega
          obtain ⟨hz, hpz⟩ := HPb.out hkl HN.out.2.2
          have hpw : ((tag l0).take i).Pairwise (fun a b => a.f3 ≠ b.f3) := by
            rw [List.pairwise_iff_getElem]
            intro a b ha hb hab e
            rw [List.getElem_take, List.getElem_take, tag_get, tag_get] at e
            omega
          have hpz2 : (z :: lp).Pairwise (fun a b => a.f3 ≠ b.f3) := (List.Perm.pairwise_iff (fun h => Ne.symm h) hpz).2 hpw
          have hno : ∀ m ∈ lp, ¬ isOf z.f0.f1 z.f3 m := fun m hm hq => (List.pairwise_cons.1 hpz2).1 m hm hq.2.symm
          have hzk : z.f3 = (kk : Int) := by rw [hz]; rfl
          have hln : lq.length = i := by rw [HP.out.length_eq]; have := HN.out; simp [tag]; omega
          have hlp : lp.length = i - 1 := by have := hpz.length_eq; rw [← HP.out.length_eq, hln] at this; simp at this; omega
          have hnn : 0 < i := by have := HN.out; omega
          have hi5 : (i : Int) ≤ 300 := by have := HN.out; omega
          have HNo := hide hno
          have HLp := hide hlp
          have HUq : Hid (∀ x ∈ lp, ∀ y ∈ lp, x.f3 = y.f3 → x = y) := hide (fun x hx y hy e => by
            obtain ⟨j1, hj1, rfl⟩ := List.getElem_of_mem hx
            obtain ⟨j2, hj2, rfl⟩ := List.getElem_of_mem hy
            have hpl := List.pairwise_iff_getElem.1 (List.pairwise_cons.1 hpz2).2
            rcases Nat.lt_trichotomy j1 j2 with q | q | q
            · exact absurd e (hpl j1 j2 hj1 hj2 q)
            · subst q; rfl
            · exact absurd e.symm (hpl j2 j1 hj2 hj1 q))
          have hCut := two_cut_bag HT.out z lp (by rw [hln]; have := HN.out; omega) ⟨HP.out.trans hpz.symm, hno⟩ HHq.out
          unfold cM c25 at hCut
          rw [hzk] at hCut
          have HCut := hide hCut
          have HZK := hide hzk
          have o1 : wr.cell? ⟨go, 1, none⟩ = some (.int .i64 z.f0.f1) := HO.out.cell 1
          clear hCut hno hlp hpz hpz2 hpw hz hln
          go_wp2_with fail
          refine HCut.out.mono ?_
          rintro e w5 ⟨rfl, ⟨l5, hT5, hp5, hq5⟩, hX5⟩
          have HT6 := hide (hT5.add (.cells #[.int .i64 z.f0.f0, .int .i64 z.f0.f1, .int .i64 z.f0.f2, .int .i64 z.f1, .int .i64 z.f2, .int .i64 kk, .bool z.f4] 25))
          have HO5 : Hid (Blk w5 go 25 (cM z).toArray) := hide ((hX5 go rfl).trans HO.out)
          have HO6 := hide (HO5.out.alloc (.cells #[.int .i64 z.f0.f0, .int .i64 z.f0.f1, .int .i64 z.f0.f2, .int .i64 z.f1, .int .i64 z.f2, .int .i64 kk, .bool z.f4] 25))
          have HM6 := hide (Blk.new w5 25 #[.int .i64 z.f0.f0, .int .i64 z.f0.f1, .int .i64 z.f0.f2, .int .i64 z.f1, .int .i64 z.f2, .int .i64 kk, .bool z.f4])
          have HP5 := hide hp5
          clear hT5 hX5 HCut o1 HT HO hp5 hq5 HO5
          obtain ⟨W6, hW6⟩ : ∃ W6, w5.alloc (.cells #[.int .i64 z.f0.f0, .int .i64 z.f0.f1, .int .i64 z.f0.f2, .int .i64 z.f1, .int .i64 z.f2, .int .i64 kk, .bool z.f4] 25) = W6 := ⟨_, rfl⟩
          obtain ⟨gm, hgm⟩ : ∃ gm, w5.heap.size = gm := ⟨_, rfl⟩
          rw [hW6] at HT6 HO6 HM6
          rw [hgm] at HT6 HM6
          have o1 : W6.cell? ⟨go, 1, none⟩ = some (.int .i64 z.f0.f1) := HO6.out.cell 1
          have hCut := two_cut_none HT6.out z.f0.f1 z.f3 (by rw [HP5.out.length_eq, HLp.out]; omega) (fun m hm => HNo.out m (HP5.out.mem_iff.1 hm))
          unfold zA at hCut
          rw [hzk] at hCut
          have HCut := hide hCut
          clear hCut hzk
          go_wp2_with fail
          refine HCut.out.mono ?_
          rintro e w7 ⟨rfl, hT7, hb7⟩
          have HT7 := hide hT7
          have HO7 : Hid (Blk w7 go 25 (cM z).toArray) := hide ((hb7 go (.inl rfl)).trans HO6.out)
          have HM7 : Hid (Blk w7 gm 25 #[.int .i64 z.f0.f0, .int .i64 z.f0.f1, .int .i64 z.f0.f2, .int .i64 z.f1, .int .i64 z.f2, .int .i64 kk, .bool z.f4]) := hide ((hb7 gm (.inr rfl)).trans HM6.out)
          clear hT7 hb7 HCut HT6 HO6 HM6 o1
          have hb8 := (Below.refl w7.heap.size w7).alloc (Nat.le_refl _) (.cells #[.int .i64 0, .int .i64 0, .int .i64 0, .int .i64 0, .int .i64 0, .int .i64 0, .bool false] 25)
          have HT8 := hide (HT7.out.below hb8)
          have HO8 := hide (HO7.out.below' hb8)
          have HM8 := hide (HM7.out.below' hb8)
          clear hb8 HT7 HO7 HM7
          have m0 : (w7.alloc (.cells #[.int .i64 0, .int .i64 0, .int .i64 0, .int .i64 0, .int .i64 0, .int .i64 0, .bool false] 25)).cell? ⟨gm, 0, none⟩ = some (.int .i64 z.f0.f0) := HM8.out.cell 0
          have m1 : (w7.alloc (.cells #[.int .i64 0, .int .i64 0, .int .i64 0, .int .i64 0, .int .i64 0, .int .i64 0, .bool false] 25)).cell? ⟨gm, 1, none⟩ = some (.int .i64 z.f0.f1) := HM8.out.cell 1
          have m2 : (w7.alloc (.cells #[.int .i64 0, .int .i64 0, .int .i64 0, .int .i64 0, .int .i64 0, .int .i64 0, .bool false] 25)).cell? ⟨gm, 2, none⟩ = some (.int .i64 z.f0.f2) := HM8.out.cell 2
          have m3 : (w7.alloc (.cells #[.int .i64 0, .int .i64 0, .int .i64 0, .int .i64 0, .int .i64 0, .int .i64 0, .bool false] 25)).cell? ⟨gm, 3, none⟩ = some (.int .i64 z.f1) := HM8.out.cell 3
          have m4 : (w7.alloc (.cells #[.int .i64 0, .int .i64 0, .int .i64 0, .int .i64 0, .int .i64 0, .int .i64 0, .bool false] 25)).cell? ⟨gm, 4, none⟩ = some (.int .i64 z.f2) := HM8.out.cell 4
          have m5 : (w7.alloc (.cells #[.int .i64 0, .int .i64 0, .int .i64 0, .int .i64 0, .int .i64 0, .int .i64 0, .bool false] 25)).cell? ⟨gm, 5, none⟩ = some (.int .i64 kk) := HM8.out.cell 5
          have m6 : (w7.alloc (.cells #[.int .i64 0, .int .i64 0, .int .i64 0, .int .i64 0, .int .i64 0, .int .i64 0, .bool false] 25)).cell? ⟨gm, 6, none⟩ = some (.bool z.f4) := HM8.out.cell 6
          have o0 : (w7.alloc (.cells #[.int .i64 0, .int .i64 0, .int .i64 0, .int .i64 0, .int .i64 0, .int .i64 0, .bool false] 25)).cell? ⟨go, 0, none⟩ = some (.int .i64 z.f0.f0) := HO8.out.cell 0
          have o1 : (w7.alloc (.cells #[.int .i64 0, .int .i64 0, .int .i64 0, .int .i64 0, .int .i64 0, .int .i64 0, .bool false] 25)).cell? ⟨go, 1, none⟩ = some (.int .i64 z.f0.f1) := HO8.out.cell 1
          have o2 : (w7.alloc (.cells #[.int .i64 0, .int .i64 0, .int .i64 0, .int .i64 0, .int .i64 0, .int .i64 0, .bool false] 25)).cell? ⟨go, 2, none⟩ = some (.int .i64 z.f0.f2) := HO8.out.cell 2
          have o3 : (w7.alloc (.cells #[.int .i64 0, .int .i64 0, .int .i64 0, .int .i64 0, .int .i64 0, .int .i64 0, .bool false] 25)).cell? ⟨go, 3, none⟩ = some (.int .i64 z.f1) := HO8.out.cell 3
          have o4 : (w7.alloc (.cells #[.int .i64 0, .int .i64 0, .int .i64 0, .int .i64 0, .int .i64 0, .int .i64 0, .bool false] 25)).cell? ⟨go, 4, none⟩ = some (.int .i64 z.f2) := HO8.out.cell 4
          have o5 : (w7.alloc (.cells #[.int .i64 0, .int .i64 0, .int .i64 0, .int .i64 0, .int .i64 0, .int .i64 0, .bool false] 25)).cell? ⟨go, 5, none⟩ = some (.int .i64 kk) := by rw [← HZK.out]; exact HO8.out.cell 5
          have o6 : (w7.alloc (.cells #[.int .i64 0, .int .i64 0, .int .i64 0, .int .i64 0, .int .i64 0, .int .i64 0, .bool false] 25)).cell? ⟨go, 6, none⟩ = some (.bool z.f4) := HO8.out.cell 6
          have n1 : eqv z.f0.f0 z.f0.f1 z.f0.f2 z.f1 z.f2 kk z.f4 z.f0.f0 z.f0.f1 z.f0.f2 z.f1 z.f2 kk z.f4 = true := by have := eqM_refl z; unfold eqM at this; rw [HZK.out] at this; exact this
          have HAq := hide (qs_all (two_qs HT8.out) (by rw [HP5.out.length_eq, HLp.out]; omega))
          have HUl : Hid (∀ x ∈ isort befM l5, ∀ y ∈ isort befM l5, x.f3 = y.f3 → x = y) := hide (fun x hx y hy e => HUq.out x (HP5.out.mem_iff.1 ((perm_isort l5).mem_iff.1 hx)) y (HP5.out.mem_iff.1 ((perm_isort l5).mem_iff.1 hy)) e)
          have HEq : Hid (isort befM l5 = isort befM lp) := hide (srt_perm_eq (srt_isort weakM l5) (srt_isort weakM lp) (((perm_isort l5).trans HP5.out).trans (perm_isort lp).symm) HUl.out)
          go_wp2_with fail
          refine HAq.out.mono ?_
          rintro e w9 ⟨vq, rfl, hoq, hbq⟩
          have HT9 := hide (HT8.out.below hbq)
          have HAp := hide (qs_all (two_qs HT9.out.swap) (by rw [HLp.out]; omega))
          have HOq := hide hoq
          clear hoq hbq HAq HT8 HO8 HM8
          go_wp2_with fail
          refine HAp.out.mono ?_
          rintro e w10 ⟨vp, rfl, hop, hbp⟩
          have HT10 := hide (HT9.out.below hbp)
          have HOq10 := hide (HOq.out.below hbp)
          have HOp10 := hide hop
          clear hop hbp HAp HT9 HOq
          obtain ⟨A1, d1, e1, h1, hC1, _⟩ := HOq10.out.reads flatM rfl k25_mk
          obtain ⟨A2, d2, e2, h2, hC2, _⟩ := HOp10.out.reads flatM rfl k25_mk
          subst e1
          subst e2
          have HSm := hide (same_call A1 _ d1 (isort befM l5) A2 _ d2 (isort befM lp) rfl rfl (by rw [length_isort, HP5.out.length_eq, HLp.out]; omega) true ⟨fun _ => HEq.out, fun _ => rfl⟩ w10 hC1 hC2)
          have HLn := hide (fun W (hW : Two (fun x => x = go ∨ x = gm) a0 w W g gp l5 lp) => qs_len (two_qs hW))
          rw [show l5.length = i - 1 by rw [HP5.out.length_eq, HLp.out]] at HLn
          obtain ⟨d, hd⟩ : ∃ d, i - 1 = d := ⟨_, rfl⟩
          rw [hd] at HLn
          have hdI : (i : Int) - 1 = (d : Int) := by omega
          clear hC1 hC2
          go_wp2_with (first
            | (go_at_call 15; refine HSm.out.mono ?_; rintro e w11 ⟨rfl, hg11⟩; have HT11 := hide (HT10.out.below hg11.below); clear hg11 HSm)
            | (go_at_call 11; refine (HLn.out _ HT11.out).mono ?_; rintro e w12 ⟨rfl, rfl⟩))
          go_ret
          exact ⟨rfl, HT11.out.bel⟩
    · go_wp2_with fail
      obtain ⟨n, hn⟩ : ∃ n : Nat, 300 = n := ⟨_, rfl⟩
      have hnI : (300 : Int) = (n : Int) := by omega
      rw [hnI]
      obtain ⟨kk, hkk⟩ : ∃ kk : Nat, (a : Int) % (n : Int) = (kk : Int) := ⟨a % n, by first | rfl | exact (Int.natCast_emod a n).symm | simp⟩
      rw [hkk]
      have HN : Hid (n ≤ 300 ∧ n ≤ l0.length ∧ kk < n) := hide (by
        have h1 := Int.emod_lt_of_pos (a : Int) (b := (n : Int)) (by omega)
        refine ⟨by omega, by omega, by omega⟩)
      clear hn hnI hkk
      have HTa := hide ((HT3.out.add (.cells #[.int .i64 0, .int .i64 0, .int .i64 0, .int .i64 0, .int .i64 0, .int .i64 0, .bool false] 25)).less (Y := fun x => x = w3.heap.size) (fun x hx => .inr hx))
      have HOa : Hid (Blk (w3.alloc (.cells #[.int .i64 0, .int .i64 0, .int .i64 0, .int .i64 0, .int .i64 0, .int .i64 0, .bool false] 25)) w3.heap.size 25 (cM default).toArray) := hide (Blk.new w3 25 #[.int .i64 0, .int .i64 0, .int .i64 0, .int .i64 0, .int .i64 0, .int .i64 0, .bool false])
      have HGo : Hid (w.heap.size ≤ w3.heap.size) := hide HT3.out.bel.size
      generalize w3.alloc (.cells #[.int .i64 0, .int .i64 0, .int .i64 0, .int .i64 0, .int .i64 0, .int .i64 0, .bool false] 25) = w4 at HTa HOa ⊢
      generalize w3.heap.size = go at HTa HOa HGo ⊢
      clear HT3
      go_loopw [16] (fun iv wr => ∃ (i : Nat) (lq lp : List M) (z : M), iv = .int .i64 i ∧ i ≤ n ∧ Hid (Two (fun x => x = go) a0 w wr g gp lq lp) ∧ Hid (Blk wr go 25 (cM z).toArray) ∧ Hid (lq.Perm ((tag l0).take i)) ∧ Hid (Hq lq) ∧ Hid (Hq lp) ∧ Hid (i ≤ kk → lp.Perm ((tag l0).take i)) ∧ Hid (∀ h : kk < l0.length, kk < i → z = retag kk l0[kk] ∧ (z :: lp).Perm ((tag l0).take i))) (fun iv _ => n - (intOf iv).toNat)
      case atStart => exact ⟨0, [], [], default, rfl, Nat.zero_le _, HTa, HOa, hide (List.Perm.refl _), hide hq_nil, hide hq_nil, hide (fun _ => List.Perm.refl _), hide (fun h1 h2 => absurd h2 (Nat.not_lt_zero _))⟩
      case round =>
        obtain ⟨i, lq, lp, z, rfl, hi, HT, HO, HP, HHq, HHp, HPa, HPb⟩ := hrel
        clear HTa HOa
        by_cases hlt : i < n
        · have b1 : (i : Int) < (n : Int) := by omega
          have hi5 : (i : Int) ≤ 300 := by have := HN.out; omega
          have hil : i < l0.length := by have := HN.out; omega
          have bl : (i : Int) < (l0.length : Int) := by omega
          obtain ⟨ad, rfl, q0, q1, q2, q3, q4, q5, q6⟩ := at_S25 (Kd.C_below HR.out HT.out.bel) hil
          have HTG : Hid ((tag l0).take (i + 1) = (tag l0).take i ++ [retag i l0[i]]) := hide (tag_take l0 i hil)
          obtain ⟨y, hy⟩ : ∃ y, l0[i] = y := ⟨_, rfl⟩
          have HYY : Hid (∀ h : i < l0.length, l0[i] = y) := hide (fun h => hy)
          rw [hy] at q0 q1 q2 q3 q4 q5 q6 HTG
          clear hy
          have HTm := hide (HT.out.add (.cells #[.int .i64 y.f0.f0, .int .i64 y.f0.f1, .int .i64 y.f0.f2, .int .i64 y.f1, .int .i64 y.f2, .int .i64 y.f3, .bool y.f4] 25))
          have HMa := hide (Blk.new wr 25 #[.int .i64 y.f0.f0, .int .i64 y.f0.f1, .int .i64 y.f0.f2, .int .i64 y.f1, .int .i64 y.f2, .int .i64 y.f3, .bool y.f4])
          have HOm := hide (HO.out.alloc (.cells #[.int .i64 y.f0.f0, .int .i64 y.f0.f1, .int .i64 y.f0.f2, .int .i64 y.f1, .int .i64 y.f2, .int .i64 y.f3, .bool y.f4] 25))
          have HNg : Hid (go ≠ wr.heap.size ∧ w.heap.size ≤ wr.heap.size) := hide ⟨by have := HO.out.lt; omega, HT.out.bel.size⟩
          obtain ⟨Wa, hWa⟩ : ∃ Wa, wr.alloc (.cells #[.int .i64 y.f0.f0, .int .i64 y.f0.f1, .int .i64 y.f0.f2, .int .i64 y.f1, .int .i64 y.f2, .int .i64 y.f3, .bool y.f4] 25) = Wa := ⟨_, rfl⟩
          obtain ⟨gm, hgm⟩ : ∃ gm, wr.heap.size = gm := ⟨_, rfl⟩
          rw [hWa] at HTm HMa HOm
          rw [hgm] at HTm HMa HNg
          have y5 : Wa.cell? ⟨gm, 5, none⟩ = some (.int .i64 y.f3) := HMa.out.cell 5
          have fy5 : Wa.frozen? ⟨gm, 5, none⟩ = false := HMa.out.frozen 5
          have HMb : Hid (Blk (Wa.setCell ⟨gm, 5, none⟩ (.int .i64 i)) gm 25 #[.int .i64 y.f0.f0, .int .i64 y.f0.f1, .int .i64 y.f0.f2, .int .i64 y.f1, .int .i64 y.f2, .int .i64 i, .bool y.f4]) := hide (HMa.out.set_ 5 (.int .i64 i))
          have HTb := hide (HTm.out.set_ (a := ⟨gm, 5, none⟩) (.inr rfl) HNg.out.2 (.int .i64 i))
          have HOb := hide (HOm.out.far (p := ⟨gm, 5, none⟩) HNg.out.1 (.int .i64 i))
          obtain ⟨Wb, hWb⟩ : ∃ Wb, Wa.setCell ⟨gm, 5, none⟩ (.int .i64 i) = Wb := ⟨_, rfl⟩
          rw [hWb] at HMb HTb HOb
          clear HTm HMa HOm
          have v0 : Wb.cell? ⟨gm, 0, none⟩ = some (.int .i64 y.f0.f0) := HMb.out.cell 0
          have v1 : Wb.cell? ⟨gm, 1, none⟩ = some (.int .i64 y.f0.f1) := HMb.out.cell 1
          have v2 : Wb.cell? ⟨gm, 2, none⟩ = some (.int .i64 y.f0.f2) := HMb.out.cell 2
          have v3 : Wb.cell? ⟨gm, 3, none⟩ = some (.int .i64 y.f1) := HMb.out.cell 3
          have v4 : Wb.cell? ⟨gm, 4, none⟩ = some (.int .i64 y.f2) := HMb.out.cell 4
          have v5 : Wb.cell? ⟨gm, 5, none⟩ = some (.int .i64 i) := HMb.out.cell 5
          have v6 : Wb.cell? ⟨gm, 6, none⟩ = some (.bool y.f4) := HMb.out.cell 6
          have hll : ((tag l0).take i).length = i := by simp [tag]; omega
          have hnew : ∀ lx : List M, (∀ x ∈ lx, x ∈ (tag l0).take i) → ∀ x ∈ lx, ¬ isOf (retag i y).f0.f1 (retag i y).f3 x := fun lx hlx x hx hq => by
            have h1 := hlx x hx
            obtain ⟨j, hj, hje⟩ := List.getElem_of_mem h1
            have hjk : j < i := by rw [hll] at hj; exact hj
            have h2 : x.f3 = (j : Int) := by rw [← hje, List.getElem_take]; exact tag_get l0 j _
            have h3 : x.f3 = (i : Int) := hq.2
            omega
          have hPu := two_push HTb.out (retag i y) (by rw [HP.out.length_eq, hll]; have := HN.out; omega) (hnew lq (fun x hx => HP.out.mem_iff.1 hx))
          have HPp := hide (pushL_perm lq (retag i y))
          have HHq2 := hide (hq_push HHq.out (retag i y))
          obtain ⟨lq2, hlq2⟩ : ∃ lq2, pushL lq (retag i y) = lq2 := ⟨_, rfl⟩
          rw [hlq2] at hPu HPp HHq2
          have HPu : Hid (Calls Try.prog 10 #[.pointer (some ⟨g, 0, none⟩), .agg #[.int .i64 y.f0.f0, .int .i64 y.f0.f1, .int .i64 y.f0.f2, .int .i64 y.f1, .int .i64 y.f2, .int .i64 i, .bool y.f4]] Wb fun e w' => e = .returned (.int .i64 0) ∧ Two (fun x => x = go ∨ x = gm) a0 w w' g gp lq2 lp ∧ ∀ x, (x = go ∨ x = gm) → w'.heap[x]? = Wb.heap[x]?) := hide hPu
          have HNew := hide hnew
          have HLL := hide hll
          have HP2 : Hid (lq2.Perm ((tag l0).take (i + 1))) := hide (HPp.out.trans (by rw [HTG.out]; exact (HP.out.cons _).trans (List.perm_append_comm (l₁ := [retag i y]))))
          clear hPu hnew hll hlq2 HPp HHq HP
          go_wp2_with fail
          refine HPu.out.mono ?_
          rintro e w5 ⟨rfl, hT5, hX5⟩
          have HT5 := hide hT5
          have HO5 : Hid (Blk w5 go 25 (cM z).toArray) := hide ((hX5 go (.inl rfl)).trans HOb.out)
          have HM5 : Hid (Blk w5 gm 25 #[.int .i64 y.f0.f0, .int .i64 y.f0.f1, .int .i64 y.f0.f2, .int .i64 y.f1, .int .i64 y.f2, .int .i64 i, .bool y.f4]) := hide ((hX5 gm (.inr rfl)).trans HMb.out)
          clear hT5 hX5 HPu HTb HOb HMb v0 v1 v2 v3 v4 v5 v6
          have x0 : w5.cell? ⟨gm, 0, none⟩ = some (.int .i64 y.f0.f0) := HM5.out.cell 0
          have x1 : w5.cell? ⟨gm, 1, none⟩ = some (.int .i64 y.f0.f1) := HM5.out.cell 1
          have x2 : w5.cell? ⟨gm, 2, none⟩ = some (.int .i64 y.f0.f2) := HM5.out.cell 2
          have x3 : w5.cell? ⟨gm, 3, none⟩ = some (.int .i64 y.f1) := HM5.out.cell 3
          have x4 : w5.cell? ⟨gm, 4, none⟩ = some (.int .i64 y.f2) := HM5.out.cell 4
          have x5 : w5.cell? ⟨gm, 5, none⟩ = some (.int .i64 i) := HM5.out.cell 5
          have x6 : w5.cell? ⟨gm, 6, none⟩ = some (.bool y.f4) := HM5.out.cell 6
          by_cases hik : i = kk
          · subst hik
            have e1 : ((i : Int) == (i : Int)) = true := by simp
            have o0 : w5.cell? ⟨go, 0, none⟩ = some (.int .i64 z.f0.f0) := HO5.out.cell 0
            have o1 : w5.cell? ⟨go, 1, none⟩ = some (.int .i64 z.f0.f1) := HO5.out.cell 1
            have o2 : w5.cell? ⟨go, 2, none⟩ = some (.int .i64 z.f0.f2) := HO5.out.cell 2
            have o3 : w5.cell? ⟨go, 3, none⟩ = some (.int .i64 z.f1) := HO5.out.cell 3
            have o4 : w5.cell? ⟨go, 4, none⟩ = some (.int .i64 z.f2) := HO5.out.cell 4
            have o5 : w5.cell? ⟨go, 5, none⟩ = some (.int .i64 z.f3) := HO5.out.cell 5
            have o6 : w5.cell? ⟨go, 6, none⟩ = some (.bool z.f4) := HO5.out.cell 6
            have p0 : w5.frozen? ⟨go, 0, none⟩ = false := HO5.out.frozen 0
            have p1 : w5.frozen? ⟨go, 1, none⟩ = false := HO5.out.frozen 1
            have p2 : w5.frozen? ⟨go, 2, none⟩ = false := HO5.out.frozen 2
            have p3 : w5.frozen? ⟨go, 3, none⟩ = false := HO5.out.frozen 3
            have p4 : w5.frozen? ⟨go, 4, none⟩ = false := HO5.out.frozen 4
            have p5 : w5.frozen? ⟨go, 5, none⟩ = false := HO5.out.frozen 5
            have p6 : w5.frozen? ⟨go, 6, none⟩ = false := HO5.out.frozen 6
            have hch : (((((((w5.setCell ⟨go, 0, none⟩ (.int .i64 y.f0.f0)).setCell ⟨go, 1, none⟩ (.int .i64 y.f0.f1)).setCell ⟨go, 2, none⟩ (.int .i64 y.f0.f2)).setCell ⟨go, 3, none⟩ (.int .i64 y.f1)).setCell ⟨go, 4, none⟩ (.int .i64 y.f2)).setCell ⟨go, 5, none⟩ (.int .i64 i)).setCell ⟨go, 6, none⟩ (.bool y.f4)) = w5.setCells go 0 (c25 (retag i y)) := rfl
            obtain ⟨t1, t2⟩ := two_store7 HT5.out (.inl rfl) HGo.out z (retag i y) HO5.out
            have HT6 := hide (t1.less (Y := fun x => x = go) (fun x hx => .inl hx))
            have HO6 := hide t2
            have HPa6 : Hid (i + 1 ≤ i → lp.Perm ((tag l0).take (i + 1))) := hide (fun h => absurd h (by omega))
            have HPb6 : Hid (∀ h : i < l0.length, i < i + 1 → retag i y = retag i l0[i] ∧ (retag i y :: lp).Perm ((tag l0).take (i + 1))) := hide (fun h1 h2 => ⟨by rw [HYY.out h1], by rw [HTG.out]; exact ((HPa.out (Nat.le_refl _)).cons _).trans (List.perm_append_comm (l₁ := [retag i y]))⟩)
            clear t1 t2 HT5 HM5
            go_wp2_with fail
            go_roundw
            case rel => exact ⟨i + 1, lq2, lp, retag i y, by go_num, by omega, HT6, HO6, HP2, HHq2, HHp, HPa6, HPb6⟩
            case measure => simp [intOf]; omega
          · have e1 : ((i : Int) == (kk : Int)) = false := by rw [beq_eq_false_iff_ne]; omega
            have hmem : ∀ x ∈ lp, x ∈ (tag l0).take i := fun x hx => by
              by_cases hc : i ≤ kk
              · exact (HPa.out hc).mem_iff.1 hx
              · exact (HPb.out (by have := HN.out; omega) (by omega)).2.mem_iff.1 (List.mem_cons_of_mem _ hx)
            have hlen : lp.length ≤ i := by
              by_cases hc : i ≤ kk
              · rw [(HPa.out hc).length_eq, HLL.out]; exact Nat.le_refl _
              · have h := (HPb.out (by have := HN.out; omega) (by omega)).2.length_eq
                rw [HLL.out] at h
                simp at h
                omega
            have hPu := two_push HT5.out.swap (retag i y) (by have := HN.out; omega) (HNew.out lp hmem)
            have HPp := hide (pushL_perm lp (retag i y))
            have HHp2 := hide (hq_push HHp.out (retag i y))
            obtain ⟨lp2, hlp2⟩ : ∃ lp2, pushL lp (retag i y) = lp2 := ⟨_, rfl⟩
            rw [hlp2] at hPu HPp HHp2
            have HPu : Hid (Calls Try.prog 10 #[.pointer (some ⟨gp, 0, none⟩), .agg #[.int .i64 y.f0.f0, .int .i64 y.f0.f1, .int .i64 y.f0.f2, .int .i64 y.f1, .int .i64 y.f2, .int .i64 i, .bool y.f4]] w5 fun e w' => e = .returned (.int .i64 0) ∧ Two (fun x => x = go ∨ x = gm) a0 w w' gp g lp2 lq2 ∧ ∀ x, (x = go ∨ x = gm) → w'.heap[x]? = w5.heap[x]?) := hide hPu
            clear hPu hmem hlen hlp2 HT5
            go_wp2_with fail
            refine HPu.out.mono ?_
            rintro e w6 ⟨rfl, hT6, hX6⟩
            have HT6 := hide (hT6.swap.less (Y := fun x => x = go) (fun x hx => .inl hx))
            have HO6 : Hid (Blk w6 go 25 (cM z).toArray) := hide ((hX6 go (.inl rfl)).trans HO5.out)
            have HPa6 : Hid (i + 1 ≤ kk → lp2.Perm ((tag l0).take (i + 1))) := hide (fun h => HPp.out.trans (by rw [HTG.out]; exact ((HPa.out (by omega)).cons _).trans (List.perm_append_comm (l₁ := [retag i y]))))
            have HPb6 : Hid (∀ h : kk < l0.length, kk < i + 1 → z = retag kk l0[kk] ∧ (z :: lp2).Perm ((tag l0).take (i + 1))) := hide (fun h1 h2 => by
              obtain ⟨q1, q2⟩ := HPb.out h1 (by omega)
              refine ⟨q1, ((HPp.out.cons z).trans (List.Perm.swap _ _ _)).trans ?_⟩
              rw [HTG.out]
              exact (q2.cons _).trans (List.perm_append_comm (l₁ := [retag i y])))
            clear hT6 hX6 HPu HO5 HM5 x0 x1 x2 x3 x4 x5 x6
            go_wp2_with fail
            go_roundw
            case rel => exact ⟨i + 1, lq2, lp2, z, by go_num, by omega, HT6, HO6, HP2, HHq2, HHp2, HPa6, HPb6⟩
            case measure => simp [intOf]; omega
        · have b1 : ¬ (i : Int) < (n : Int) := by omega
          obtain rfl : i = n := by omega
          have hkl : kk < l0.length := by have := HN.out; omega
          obtain ⟨hz, hpz⟩ := HPb.out hkl HN.out.2.2
          have hpw : ((tag l0).take i).Pairwise (fun a b => a.f3 ≠ b.f3) := by
            rw [List.pairwise_iff_getElem]
            intro a b ha hb hab e
            rw [List.getElem_take, List.getElem_take, tag_get, tag_get] at e
            omega
          have hpz2 : (z :: lp).Pairwise (fun a b => a.f3 ≠ b.f3) := (List.Perm.pairwise_iff (fun h => Ne.symm h) hpz).2 hpw
          have hno : ∀ m ∈ lp, ¬ isOf z.f0.f1 z.f3 m := fun m hm hq => (List.pairwise_cons.1 hpz2).1 m hm hq.2.symm
          have hzk : z.f3 = (kk : Int) := by rw [hz]; rfl
          have hln : lq.length = i := by rw [HP.out.length_eq]; have := HN.out; simp [tag]; omega
          have hlp : lp.length = i - 1 := by have := hpz.length_eq; rw [← HP.out.length_eq, hln] at this; simp at this; omega
          have hnn : 0 < i := by have := HN.out; omega
          have hi5 : (i : Int) ≤ 300 := by have := HN.out; omega
          have HNo := hide hno
          have HLp := hide hlp
          have HUq : Hid (∀ x ∈ lp, ∀ y ∈ lp, x.f3 = y.f3 → x = y) := hide (fun x hx y hy e => by
            obtain ⟨j1, hj1, rfl⟩ := List.getElem_of_mem hx
            obtain ⟨j2, hj2, rfl⟩ := List.getElem_of_mem hy
            have hpl := List.pairwise_iff_getElem.1 (List.pairwise_cons.1 hpz2).2
            rcases Nat.lt_trichotomy j1 j2 with q | q | q
            · exact absurd e (hpl j1 j2 hj1 hj2 q)
            · subst q; rfl
            · exact absurd e.symm (hpl j2 j1 hj2 hj1 q))
          have hCut := two_cut_bag HT.out z lp (by rw [hln]; have := HN.out; omega) ⟨HP.out.trans hpz.symm, hno⟩ HHq.out
          unfold cM c25 at hCut
          rw [hzk] at hCut
          have HCut := hide hCut
          have HZK := hide hzk
          have o1 : wr.cell? ⟨go, 1, none⟩ = some (.int .i64 z.f0.f1) := HO.out.cell 1
          clear hCut hno hlp hpz hpz2 hpw hz hln
          go_wp2_with fail
          refine HCut.out.mono ?_
          rintro e w5 ⟨rfl, ⟨l5, hT5, hp5, hq5⟩, hX5⟩
          have HT6 := hide (hT5.add (.cells #[.int .i64 z.f0.f0, .int .i64 z.f0.f1, .int .i64 z.f0.f2, .int .i64 z.f1, .int .i64 z.f2, .int .i64 kk, .bool z.f4] 25))
          have HO5 : Hid (Blk w5 go 25 (cM z).toArray) := hide ((hX5 go rfl).trans HO.out)
          have HO6 := hide (HO5.out.alloc (.cells #[.int .i64 z.f0.f0, .int .i64 z.f0.f1, .int .i64 z.f0.f2, .int .i64 z.f1, .int .i64 z.f2, .int .i64 kk, .bool z.f4] 25))
          have HM6 := hide (Blk.new w5 25 #[.int .i64 z.f0.f0, .int .i64 z.f0.f1, .int .i64 z.f0.f2, .int .i64 z.f1, .int .i64 z.f2, .int .i64 kk, .bool z.f4])
          have HP5 := hide hp5
          clear hT5 hX5 HCut o1 HT HO hp5 hq5 HO5
          obtain ⟨W6, hW6⟩ : ∃ W6, w5.alloc (.cells #[.int .i64 z.f0.f0, .int .i64 z.f0.f1, .int .i64 z.f0.f2, .int .i64 z.f1, .int .i64 z.f2, .int .i64 kk, .bool z.f4] 25) = W6 := ⟨_, rfl⟩
          obtain ⟨gm, hgm⟩ : ∃ gm, w5.heap.size = gm := ⟨_, rfl⟩
          rw [hW6] at HT6 HO6 HM6
          rw [hgm] at HT6 HM6
          have o1 : W6.cell? ⟨go, 1, none⟩ = some (.int .i64 z.f0.f1) := HO6.out.cell 1
          have hCut := two_cut_none HT6.out z.f0.f1 z.f3 (by rw [HP5.out.length_eq, HLp.out]; omega) (fun m hm => HNo.out m (HP5.out.mem_iff.1 hm))
          unfold zA at hCut
          rw [hzk] at hCut
          have HCut := hide hCut
          clear hCut hzk
          go_wp2_with fail
          refine HCut.out.mono ?_
          rintro e w7 ⟨rfl, hT7, hb7⟩
          have HT7 := hide hT7
          have HO7 : Hid (Blk w7 go 25 (cM z).toArray) := hide ((hb7 go (.inl rfl)).trans HO6.out)
          have HM7 : Hid (Blk w7 gm 25 #[.int .i64 z.f0.f0, .int .i64 z.f0.f1, .int .i64 z.f0.f2, .int .i64 z.f1, .int .i64 z.f2, .int .i64 kk, .bool z.f4]) := hide ((hb7 gm (.inr rfl)).trans HM6.out)
          clear hT7 hb7 HCut HT6 HO6 HM6 o1
          have hb8 := (Below.refl w7.heap.size w7).alloc (Nat.le_refl _) (.cells #[.int .i64 0, .int .i64 0, .int .i64 0, .int .i64 0, .int .i64 0, .int .i64 0, .bool false] 25)
          have HT8 := hide (HT7.out.below hb8)
          have HO8 := hide (HO7.out.below' hb8)
          have HM8 := hide (HM7.out.below' hb8)
          clear hb8 HT7 HO7 HM7
          have m0 : (w7.alloc (.cells #[.int .i64 0, .int .i64 0, .int .i64 0, .int .i64 0, .int .i64 0, .int .i64 0, .bool false] 25)).cell? ⟨gm, 0, none⟩ = some (.int .i64 z.f0.f0) := HM8.out.cell 0
          have m1 : (w7.alloc (.cells #[.int .i64 0, .int .i64 0, .int .i64 0, .int .i64 0, .int .i64 0, .int .i64 0, .bool false] 25)).cell? ⟨gm, 1, none⟩ = some (.int .i64 z.f0.f1) := HM8.out.cell 1
          have m2 : (w7.alloc (.cells #[.int .i64 0, .int .i64 0, .int .i64 0, .int .i64 0, .int .i64 0, .int .i64 0, .bool false] 25)).cell? ⟨gm, 2, none⟩ = some (.int .i64 z.f0.f2) := HM8.out.cell 2
          have m3 : (w7.alloc (.cells #[.int .i64 0, .int .i64 0, .int .i64 0, .int .i64 0, .int .i64 0, .int .i64 0, .bool false] 25)).cell? ⟨gm, 3, none⟩ = some (.int .i64 z.f1) := HM8.out.cell 3
          have m4 : (w7.alloc (.cells #[.int .i64 0, .int .i64 0, .int .i64 0, .int .i64 0, .int .i64 0, .int .i64 0, .bool false] 25)).cell? ⟨gm, 4, none⟩ = some (.int .i64 z.f2) := HM8.out.cell 4
          have m5 : (w7.alloc (.cells #[.int .i64 0, .int .i64 0, .int .i64 0, .int .i64 0, .int .i64 0, .int .i64 0, .bool false] 25)).cell? ⟨gm, 5, none⟩ = some (.int .i64 kk) := HM8.out.cell 5
          have m6 : (w7.alloc (.cells #[.int .i64 0, .int .i64 0, .int .i64 0, .int .i64 0, .int .i64 0, .int .i64 0, .bool false] 25)).cell? ⟨gm, 6, none⟩ = some (.bool z.f4) := HM8.out.cell 6
          have o0 : (w7.alloc (.cells #[.int .i64 0, .int .i64 0, .int .i64 0, .int .i64 0, .int .i64 0, .int .i64 0, .bool false] 25)).cell? ⟨go, 0, none⟩ = some (.int .i64 z.f0.f0) := HO8.out.cell 0
          have o1 : (w7.alloc (.cells #[.int .i64 0, .int .i64 0, .int .i64 0, .int .i64 0, .int .i64 0, .int .i64 0, .bool false] 25)).cell? ⟨go, 1, none⟩ = some (.int .i64 z.f0.f1) := HO8.out.cell 1
          have o2 : (w7.alloc (.cells #[.int .i64 0, .int .i64 0, .int .i64 0, .int .i64 0, .int .i64 0, .int .i64 0, .bool false] 25)).cell? ⟨go, 2, none⟩ = some (.int .i64 z.f0.f2) := HO8.out.cell 2
          have o3 : (w7.alloc (.cells #[.int .i64 0, .int .i64 0, .int .i64 0, .int .i64 0, .int .i64 0, .int .i64 0, .bool false] 25)).cell? ⟨go, 3, none⟩ = some (.int .i64 z.f1) := HO8.out.cell 3
          have o4 : (w7.alloc (.cells #[.int .i64 0, .int .i64 0, .int .i64 0, .int .i64 0, .int .i64 0, .int .i64 0, .bool false] 25)).cell? ⟨go, 4, none⟩ = some (.int .i64 z.f2) := HO8.out.cell 4
          have o5 : (w7.alloc (.cells #[.int .i64 0, .int .i64 0, .int .i64 0, .int .i64 0, .int .i64 0, .int .i64 0, .bool false] 25)).cell? ⟨go, 5, none⟩ = some (.int .i64 kk) := by rw [← HZK.out]; exact HO8.out.cell 5
          have o6 : (w7.alloc (.cells #[.int .i64 0, .int .i64 0, .int .i64 0, .int .i64 0, .int .i64 0, .int .i64 0, .bool false] 25)).cell? ⟨go, 6, none⟩ = some (.bool z.f4) := HO8.out.cell 6
          have n1 : eqv z.f0.f0 z.f0.f1 z.f0.f2 z.f1 z.f2 kk z.f4 z.f0.f0 z.f0.f1 z.f0.f2 z.f1 z.f2 kk z.f4 = true := by have := eqM_refl z; unfold eqM at this; rw [HZK.out] at this; exact this
          have HAq := hide (qs_all (two_qs HT8.out) (by rw [HP5.out.length_eq, HLp.out]; omega))
          have HUl : Hid (∀ x ∈ isort befM l5, ∀ y ∈ isort befM l5, x.f3 = y.f3 → x = y) := hide (fun x hx y hy e => HUq.out x (HP5.out.mem_iff.1 ((perm_isort l5).mem_iff.1 hx)) y (HP5.out.mem_iff.1 ((perm_isort l5).mem_iff.1 hy)) e)
          have HEq : Hid (isort befM l5 = isort befM lp) := hide (srt_perm_eq (srt_isort weakM l5) (srt_isort weakM lp) (((perm_isort l5).trans HP5.out).trans (perm_isort lp).symm) HUl.out)
          go_wp2_with fail
          refine HAq.out.mono ?_
          rintro e w9 ⟨vq, rfl, hoq, hbq⟩
          have HT9 := hide (HT8.out.below hbq)
          have HAp := hide (qs_all (two_qs HT9.out.swap) (by rw [HLp.out]; omega))
          have HOq := hide hoq
          clear hoq hbq HAq HT8 HO8 HM8
          go_wp2_with fail
          refine HAp.out.mono ?_
          rintro e w10 ⟨vp, rfl, hop, hbp⟩
          have HT10 := hide (HT9.out.below hbp)
          have HOq10 := hide (HOq.out.below hbp)
          have HOp10 := hide hop
          clear hop hbp HAp HT9 HOq
          obtain ⟨A1, d1, e1, h1, hC1, _⟩ := HOq10.out.reads flatM rfl k25_mk
          obtain ⟨A2, d2, e2, h2, hC2, _⟩ := HOp10.out.reads flatM rfl k25_mk
          subst e1
          subst e2
          have HSm := hide (same_call A1 _ d1 (isort befM l5) A2 _ d2 (isort befM lp) rfl rfl (by rw [length_isort, HP5.out.length_eq, HLp.out]; omega) true ⟨fun _ => HEq.out, fun _ => rfl⟩ w10 hC1 hC2)
          have HLn := hide (fun W (hW : Two (fun x => x = go ∨ x = gm) a0 w W g gp l5 lp) => qs_len (two_qs hW))
          rw [show l5.length = i - 1 by rw [HP5.out.length_eq, HLp.out]] at HLn
          obtain ⟨d, hd⟩ : ∃ d, i - 1 = d := ⟨_, rfl⟩
          rw [hd] at HLn
          have hdI : (i : Int) - 1 = (d : Int) := by omega
          clear hC1 hC2
          go_wp2_with (first
            | (go_at_call 15; refine HSm.out.mono ?_; rintro e w11 ⟨rfl, hg11⟩; have HT11 := hide (HT10.out.below hg11.below); clear hg11 HSm)
            | (go_at_call 11; refine (HLn.out _ HT11.out).mono ?_; rintro e w12 ⟨rfl, rfl⟩))
          go_ret
          exact ⟨rfl, HT11.out.bel⟩
end Go.Proofs.Ytkhdghlgkljdgaa.ladderCuts
