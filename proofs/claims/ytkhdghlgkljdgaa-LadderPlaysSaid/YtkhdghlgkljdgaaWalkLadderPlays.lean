/- The walk of LadderPlays. (Its loop is written by wip/t08/lxgen.py out of CalendarPlays'.) -/
import Derived.Test.YtkhdghlgkljdgaaLX
import Derived.Test.YtkhdghlgkljdgaaHand
import Derived.Test.YtkhdghlgkljdgaaKindsLadderPlays
import Derived.Test.YtkhdghlgkljdgaaLex
import Derived.Lib.QuietBelow
namespace Go.Proofs.Ytkhdghlgkljdgaa.ladderPlays
open Go.Proofs Go.RowKit Go.Deep Go.Sort Go.Proofs.Ytkhdghlgkljdgaa.SortPure Go.Proofs.Ytkhdghlgkljdgaa.Types Go.Proofs.Ytkhdghlgkljdgaa.Heap Go.Proofs.Ytkhdghlgkljdgaa.Row Go.Proofs.Ytkhdghlgkljdgaa.CQ Go.Proofs.Ytkhdghlgkljdgaa.LQ Go.Proofs.Ytkhdghlgkljdgaa.Hand Go.Proofs.Ytkhdghlgkljdgaa.Ord Go.Proofs.Ytkhdghlgkljdgaa.Sorted Go.Proofs.Ytkhdghlgkljdgaa.Same Go.Proofs.YtkhdghlgkljdgaaW.PrintWords Go.Proofs.YtkhdghlgkljdgaaW.PrintLast Go.Proofs.YtkhdghlgkljdgaaW.PrintMore
set_option linter.unusedVariables false
set_option linter.unusedSimpArgs false
attribute [local go_sem high] eqRun
set_option maxHeartbeats 16000000 in
set_option maxRecDepth 100000 in
theorem walk (a0 : Int) (wa0 : (Lit.int .i64 a0).wf = true) (A0 : Option Addr) (c0 : Nat) (l0 : List S55) (hc0 : l0.length ≤ c0) (w0 : ∀ y ∈ l0, I55 y) (y0 : l0.length * 64 ≤ 140737488351232) (w : World) (hr0 : Kd.C k55 w A0 l0.length l0) :
    Calls Try.prog 7 #[.int .i64 a0, .slice A0 l0.length c0] w fun e w' => e = .returned (.bool true) ∧ Below w.heap.size w w' := by
  have HR := hide hr0
  have HY := hide y0
  have HWF := hide w0
  clear hr0 y0 w0 wa0
  go_enter Try.func7, Try.ntmps7
  go_wp2_with fail
  by_cases hw : a0 < 1 ∨ 16384 < a0
  · refine (new_bad w hw).mono ?_
    rintro e w2 ⟨rfl, hw2⟩
    have hw3 := hw2.symm
    subst hw3
    go_wp2_with fail
    refine (rnew_bad w hw).mono ?_
    rintro e w2 ⟨rfl, hw2⟩
    have hw3 := hw2.symm
    subst hw3
    go_wp2_with fail
    go_loopw [9] (fun iv wr => iv = .int .i64 0 ∧ wr = w) (fun iv _ => 0)
    case atStart => exact ⟨rfl, rfl⟩
    case round =>
      obtain ⟨rfl, hwr⟩ := hrel
      subst hwr
      go_wp2_with (go_at_call 9; refine (awake_call _).mono ?_; rintro e w5 ⟨rfl, hb5⟩; have HB5 := hide hb5; clear hb5)
      go_ret
      exact ⟨rfl, HB5.out⟩
  have hw1 : 1 ≤ a0 ∧ a0 ≤ 16384 := by omega
  refine (new_call w hw1).mono ?_
  rintro e w1 ⟨rfl, hq, hb⟩
  have HQ1 := hide hq
  have HB1 := hide hb
  have HL1 : Hid (w.heap.size < w1.heap.size) := hide hq.at_.lq.lt
  clear hq hb
  go_wp2_with fail
  refine (rnew_call w1 (w1.heap.size + 1) hw1.1 hw1.2).mono ?_
  rintro e w2 ⟨rfl, hq, hb⟩
  obtain ⟨f, hf⟩ : ∃ f : Cg, f = ⟨a0, w1.heap.size + 1⟩ := ⟨_, rfl⟩
  have HB2 : Hid (Both No f w w2 w.heap.size w1.heap.size [] []) := hide (by
    subst hf
    have hs := HL1.out
    have hz := hq.blk.lt
    have h1 := HB1.out.size
    refine ⟨⟨none, 0, hq, HQ1.out.grow (X' := Nt No w1.heap.size none 0) (S := fun _ => False) (only_of_below hb _) (fun x e => e.elim) (fun x e => e.elim) (fun x e => ?_), fun x hx => hx.elim⟩, ?_, fun x hx => hx.elim, h1, ?_⟩
    · rcases e with e | e | ⟨ad, e, _⟩
      · exact e.elim
      · exact ⟨by omega, .inr (by omega)⟩
      · cases e
    · show w1.heap.size < w1.heap.size + 1
      omega
    · show w1.heap.size + 1 ≤ w2.heap.size
      omega)
  obtain ⟨g, hg⟩ : ∃ g, w.heap.size = g := ⟨_, rfl⟩
  obtain ⟨r, hr⟩ : ∃ r, w1.heap.size = r := ⟨_, rfl⟩
  have HB2 : Hid (Both No f w w2 g r [] []) := by rw [hg, hr] at HB2; exact HB2
  rw [hg, hr]
  clear hq hb HQ1 HB1 HL1 hf hg hr
  go_wp2_with fail
  go_loopw [9] (fun iv wr => ∃ (k : Nat) (lq sl : List M), iv = .int .i64 k ∧ k ≤ l0.length ∧ Hid (St lq sl) ∧ Hid (Both No f w wr g r lq sl)) (fun iv _ => l0.length - (intOf iv).toNat)
  case atStart => exact ⟨0, [], [], rfl, Nat.zero_le _, hide St.nil, HB2⟩
  case round =>
    obtain ⟨k, lq, sl, rfl, hk, HS, HB⟩ := hrel
    clear HB2
    by_cases hlt : k < l0.length
    · have b1 : (k : Int) < (l0.length : Int) := by omega
      have hl63 : (l0.length : Int) ≤ 2199023255551 := by have := HY.out; omega
      have hbd : Below wr.heap.size wr wr.drew := below_drewN (Below.refl _ _) 1
      have HB0 := hide (HB.out.below hbd)
      clear hbd
      obtain ⟨ad, rfl, q0, q1, q2, q3, q4, q5, q6, q7⟩ := at_S55 (Kd.C_below HR.out HB0.out.bel) hlt
      have HWK0 : Hid (I55 l0[k]) := hide (HWF.out _ (List.getElem_mem hlt))
      obtain ⟨⟨o, m⟩, hx⟩ : ∃ x, l0[k] = x := ⟨_, rfl⟩
      rw [hx] at q0 q1 q2 q3 q4 q5 q6 q7 HWK0
      clear hx
      clear HWK0
      have HPL := hide (play_call f g r w wr.drew lq sl o m HS.out HB0.out)
      clear HB HB0
      simp only at q0 q1 q2 q3 q4 q5 q6 q7
      go_wp2_with fail
      rename_i Qa Ka ha Qb Kb hb Kc hc
      have HKa := hide ha
      have HKb := hide hb
      have HKc := hide hc
      clear ha hb hc
      refine wp_region_any (by kernel_rfl) ?_
      (try (change wpAny _ _ _ _ _ _ _ (World.drew _)))
      refine wpAny_abs (fun _ _ _ _ _ h => by simp [Exit.then, Exit.inBlock, Qb, Qa, bodyPost, Act.put] at h) (fun QX HPN HNX => ?_)
      refine takeA (i := 0) (v := ?v0) rfl (by kernel_rfl) (by kernel_rfl) (by kernel_rfl) (fun _ _ _ h => HPN.out _ _ _ _ _ h) (Or.inl ⟨by kernel_rfl, ?y0⟩) rfl ?r0
      case y0 => intro w; go_simp; (try with_reducible rfl)
      simp only [List.setIfInBounds_toArray, List.set_cons_zero, List.set_cons_succ]
      refine takeA (i := 1) (v := ?v1) rfl (by kernel_rfl) (by kernel_rfl) (by kernel_rfl) (fun _ _ _ h => HPN.out _ _ _ _ _ h) (Or.inl ⟨by kernel_rfl, ?y1⟩) rfl ?r1
      case y1 => intro w; go_simp; (try with_reducible rfl)
      simp only [List.setIfInBounds_toArray, List.set_cons_zero, List.set_cons_succ]
      refine takeA (i := 2) (v := ?v2) rfl (by kernel_rfl) (by kernel_rfl) (by kernel_rfl) (fun _ _ _ h => HPN.out _ _ _ _ _ h) (Or.inl ⟨by kernel_rfl, ?y2⟩) rfl ?r2
      case y2 => intro w; go_simp; (try with_reducible rfl)
      simp only [List.setIfInBounds_toArray, List.set_cons_zero, List.set_cons_succ]
      refine takeA (i := 3) (v := ?v3) rfl (by kernel_rfl) (by kernel_rfl) (by kernel_rfl) (fun _ _ _ h => HPN.out _ _ _ _ _ h) (Or.inl ⟨by kernel_rfl, ?y3⟩) rfl ?r3
      case y3 => intro w; go_simp; (try with_reducible rfl)
      simp only [List.setIfInBounds_toArray, List.set_cons_zero, List.set_cons_succ]
      refine takeA (i := 4) (v := ?v4) rfl (by kernel_rfl) (by kernel_rfl) (by kernel_rfl) (fun _ _ _ h => HPN.out _ _ _ _ _ h) (Or.inl ⟨by kernel_rfl, ?y4⟩) rfl ?r4
      case y4 => intro w; go_simp; (try with_reducible rfl)
      simp only [List.setIfInBounds_toArray, List.set_cons_zero, List.set_cons_succ]
      refine wpAny_ready (rs := [5]) (by kernel_rfl) (by simp) ?_
      refine AllReady.cons rfl (fun K hK => ?_) AllReady.nil
      go_simp
      refine hK _ _ ?_
      clear hK K
      (try simp only [Act.put, List.getElem_toArray, List.getElem_cons_zero, List.getElem_cons_succ, List.setIfInBounds_toArray, List.set_cons_zero, List.set_cons_succ])
      refine wpAny_ready (rs := [6]) (by kernel_rfl) (by simp) ?_
      refine AllReady.cons rfl (fun K hK => ?_) AllReady.nil
      go_simp
      refine HPL.out.mono ?_
      rintro e w5 ⟨rfl, lq', sl', hs', hb'⟩
      have HS' := hide hs'
      have HB' := hide hb'
      clear hs' hb'
      go_wp2_with fail
      (try (refine hK _ _ ?_; clear hK K))
      (try simp only [Act.put, List.getElem_toArray, List.getElem_cons_zero, List.getElem_cons_succ, List.setIfInBounds_toArray, List.set_cons_zero, List.set_cons_succ])
      clear q0 q1 q2 q3 q4 q5 q6 q7 HPL
      obtain ⟨A', c', hR, _⟩ := HB'.out.ref
      have hsl : sl'.length = lq'.length := HS'.out.lens
      have r0 : w5.cell? ⟨r, 0, none⟩ = some (.slice A' lq'.length c') := by rw [← hsl]; exact hR.blk.cell 0
      have HLN := hide (cs_len (both_cs HB'.out))
      have HQS := hide (both_cs HB'.out)
      have HRO := hide hR.row
      have hl14 : (lq'.length : Int) ≤ 16384 := by have := HS'.out.len; omega
      clear hR
      by_cases h100 : (k : Int) < 100
      · have g1 : decide ((k : Int) < 100) = true := decide_eq_true h100
        have g2 : decide (k < 100) = true := decide_eq_true (by omega)
        refine wpAny_of_held (S := fun w' => w'.cell? ⟨r, 0, none⟩ = some (.slice A' lq'.length c')) _ _ _ _ ?_
        refine takeH (i := 7) (v := ?v7) rfl (by kernel_rfl) (by kernel_rfl) (by kernel_rfl) (fun _ _ _ h => HPN.out _ _ _ _ _ h) (Or.inl ⟨by kernel_rfl, ?y7⟩) (by exact r0) rfl ?r7
        case y7 => intro w hSw; (try dsimp only at hSw); go_simp; (try with_reducible rfl)
        simp only [List.setIfInBounds_toArray, List.set_cons_zero, List.set_cons_succ]
        refine takeH (i := 8) (v := ?v8) rfl (by kernel_rfl) (by kernel_rfl) (by kernel_rfl) (fun _ _ _ h => HPN.out _ _ _ _ _ h) (Or.inl ⟨by kernel_rfl, ?y8⟩) (by exact r0) rfl ?r8
        case y8 => intro w hSw; (try dsimp only at hSw); go_simp; (try with_reducible rfl)
        simp only [List.setIfInBounds_toArray, List.set_cons_zero, List.set_cons_succ]
        refine takeH (i := 9) (v := ?v9) rfl (by kernel_rfl) (by kernel_rfl) (by kernel_rfl) (fun _ _ _ h => HPN.out _ _ _ _ _ h) (Or.inl ⟨by kernel_rfl, ?y9⟩) (by exact r0) rfl ?r9
        case y9 => intro w hSw; (try dsimp only at hSw); go_simp; (try with_reducible rfl)
        simp only [List.setIfInBounds_toArray, List.set_cons_zero, List.set_cons_succ]
        refine takeH (i := 11) (v := ?v11) rfl (by kernel_rfl) (by kernel_rfl) (by kernel_rfl) (fun _ _ _ h => HPN.out _ _ _ _ _ h) (Or.inl ⟨by kernel_rfl, ?y11⟩) (by exact r0) rfl ?r11
        case y11 => intro w hSw; (try dsimp only at hSw); go_simp; (try with_reducible rfl)
        simp only [List.setIfInBounds_toArray, List.set_cons_zero, List.set_cons_succ]
        refine takeH (i := 12) (v := ?v12) rfl (by kernel_rfl) (by kernel_rfl) (by kernel_rfl) (fun _ _ _ h => HPN.out _ _ _ _ _ h) (Or.inl ⟨by kernel_rfl, ?y12⟩) (by exact r0) rfl ?r12
        case y12 => intro w hSw; (try dsimp only at hSw); go_simp; (try with_reducible rfl)
        simp only [List.setIfInBounds_toArray, List.set_cons_zero, List.set_cons_succ]
        refine takeH (i := 13) (v := ?v13) rfl (by kernel_rfl) (by kernel_rfl) (by kernel_rfl) (fun _ _ _ h => HPN.out _ _ _ _ _ h) (Or.inl ⟨by kernel_rfl, ?y13⟩) (by exact r0) rfl ?r13
        case y13 => intro w hSw; (try dsimp only at hSw); go_simp; (try with_reducible rfl)
        simp only [List.setIfInBounds_toArray, List.set_cons_zero, List.set_cons_succ]
        refine takeH (i := 14) (v := ?v14) rfl (by kernel_rfl) (by kernel_rfl) (by kernel_rfl) (fun _ _ _ h => HPN.out _ _ _ _ _ h) (Or.inl ⟨by kernel_rfl, ?y14⟩) (by exact r0) rfl ?r14
        case y14 => intro w hSw; (try dsimp only at hSw); go_simp; (try with_reducible rfl)
        simp only [List.setIfInBounds_toArray, List.set_cons_zero, List.set_cons_succ]
        refine takeH (i := 15) (v := ?v15) rfl (by kernel_rfl) (by kernel_rfl) (by kernel_rfl) (fun _ _ _ h => HPN.out _ _ _ _ _ h) (Or.inl ⟨by kernel_rfl, ?y15⟩) (by exact r0) rfl ?r15
        case y15 => intro w hSw; (try dsimp only at hSw); go_simp; (try with_reducible rfl)
        simp only [List.setIfInBounds_toArray, List.set_cons_zero, List.set_cons_succ]
        refine wpAnyH_ready (rs := [10]) (by kernel_rfl) (by simp) ?_
        refine AllReadyH.cons rfl (fun K hK => ?_) AllReadyH.nil
        go_simp
        refine HLN.out.mono ?_
        rintro e w6 ⟨rfl, rfl⟩
        go_wp2_with fail
        (try refine hK.out _ _ (by exact r0) (fun hHeld => ?_))
        clear hK K
        (try simp only [Act.put, List.getElem_toArray, List.getElem_cons_zero, List.getElem_cons_succ, List.setIfInBounds_toArray, List.set_cons_zero, List.set_cons_succ])
        refine takeH (i := 16) (v := ?v16) rfl (by kernel_rfl) (by kernel_rfl) (by kernel_rfl) (fun _ _ _ h => HPN.out _ _ _ _ _ h) (Or.inl ⟨by kernel_rfl, ?y16⟩) (by exact r0) rfl ?r16
        case y16 => intro w hSw; (try dsimp only at hSw); go_simp; (try with_reducible rfl)
        simp only [List.setIfInBounds_toArray, List.set_cons_zero, List.set_cons_succ]
        refine takeH (i := 17) (v := ?v17) rfl (by kernel_rfl) (by kernel_rfl) (by kernel_rfl) (fun _ _ _ h => HPN.out _ _ _ _ _ h) (Or.inl ⟨by kernel_rfl, ?y17⟩) (by exact r0) rfl ?r17
        case y17 => intro w hSw; (try dsimp only at hSw); go_simp; (try with_reducible rfl)
        simp only [List.setIfInBounds_toArray, List.set_cons_zero, List.set_cons_succ]
        refine takeH (i := 18) (v := ?v18) rfl (by kernel_rfl) (by kernel_rfl) (by kernel_rfl) (fun _ _ _ h => HPN.out _ _ _ _ _ h) (Or.inl ⟨by kernel_rfl, ?y18⟩) (by exact r0) rfl ?r18
        case y18 => intro w hSw; (try dsimp only at hSw); go_simp; (try with_reducible rfl)
        simp only [List.setIfInBounds_toArray, List.set_cons_zero, List.set_cons_succ]
        refine takeH (i := 19) (v := ?v19) rfl (by kernel_rfl) (by kernel_rfl) (by kernel_rfl) (fun _ _ _ h => HPN.out _ _ _ _ _ h) (Or.inl ⟨by kernel_rfl, ?y19⟩) (by exact r0) rfl ?r19
        case y19 => intro w hSw; (try dsimp only at hSw); go_simp; (try with_reducible rfl)
        simp only [List.setIfInBounds_toArray, List.set_cons_zero, List.set_cons_succ]
        refine takeH (i := 20) (v := ?v20) rfl (by kernel_rfl) (by kernel_rfl) (by kernel_rfl) (fun _ _ _ h => HPN.out _ _ _ _ _ h) (Or.inl ⟨by kernel_rfl, ?y20⟩) (by exact r0) rfl ?r20
        case y20 => intro w hSw; (try dsimp only at hSw); go_simp; (try with_reducible rfl)
        simp only [List.setIfInBounds_toArray, List.set_cons_zero, List.set_cons_succ]
        refine takeH (i := 21) (v := ?v21) rfl (by kernel_rfl) (by kernel_rfl) (by kernel_rfl) (fun _ _ _ h => HPN.out _ _ _ _ _ h) (Or.inl ⟨by kernel_rfl, ?y21⟩) (by exact r0) rfl ?r21
        case y21 => intro w hSw; (try dsimp only at hSw); go_simp; (try with_reducible rfl)
        simp only [List.setIfInBounds_toArray, List.set_cons_zero, List.set_cons_succ]
        refine takeH (i := 22) (v := ?v22) rfl (by kernel_rfl) (by kernel_rfl) (by kernel_rfl) (fun _ _ _ h => HPN.out _ _ _ _ _ h) (Or.inl ⟨by kernel_rfl, ?y22⟩) (by exact r0) rfl ?r22
        case y22 => intro w hSw; (try dsimp only at hSw); go_simp; (try with_reducible rfl)
        simp only [List.setIfInBounds_toArray, List.set_cons_zero, List.set_cons_succ]
        refine takeH (i := 24) (v := ?v24) rfl (by kernel_rfl) (by kernel_rfl) (by kernel_rfl) (fun _ _ _ h => HPN.out _ _ _ _ _ h) (Or.inl ⟨by kernel_rfl, ?y24⟩) (by exact r0) rfl ?r24
        case y24 => intro w hSw; (try dsimp only at hSw); go_simp; (try with_reducible rfl)
        simp only [List.setIfInBounds_toArray, List.set_cons_zero, List.set_cons_succ]
        refine takeH (i := 25) (v := ?v25) rfl (by kernel_rfl) (by kernel_rfl) (by kernel_rfl) (fun _ _ _ h => HPN.out _ _ _ _ _ h) (Or.inl ⟨by kernel_rfl, ?y25⟩) (by exact r0) rfl ?r25
        case y25 => intro w hSw; (try dsimp only at hSw); go_simp; (try with_reducible rfl)
        simp only [List.setIfInBounds_toArray, List.set_cons_zero, List.set_cons_succ]
        refine takeH (i := 26) (v := ?v26) rfl (by kernel_rfl) (by kernel_rfl) (by kernel_rfl) (fun _ _ _ h => HPN.out _ _ _ _ _ h) (Or.inl ⟨by kernel_rfl, ?y26⟩) (by exact r0) rfl ?r26
        case y26 => intro w hSw; (try dsimp only at hSw); go_simp; (try with_reducible rfl)
        simp only [List.setIfInBounds_toArray, List.set_cons_zero, List.set_cons_succ]
        refine takeH (i := 27) (v := ?v27) rfl (by kernel_rfl) (by kernel_rfl) (by kernel_rfl) (fun _ _ _ h => HPN.out _ _ _ _ _ h) (Or.inl ⟨by kernel_rfl, ?y27⟩) (by exact r0) rfl ?r27
        case y27 => intro w hSw; (try dsimp only at hSw); go_simp; (try with_reducible rfl)
        simp only [List.setIfInBounds_toArray, List.set_cons_zero, List.set_cons_succ]
        refine wpAnyH_ready (rs := [23]) (by kernel_rfl) (by simp) ?_
        refine AllReadyH.cons rfl (fun K hK => ?_) AllReadyH.nil
        go_simp
        refine (cs_all HQS.out).mono ?_
        rw [HS'.out.eq]
        rintro e w7 ⟨v, rfl, hO, hb⟩
        obtain ⟨A3, c3, rfl, _, hC3, _⟩ := hO.reads flatM rfl k25_mk
        rw [hsl] at hC3
        have HC3 := hide hC3
        have r1 : w7.cell? ⟨r, 0, none⟩ = some (.slice A' lq'.length c') := (hb.cell (p := ⟨r, 0, none⟩) (block_lt_of_cell r0)).trans r0
        have HR7 := hide (C_below HRO.out hb)
        have HB7 := hide (HB'.out.below hb)
        clear hO hC3 hb HRO HLN HQS HB'
        go_wp2_with fail
        (try refine hK.out _ _ (by exact r1) (fun hHeld => ?_))
        clear hK K r0
        (try simp only [Act.put, List.getElem_toArray, List.getElem_cons_zero, List.getElem_cons_succ, List.setIfInBounds_toArray, List.set_cons_zero, List.set_cons_succ])
        refine wpAnyH_ready (rs := [28]) (by kernel_rfl) (by simp) ?_
        refine AllReadyH.cons rfl (fun K hK => ?_) AllReadyH.nil
        go_simp
        refine (same_call A3 lq'.length c3 sl' A' lq'.length c' sl' hsl.symm hsl.symm (by have := HS'.out.len; rw [hsl]; omega) true (by simp) _ (by exact HC3.out) (by rw [← hsl]; exact HR7.out)).mono ?_
        rintro e w8 ⟨rfl, hg⟩
        have hb := hg.below
        have r2 : w8.cell? ⟨r, 0, none⟩ = some (.slice A' lq'.length c') := (hb.cell (p := ⟨r, 0, none⟩) (block_lt_of_cell r1)).trans r1
        have HB8 := hide (HB7.out.below hb)
        clear hg hb HB7 HC3 HR7
        go_wp2_with fail
        (try refine hK.out _ _ (by exact r2) (fun hHeld => ?_))
        clear hK K r1
        (try simp only [Act.put, List.getElem_toArray, List.getElem_cons_zero, List.getElem_cons_succ, List.setIfInBounds_toArray, List.set_cons_zero, List.set_cons_succ])
        refine takeH (i := 29) (v := ?v29) rfl (by kernel_rfl) (by kernel_rfl) (by kernel_rfl) (fun _ _ _ h => HPN.out _ _ _ _ _ h) (Or.inl ⟨by kernel_rfl, ?y29⟩) (by exact r2) rfl ?r29
        case y29 => intro w hSw; (try dsimp only at hSw); go_simp; (try with_reducible rfl)
        simp only [List.setIfInBounds_toArray, List.set_cons_zero, List.set_cons_succ]
        refine takeH (i := 30) (v := ?v30) rfl (by kernel_rfl) (by kernel_rfl) (by kernel_rfl) (fun _ _ _ h => HPN.out _ _ _ _ _ h) (Or.inl ⟨by kernel_rfl, ?y30⟩) (by exact r2) rfl ?r30
        case y30 => intro w hSw; (try dsimp only at hSw); go_simp; (try with_reducible rfl)
        simp only [List.setIfInBounds_toArray, List.set_cons_zero, List.set_cons_succ]
        refine takeH (i := 31) (v := ?v31) rfl (by kernel_rfl) (by kernel_rfl) (by kernel_rfl) (fun _ _ _ h => HPN.out _ _ _ _ _ h) (Or.inl ⟨by kernel_rfl, ?y31⟩) (by exact r2) rfl ?r31
        case y31 => intro w hSw; (try dsimp only at hSw); go_simp; (try with_reducible rfl)
        simp only [List.setIfInBounds_toArray, List.set_cons_zero, List.set_cons_succ]
        refine wpAnyH_done (by kernel_rfl) (HNX.out _ _ ?_) _
        clear HNX HPN QX
        have ha := HKa.out
        have hb := HKb.out
        have hc := HKc.out
        clear HKa HKb HKc
        go_wp2_with fail
        go_roundw
        case rel => exact ⟨k + 1, lq', sl', by go_num, by omega, HS', HB8⟩
        case measure => simp [intOf]; omega
      · have g1 : decide ((k : Int) < 100) = false := decide_eq_false h100
        have g2 : decide (k < 100) = false := decide_eq_false (by omega)
        have g3 : ¬ (k : Int) < 100 := h100
        have c5r := fun d os => cell_regrown r0 d os
        have Hq1 := hide (fun d os => Calls.regrown_of (w := w5) (d := d) (os := os) ((cs_len (HQS.out.below (below_regrown w5 d os))).mono (R' := fun e w' => e = .returned (.int .i64 (lq'.length : Nat)) ∧ Below (grow (redrawn w5 d) os).heap.size (grow (redrawn w5 d) os) w') (fun e w' h => ⟨h.1, by rw [h.2]; exact Below.refl _ _⟩)))
        clear HLN HQS HRO
        refine wpAny_of_quiet (C := fun w' => ∃ p : Regrown, w' = grow (redrawn w5 p.d) p.os) (Q := fun a' => ∀ w', (∃ p : Regrown, w' = grow (redrawn w5 p.d) p.os) → QX .normal a' w') (fun _ w' hw' h => h w' hw') _ _ _ _ ⟨⟨w5.drawn, #[]⟩, by rw [grow_empty]; rfl⟩ ?_
        refine anyQ_drop 7 (by kernel_rfl) rfl (by kernel_rfl) ?_
        simp only [List.drop_succ_cons, List.drop_zero, List.toList_toArray]
        repeat (go_big_quiet_step ((first
          | (go_at_call 11; with_reducible exact Hq1.out _ _))))
        refine wpQuiet_nil ?_
        intro w' hw'
        refine HNX.out _ _ ?_
        clear HNX HPN QX
        obtain ⟨⟨dq, osq⟩, hw''⟩ := hw'
        subst hw''
        have HB8 := hide (HB'.out.below (below_regrown w5 dq osq))
        have ha := HKa.out
        have hb := HKb.out
        have hc := HKc.out
        clear HKa HKb HKc
        go_wp2_with fail
        go_roundw
        case rel => exact ⟨k + 1, lq', sl', by go_num, by omega, HS', HB8⟩
        case measure => simp [intOf]; omega
    · have b1 : ¬ (k : Int) < (l0.length : Int) := by omega
      go_wp2_with (go_at_call 9; refine (awake_call _).mono ?_; rintro e w5 ⟨rfl, hb5⟩)
      go_ret
      exact ⟨rfl, below_step HB.out.bel hb5⟩
end Go.Proofs.Ytkhdghlgkljdgaa.ladderPlays
