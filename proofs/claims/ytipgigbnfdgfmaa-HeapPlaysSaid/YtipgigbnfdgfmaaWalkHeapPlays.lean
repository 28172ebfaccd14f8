/- The walk of HeapPlays. (Its loop is written by wip/t06/hplaygen.py.) -/
import Derived.Test.YtipgigbnfdgfmaaHX
import Derived.Test.YtipgigbnfdgfmaaKindsHeapPlays
import Derived.Test.YtipgigbnfdgfmaaLex
import Derived.Lib.QuietBelow
namespace Go.Proofs.Ytipgigbnfdgfmaa.heapPlays
open Go.Proofs Go.RowKit Go.Deep Go.Sort Go.Proofs.Ytipgigbnfdgfmaa.SortPure Go.Proofs.Ytipgigbnfdgfmaa.Types Go.Proofs.Ytipgigbnfdgfmaa.Heap Go.Proofs.Ytipgigbnfdgfmaa.Row Go.Proofs.Ytipgigbnfdgfmaa.HQ Go.Proofs.Ytipgigbnfdgfmaa.Ord Go.Proofs.Ytipgigbnfdgfmaa.Sorted Go.Proofs.Ytipgigbnfdgfmaa.HU Go.Proofs.Ytipgigbnfdgfmaa.Same Go.Proofs.YtipgigbnfdgfmaaW.PrintWords Go.Proofs.YtipgigbnfdgfmaaW.PrintLast Go.Proofs.YtipgigbnfdgfmaaW.PrintMore
set_option linter.unusedVariables false
set_option linter.unusedSimpArgs false
attribute [local go_sem high] eqRun
theorem takeA {P : Program} {md : Region.Mode} {ops : Array Oper} {Q : Exit → Act → World → Prop} {i d : Nat} {oi : Oper} {v : Value} {fuel : Nat} {listed : Array Bool} {tmps : Array Value} {df : List Deferred} {w : World} (hi : ops[i]? = some oi)
    (hs : Region.noSelect ops = true) (hf : Region.free md ops listed i = true) (hr : (Region.ready md ops listed).contains i = true)
    (hQ : ∀ c a w, Q (.panic c) (a.put oi.dst v) w → Q (.panic c) a w) (hy : Yields P ops oi v ⟨tmps, df⟩) (hd : oi.dst = some d)
    (h : wpAny P md ops Q fuel (listed.setIfInBounds i true) ⟨tmps.setIfInBounds d v, df⟩ w) : wpAny P md ops Q (fuel + 1) listed ⟨tmps, df⟩ w :=
  wpAny_take hi hs hf hr hQ hy (by rw [hd]; exact h)
theorem takeH {P : Program} {md : Region.Mode} {ops : Array Oper} {Q : Exit → Act → World → Prop} {S : World → Prop} {i d : Nat} {oi : Oper} {v : Value} {fuel : Nat} {listed : Array Bool} {tmps : Array Value} {df : List Deferred} {w : World} (hi : ops[i]? = some oi)
    (hs : Region.noSelect ops = true) (hf : Region.free md ops listed i = true) (hr : (Region.ready md ops listed).contains i = true)
    (hQ : ∀ c a w, Q (.panic c) (a.put oi.dst v) w → Q (.panic c) a w) (hy : YieldsIf P ops S oi v ⟨tmps, df⟩) (hS : S w) (hd : oi.dst = some d)
    (h : wpAnyH P md ops Q S fuel (listed.setIfInBounds i true) ⟨tmps.setIfInBounds d v, df⟩ w) : wpAnyH P md ops Q S (fuel + 1) listed ⟨tmps, df⟩ w :=
  wpAnyH_take hi hs hf hr hQ hy hS (by rw [hd]; exact h)
theorem anyQ_drop {P : Program} {md : Region.Mode} {ops : Array Oper} {C : World → Prop} {Q : Act → Prop} {fuel : Nat} {listed : Array Bool} {a : Act} (k : Nat) (hs : Region.noSelect ops = true) (hf : fuel = (ops.toList.drop k).length)
    (hB : Region.lexFrom md ops (ops.toList.drop k).length k listed = true) (h : wpQuiet P ops C Q (ops.toList.drop k) a) : wpAnyQ P md ops C Q fuel listed a := by
  subst hf
  exact wpAnyQ_lex hs _ k listed a (fun j => by simp) hB h
theorem wpAny_abs {P : Program} {md : Region.Mode} {ops : Array Oper} {Q : Exit → Act → World → Prop} {fuel : Nat} {listed : Array Bool} {a : Act} {w : World} (hp : ∀ c a i v w, Q (.panic c) (Act.put a i v) w → Q (.panic c) a w)
    (h : ∀ Q' : Exit → Act → World → Prop, Hid (∀ c a i v w, Q' (.panic c) (Act.put a i v) w → Q' (.panic c) a w) → Hid (∀ a w, Q .normal a w → Q' .normal a w) → wpAny P md ops Q' fuel listed a w) : wpAny P md ops Q fuel listed a w := h Q (hide hp) (hide fun _ _ h => h)
set_option maxHeartbeats 16000000 in
set_option maxRecDepth 100000 in
theorem walk (A0 : Option Addr) (c0 : Nat) (l0 : List S52) (hc0 : l0.length ≤ c0) (w0 : ∀ y ∈ l0, I52 y) (y0 : l0.length * 64 ≤ 140737488351232) (w : World) (hr0 : Kd.C k52 w A0 l0.length l0) :
    Calls Try.prog 7 #[.slice A0 l0.length c0] w fun e w' => e = .returned (.bool true) ∧ Below w.heap.size w w' := by
  have HR := hide hr0
  have HY := hide y0
  clear hr0 y0 w0
  go_enter Try.func7, Try.ntmps7
  go_wp2_with fail
  refine (new_call w w.heap.size).mono ?_
  rintro e w1 ⟨rfl, hq, hb⟩
  obtain ⟨g, hg⟩ : ∃ g, w.heap.size = g := ⟨_, rfl⟩
  have HG : Hid (w.heap.size = g) := hide hg
  have HB1 := hide hb
  rw [hg] at hq ⊢
  have HQ1 := hide hq
  clear hq hb hg
  go_wp2_with fail
  refine (rnew_call w1 (w1.heap.size + 1)).mono ?_
  rintro e w2 ⟨rfl, hq, hb⟩
  obtain ⟨r, hr⟩ : ∃ r, w1.heap.size = r := ⟨_, rfl⟩
  have hgr : g < r := by have := HQ1.out.blk.lt; omega
  have hQ2 := HQ1.out.below hb
  have HB2 : Hid (Both No (r + 1) w w2 g r [] []) := hide ⟨⟨none, 0, none, 0, ⟨hQ2.blk, Own.nil _ _ _ _ _⟩, by rw [← hr]; exact hq, fun ad e => by simp at e, fun x hx => hx.elim, fun x hx => hx.elim⟩, by omega, by omega, fun x hx => hx.elim, below_step HB1.out hb, by have h1 := HG.out; omega, by have := hq.blk.lt; omega⟩
  rw [hr]
  clear hq hb hr hQ2 HQ1 HB1 hgr
  go_wp2_with fail
  go_loopw [5] (fun iv wr => ∃ (k : Nat) (lq sl : List M), iv = .int .i64 k ∧ k ≤ l0.length ∧ Hid (St lq sl) ∧ Hid (Both No (r + 1) w wr g r lq sl)) (fun iv _ => l0.length - (intOf iv).toNat)
  case atStart => exact ⟨0, [], [], rfl, Nat.zero_le _, hide St.nil, HB2⟩
  case round =>
    obtain ⟨k, lq, sl, rfl, hk, HS, HB⟩ := hrel
    clear HB2
    by_cases hlt : k < l0.length
    · have b1 : (k : Int) < (l0.length : Int) := by omega
      have hl63 : (l0.length : Int) ≤ 2199023255551 := by have := HY.out; omega
      have hbd : Below wr.heap.size wr wr.drew := below_drewN (Below.refl _ _) 1
      have HB0 := hide (HB.out.below hbd)
      clear hbd
      obtain ⟨ad, rfl, q0, q1, q2, q3, q4, q5, q6, q7⟩ := at_S52 (Kd.C_below HR.out HB0.out.bel) hlt
      obtain ⟨⟨o, m⟩, hx⟩ : ∃ x, l0[k] = x := ⟨_, rfl⟩
      rw [hx] at q0 q1 q2 q3 q4 q5 q6 q7
      clear hx
      have HPL := hide (play_call (r + 1) g r w wr.drew lq sl o m HS.out HB0.out)
      have HX' : Hid (w.heap.size ≤ r) := hide HB0.out.fs.2
      clear HB HB0
      simp only at q0 q1 q2 q3 q4 q5 q6 q7
      go_wp2_with fail
      rename_i Qa Ka ha Qb Kb hb Kc hc
      have HKa := hide ha
      have HKb := hide hb
      have HKc := hide hc
      clear ha hb hc
      refine wp_region_any (by kernel_rfl) ?_
      (try (change wpAny _ _ _ _ _ _ _ (World.drew _)))
      refine wpAny_abs (fun _ _ _ _ _ h => by simp [Exit.then, Exit.inBlock, Qb, Qa, bodyPost, Act.put] at h) (fun QX HPN HNX => ?_)
      refine takeA (i := 0) (v := ?v0) rfl (by kernel_rfl) (by kernel_rfl) (by kernel_rfl) (fun _ _ _ h => HPN.out _ _ _ _ _ h) (Or.inl ⟨by kernel_rfl, ?y0⟩) rfl ?r0
      case y0 => intro w; go_simp; (try with_reducible rfl)
      simp only [List.setIfInBounds_toArray, List.set_cons_zero, List.set_cons_succ]
      refine takeA (i := 1) (v := ?v1) rfl (by kernel_rfl) (by kernel_rfl) (by kernel_rfl) (fun _ _ _ h => HPN.out _ _ _ _ _ h) (Or.inl ⟨by kernel_rfl, ?y1⟩) rfl ?r1
      case y1 => intro w; go_simp; (try with_reducible rfl)
      simp only [List.setIfInBounds_toArray, List.set_cons_zero, List.set_cons_succ]
      refine takeA (i := 2) (v := ?v2) rfl (by kernel_rfl) (by kernel_rfl) (by kernel_rfl) (fun _ _ _ h => HPN.out _ _ _ _ _ h) (Or.inl ⟨by kernel_rfl, ?y2⟩) rfl ?r2
      case y2 => intro w; go_simp; (try with_reducible rfl)
      simp only [List.setIfInBounds_toArray, List.set_cons_zero, List.set_cons_succ]
      refine takeA (i := 3) (v := ?v3) rfl (by kernel_rfl) (by kernel_rfl) (by kernel_rfl) (fun _ _ _ h => HPN.out _ _ _ _ _ h) (Or.inl ⟨by kernel_rfl, ?y3⟩) rfl ?r3
      case y3 => intro w; go_simp; (try with_reducible rfl)
      simp only [List.setIfInBounds_toArray, List.set_cons_zero, List.set_cons_succ]
      refine takeA (i := 4) (v := ?v4) rfl (by kernel_rfl) (by kernel_rfl) (by kernel_rfl) (fun _ _ _ h => HPN.out _ _ _ _ _ h) (Or.inl ⟨by kernel_rfl, ?y4⟩) rfl ?r4
      case y4 => intro w; go_simp; (try with_reducible rfl)
      simp only [List.setIfInBounds_toArray, List.set_cons_zero, List.set_cons_succ]
      refine wpAny_ready (rs := [5]) (by kernel_rfl) (by simp) ?_
      refine AllReady.cons rfl (fun K hK => ?_) AllReady.nil
      go_simp
      refine hK _ _ ?_
      clear hK K
      (try simp only [Act.put, List.getElem_toArray, List.getElem_cons_zero, List.getElem_cons_succ, List.setIfInBounds_toArray, List.set_cons_zero, List.set_cons_succ])
      refine wpAny_ready (rs := [6]) (by kernel_rfl) (by simp) ?_
      refine AllReady.cons rfl (fun K hK => ?_) AllReady.nil
      go_simp
      refine HPL.out.mono ?_
      rintro e w5 ⟨rfl, lq', sl', hs', hb'⟩
      have HS' := hide hs'
      have HB' := hide hb'
      clear hs' hb'
      go_wp2_with fail
      (try (refine hK _ _ ?_; clear hK K))
      (try simp only [Act.put, List.getElem_toArray, List.getElem_cons_zero, List.getElem_cons_succ, List.setIfInBounds_toArray, List.set_cons_zero, List.set_cons_succ])
      clear q0 q1 q2 q3 q4 q5 q6 q7 HPL
      obtain ⟨A, c, A', c', hQ, hR, hw1, hw2, hw3⟩ := HB'.out.at_
      clear hw1 hw2 hw3
      have hsl : sl'.length = lq'.length := HS'.out.lens
      have r0 : w5.cell? ⟨r, 0, none⟩ = some (.slice A' lq'.length c') := by rw [← hsl]; exact hR.blk.cell 0
      have HLN := hide (len_call g w5 (r + 1) A c lq' hQ)
      have HQS : Hid (Qs (r + 1) w w5 g lq') := hide ⟨⟨A, c, hQ⟩, HB'.out.bel, by have := HX'.out; omega, HB'.out.fs.1, HB'.out.sz⟩
      have HRO := hide hR.row
      have HQA := hide hQ
      have hl14 : (lq'.length : Int) ≤ 16384 := by have := HS'.out.len; omega
      clear hQ hR
      by_cases h100 : (k : Int) < 100
      · clear HQA
        have g1 : decide ((k : Int) < 100) = true := decide_eq_true h100
        have g2 : decide (k < 100) = true := decide_eq_true (by omega)
        refine wpAny_of_held (S := fun w' => w'.cell? ⟨r, 0, none⟩ = some (.slice A' lq'.length c')) _ _ _ _ ?_
        refine takeH (i := 7) (v := ?v7) rfl (by kernel_rfl) (by kernel_rfl) (by kernel_rfl) (fun _ _ _ h => HPN.out _ _ _ _ _ h) (Or.inl ⟨by kernel_rfl, ?y7⟩) (by exact r0) rfl ?r7
        case y7 => intro w hSw; (try dsimp only at hSw); go_simp; (try with_reducible rfl)
        simp only [List.setIfInBounds_toArray, List.set_cons_zero, List.set_cons_succ]
        refine takeH (i := 8) (v := ?v8) rfl (by kernel_rfl) (by kernel_rfl) (by kernel_rfl) (fun _ _ _ h => HPN.out _ _ _ _ _ h) (Or.inl ⟨by kernel_rfl, ?y8⟩) (by exact r0) rfl ?r8
        case y8 => intro w hSw; (try dsimp only at hSw); go_simp; (try with_reducible rfl)
        simp only [List.setIfInBounds_toArray, List.set_cons_zero, List.set_cons_succ]
        refine takeH (i := 9) (v := ?v9) rfl (by kernel_rfl) (by kernel_rfl) (by kernel_rfl) (fun _ _ _ h => HPN.out _ _ _ _ _ h) (Or.inl ⟨by kernel_rfl, ?y9⟩) (by exact r0) rfl ?r9
        case y9 => intro w hSw; (try dsimp only at hSw); go_simp; (try with_reducible rfl)
        simp only [List.setIfInBounds_toArray, List.set_cons_zero, List.set_cons_succ]
        refine takeH (i := 11) (v := ?v11) rfl (by kernel_rfl) (by kernel_rfl) (by kernel_rfl) (fun _ _ _ h => HPN.out _ _ _ _ _ h) (Or.inl ⟨by kernel_rfl, ?y11⟩) (by exact r0) rfl ?r11
        case y11 => intro w hSw; (try dsimp only at hSw); go_simp; (try with_reducible rfl)
        simp only [List.setIfInBounds_toArray, List.set_cons_zero, List.set_cons_succ]
        refine takeH (i := 12) (v := ?v12) rfl (by kernel_rfl) (by kernel_rfl) (by kernel_rfl) (fun _ _ _ h => HPN.out _ _ _ _ _ h) (Or.inl ⟨by kernel_rfl, ?y12⟩) (by exact r0) rfl ?r12
        case y12 => intro w hSw; (try dsimp only at hSw); go_simp; (try with_reducible rfl)
        simp only [List.setIfInBounds_toArray, List.set_cons_zero, List.set_cons_succ]
        refine takeH (i := 13) (v := ?v13) rfl (by kernel_rfl) (by kernel_rfl) (by kernel_rfl) (fun _ _ _ h => HPN.out _ _ _ _ _ h) (Or.inl ⟨by kernel_rfl, ?y13⟩) (by exact r0) rfl ?r13
        case y13 => intro w hSw; (try dsimp only at hSw); go_simp; (try with_reducible rfl)
        simp only [List.setIfInBounds_toArray, List.set_cons_zero, List.set_cons_succ]
        refine takeH (i := 14) (v := ?v14) rfl (by kernel_rfl) (by kernel_rfl) (by kernel_rfl) (fun _ _ _ h => HPN.out _ _ _ _ _ h) (Or.inl ⟨by kernel_rfl, ?y14⟩) (by exact r0) rfl ?r14
        case y14 => intro w hSw; (try dsimp only at hSw); go_simp; (try with_reducible rfl)
        simp only [List.setIfInBounds_toArray, List.set_cons_zero, List.set_cons_succ]
        refine takeH (i := 15) (v := ?v15) rfl (by kernel_rfl) (by kernel_rfl) (by kernel_rfl) (fun _ _ _ h => HPN.out _ _ _ _ _ h) (Or.inl ⟨by kernel_rfl, ?y15⟩) (by exact r0) rfl ?r15
        case y15 => intro w hSw; (try dsimp only at hSw); go_simp; (try with_reducible rfl)
        simp only [List.setIfInBounds_toArray, List.set_cons_zero, List.set_cons_succ]
        refine wpAnyH_ready (rs := [10]) (by kernel_rfl) (by simp) ?_
        refine AllReadyH.cons rfl (fun K hK => ?_) AllReadyH.nil
        go_simp
        refine HLN.out.mono ?_
        rintro e w6 ⟨rfl, rfl⟩
        go_wp2_with fail
        (try refine hK.out _ _ (by exact r0) (fun hHeld => ?_))
        clear hK K
        (try simp only [Act.put, List.getElem_toArray, List.getElem_cons_zero, List.getElem_cons_succ, List.setIfInBounds_toArray, List.set_cons_zero, List.set_cons_succ])
        refine takeH (i := 16) (v := ?v16) rfl (by kernel_rfl) (by kernel_rfl) (by kernel_rfl) (fun _ _ _ h => HPN.out _ _ _ _ _ h) (Or.inl ⟨by kernel_rfl, ?y16⟩) (by exact r0) rfl ?r16
        case y16 => intro w hSw; (try dsimp only at hSw); go_simp; (try with_reducible rfl)
        simp only [List.setIfInBounds_toArray, List.set_cons_zero, List.set_cons_succ]
        refine takeH (i := 17) (v := ?v17) rfl (by kernel_rfl) (by kernel_rfl) (by kernel_rfl) (fun _ _ _ h => HPN.out _ _ _ _ _ h) (Or.inl ⟨by kernel_rfl, ?y17⟩) (by exact r0) rfl ?r17
        case y17 => intro w hSw; (try dsimp only at hSw); go_simp; (try with_reducible rfl)
        simp only [List.setIfInBounds_toArray, List.set_cons_zero, List.set_cons_succ]
        refine takeH (i := 18) (v := ?v18) rfl (by kernel_rfl) (by kernel_rfl) (by kernel_rfl) (fun _ _ _ h => HPN.out _ _ _ _ _ h) (Or.inl ⟨by kernel_rfl, ?y18⟩) (by exact r0) rfl ?r18
        case y18 => intro w hSw; (try dsimp only at hSw); go_simp; (try with_reducible rfl)
        simp only [List.setIfInBounds_toArray, List.set_cons_zero, List.set_cons_succ]
        refine takeH (i := 19) (v := ?v19) rfl (by kernel_rfl) (by kernel_rfl) (by kernel_rfl) (fun _ _ _ h => HPN.out _ _ _ _ _ h) (Or.inl ⟨by kernel_rfl, ?y19⟩) (by exact r0) rfl ?r19
        case y19 => intro w hSw; (try dsimp only at hSw); go_simp; (try with_reducible rfl)
        simp only [List.setIfInBounds_toArray, List.set_cons_zero, List.set_cons_succ]
        refine takeH (i := 20) (v := ?v20) rfl (by kernel_rfl) (by kernel_rfl) (by kernel_rfl) (fun _ _ _ h => HPN.out _ _ _ _ _ h) (Or.inl ⟨by kernel_rfl, ?y20⟩) (by exact r0) rfl ?r20
        case y20 => intro w hSw; (try dsimp only at hSw); go_simp; (try with_reducible rfl)
        simp only [List.setIfInBounds_toArray, List.set_cons_zero, List.set_cons_succ]
        refine takeH (i := 21) (v := ?v21) rfl (by kernel_rfl) (by kernel_rfl) (by kernel_rfl) (fun _ _ _ h => HPN.out _ _ _ _ _ h) (Or.inl ⟨by kernel_rfl, ?y21⟩) (by exact r0) rfl ?r21
        case y21 => intro w hSw; (try dsimp only at hSw); go_simp; (try with_reducible rfl)
        simp only [List.setIfInBounds_toArray, List.set_cons_zero, List.set_cons_succ]
        refine takeH (i := 22) (v := ?v22) rfl (by kernel_rfl) (by kernel_rfl) (by kernel_rfl) (fun _ _ _ h => HPN.out _ _ _ _ _ h) (Or.inl ⟨by kernel_rfl, ?y22⟩) (by exact r0) rfl ?r22
        case y22 => intro w hSw; (try dsimp only at hSw); go_simp; (try with_reducible rfl)
        simp only [List.setIfInBounds_toArray, List.set_cons_zero, List.set_cons_succ]
        refine takeH (i := 24) (v := ?v24) rfl (by kernel_rfl) (by kernel_rfl) (by kernel_rfl) (fun _ _ _ h => HPN.out _ _ _ _ _ h) (Or.inl ⟨by kernel_rfl, ?y24⟩) (by exact r0) rfl ?r24
        case y24 => intro w hSw; (try dsimp only at hSw); go_simp; (try with_reducible rfl)
        simp only [List.setIfInBounds_toArray, List.set_cons_zero, List.set_cons_succ]
        refine takeH (i := 25) (v := ?v25) rfl (by kernel_rfl) (by kernel_rfl) (by kernel_rfl) (fun _ _ _ h => HPN.out _ _ _ _ _ h) (Or.inl ⟨by kernel_rfl, ?y25⟩) (by exact r0) rfl ?r25
        case y25 => intro w hSw; (try dsimp only at hSw); go_simp; (try with_reducible rfl)
        simp only [List.setIfInBounds_toArray, List.set_cons_zero, List.set_cons_succ]
        refine takeH (i := 26) (v := ?v26) rfl (by kernel_rfl) (by kernel_rfl) (by kernel_rfl) (fun _ _ _ h => HPN.out _ _ _ _ _ h) (Or.inl ⟨by kernel_rfl, ?y26⟩) (by exact r0) rfl ?r26
        case y26 => intro w hSw; (try dsimp only at hSw); go_simp; (try with_reducible rfl)
        simp only [List.setIfInBounds_toArray, List.set_cons_zero, List.set_cons_succ]
        refine takeH (i := 27) (v := ?v27) rfl (by kernel_rfl) (by kernel_rfl) (by kernel_rfl) (fun _ _ _ h => HPN.out _ _ _ _ _ h) (Or.inl ⟨by kernel_rfl, ?y27⟩) (by exact r0) rfl ?r27
        case y27 => intro w hSw; (try dsimp only at hSw); go_simp; (try with_reducible rfl)
        simp only [List.setIfInBounds_toArray, List.set_cons_zero, List.set_cons_succ]
        refine wpAnyH_ready (rs := [23]) (by kernel_rfl) (by simp) ?_
        refine AllReadyH.cons rfl (fun K hK => ?_) AllReadyH.nil
        go_simp
        refine (qs_all HQS.out HS'.out.len).mono ?_
        rw [HS'.out.all]
        rintro e w7 ⟨v, rfl, hO, hb⟩
        obtain ⟨A3, c3, rfl, _, hC3, _⟩ := hO.reads flatM rfl k25_mk
        have HC3 := hide hC3
        have r1 : w7.cell? ⟨r, 0, none⟩ = some (.slice A' lq'.length c') := (hb.cell (p := ⟨r, 0, none⟩) (block_lt_of_cell r0)).trans r0
        have HR7 := hide (C_below HRO.out hb)
        have HB7 := hide (HB'.out.below hb)
        clear hO hC3 hb HRO HLN HQS HB'
        go_wp2_with fail
        (try refine hK.out _ _ (by exact r1) (fun hHeld => ?_))
        clear hK K r0
        (try simp only [Act.put, List.getElem_toArray, List.getElem_cons_zero, List.getElem_cons_succ, List.setIfInBounds_toArray, List.set_cons_zero, List.set_cons_succ])
        refine wpAnyH_ready (rs := [28]) (by kernel_rfl) (by simp) ?_
        refine AllReadyH.cons rfl (fun K hK => ?_) AllReadyH.nil
        go_simp
        refine (same_call A3 lq'.length c3 sl' A' lq'.length c' sl' hsl.symm hsl.symm (by have := HS'.out.len; rw [hsl]; omega) true (by simp) _ (by rw [← hsl]; exact HC3.out) (by rw [← hsl]; exact HR7.out)).mono ?_
        rintro e w8 ⟨rfl, hg⟩
        have hb := hg.below
        have r2 : w8.cell? ⟨r, 0, none⟩ = some (.slice A' lq'.length c') := (hb.cell (p := ⟨r, 0, none⟩) (block_lt_of_cell r1)).trans r1
        have HB8 := hide (HB7.out.below hb)
        clear hg hb HB7 HC3 HR7
        go_wp2_with fail
        (try refine hK.out _ _ (by exact r2) (fun hHeld => ?_))
        clear hK K r1
        (try simp only [Act.put, List.getElem_toArray, List.getElem_cons_zero, List.getElem_cons_succ, List.setIfInBounds_toArray, List.set_cons_zero, List.set_cons_succ])
        refine takeH (i := 29) (v := ?v29) rfl (by kernel_rfl) (by kernel_rfl) (by kernel_rfl) (fun _ _ _ h => HPN.out _ _ _ _ _ h) (Or.inl ⟨by kernel_rfl, ?y29⟩) (by exact r2) rfl ?r29
        case y29 => intro w hSw; (try dsimp only at hSw); go_simp; (try with_reducible rfl)
        simp only [List.setIfInBounds_toArray, List.set_cons_zero, List.set_cons_succ]
        refine takeH (i := 30) (v := ?v30) rfl (by kernel_rfl) (by kernel_rfl) (by kernel_rfl) (fun _ _ _ h => HPN.out _ _ _ _ _ h) (Or.inl ⟨by kernel_rfl, ?y30⟩) (by exact r2) rfl ?r30
        case y30 => intro w hSw; (try dsimp only at hSw); go_simp; (try with_reducible rfl)
        simp only [List.setIfInBounds_toArray, List.set_cons_zero, List.set_cons_succ]
        refine takeH (i := 31) (v := ?v31) rfl (by kernel_rfl) (by kernel_rfl) (by kernel_rfl) (fun _ _ _ h => HPN.out _ _ _ _ _ h) (Or.inl ⟨by kernel_rfl, ?y31⟩) (by exact r2) rfl ?r31
        case y31 => intro w hSw; (try dsimp only at hSw); go_simp; (try with_reducible rfl)
        simp only [List.setIfInBounds_toArray, List.set_cons_zero, List.set_cons_succ]
        refine wpAnyH_done (by kernel_rfl) (HNX.out _ _ ?_) _
        clear HNX HPN QX
        have ha := HKa.out
        have hb := HKb.out
        have hc := HKc.out
        clear HKa HKb HKc
        go_wp2_with fail
        go_roundw
        case rel => exact ⟨k + 1, lq', sl', by go_num, by omega, HS', HB8⟩
        case measure => simp [intOf]; omega
      · have g1 : decide ((k : Int) < 100) = false := decide_eq_false h100
        have g2 : decide (k < 100) = false := decide_eq_false (by omega)
        have g3 : ¬ (k : Int) < 100 := h100
        have c5r := fun d os => cell_regrown r0 d os
        have Hq1 := hide (fun d os => Calls.regrown_of (w := w5) (d := d) (os := os) ((len_call g _ (r + 1) A c lq' (HQA.out.below (below_regrown w5 d os))).mono (R' := fun e w' => e = .returned (.int .i64 (lq'.length : Nat)) ∧ Below (grow (redrawn w5 d) os).heap.size (grow (redrawn w5 d) os) w') (fun e w' h => ⟨h.1, by rw [h.2]; exact Below.refl _ _⟩)))
        clear HLN HQS HRO HQA
        refine wpAny_of_quiet (C := fun w' => ∃ p : Regrown, w' = grow (redrawn w5 p.d) p.os) (Q := fun a' => ∀ w', (∃ p : Regrown, w' = grow (redrawn w5 p.d) p.os) → QX .normal a' w') (fun _ w' hw' h => h w' hw') _ _ _ _ ⟨⟨w5.drawn, #[]⟩, by rw [grow_empty]; rfl⟩ ?_
        refine anyQ_drop 7 (by kernel_rfl) rfl (by kernel_rfl) ?_
        simp only [List.drop_succ_cons, List.drop_zero, List.toList_toArray]
        repeat (go_big_quiet_step ((first
          | (go_at_call 10; with_reducible exact Hq1.out _ _))))
        refine wpQuiet_nil ?_
        intro w' hw'
        refine HNX.out _ _ ?_
        clear HNX HPN QX
        obtain ⟨⟨dq, osq⟩, hw''⟩ := hw'
        subst hw''
        have HB8 := hide (HB'.out.below (below_regrown w5 dq osq))
        have ha := HKa.out
        have hb := HKb.out
        have hc := HKc.out
        clear HKa HKb HKc
        go_wp2_with fail
        go_roundw
        case rel => exact ⟨k + 1, lq', sl', by go_num, by omega, HS', HB8⟩
        case measure => simp [intOf]; omega
    · have b1 : ¬ (k : Int) < (l0.length : Int) := by omega
      go_wp2_with (go_at_call 19; refine (awake_call _).mono ?_; rintro e w5 ⟨rfl, hb5⟩)
      go_ret
      exact ⟨rfl, below_step HB.out.bel hb5⟩
end Go.Proofs.Ytipgigbnfdgfmaa.heapPlays
