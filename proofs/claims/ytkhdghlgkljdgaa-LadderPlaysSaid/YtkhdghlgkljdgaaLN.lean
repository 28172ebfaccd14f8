/- The ladder's Push of a new message. No law is proved here. -/
import Derived.Test.YtkhdghlgkljdgaaLM
import Derived.Deep.DeepCutAuto
namespace Go.Proofs.Ytkhdghlgkljdgaa.LQ
open Go.Proofs Go.Proofs.Ytkhdghlgkljdgaa.CQ Go.Proofs.Ytkhdghlgkljdgaa.Ref02 Go.Shelf Go.RowKit Go.Deep Go.Sort Go.Proofs.Ytkhdghlgkljdgaa.SortPure Go.Proofs.Ytkhdghlgkljdgaa.Types Go.Proofs.Ytkhdghlgkljdgaa.Heap Go.Proofs.Ytkhdghlgkljdgaa.Row Go.Proofs.Ytkhdghlgkljdgaa.Ord Go.Proofs.Ytkhdghlgkljdgaa.Sorted Go.Proofs.YtkhdghlgkljdgaaW.PrintWords Go.Proofs.YtkhdghlgkljdgaaW.PrintLast Go.Proofs.YtkhdghlgkljdgaaW.PrintMore
set_option linter.unusedVariables false
set_option linter.unusedSimpArgs false
theorem spill_call {w : World} {S : Nat → Prop} {g : Nat} {A : Option Addr} {c : Nat} {b : List M} {most : Int} {R : Option Addr} {rc : Nat} {rs : List Rg} {sl : List M} (h : LAt w S g A c b most R rc rs) (hi : Inv b (rs.map Rg.l) sl) (hN : ∀ x, w.heap.size ≤ x → S x) (hm : 1 ≤ most ∧ most ≤ 16384) :
    Calls Try.prog 25 #[.pointer (some ⟨g, 0, none⟩)] w fun e w' => e = .returned (.tuple #[]) ∧ Lq w' S g most sl ∧ Only w w' S := by
  obtain ⟨z1, z2, z3, -⟩ := inv_sizes hi
  by_cases hb : (b.length : Int) ≤ 2 * most
  · refine (spill_no h hm hb).mono ?_
    rintro e w' ⟨rfl, h', hb'⟩
    exact ⟨rfl, ⟨A, c, b, R, rc, rs, h', hi⟩, only_of_below hb' _⟩
  · refine (spill_yes h hN hm (by omega) (by omega) z2 rfl).mono ?_
    rintro e w' ⟨rfl, ⟨R', rc', x, y, h'⟩, hO⟩
    refine ⟨rfl, ⟨A, c, _, R', rc', _, h', ?_⟩, hO⟩
    have := hi.spill (k := b.length / 2) (by omega)
    simpa using this
set_option maxHeartbeats 8000000 in
set_option maxRecDepth 100000 in
theorem push_new {w : World} {S : Nat → Prop} {g : Nat} {most : Int} {sl : List M} (h : Lq w S g most sl) (hN : ∀ x, w.heap.size ≤ x → S x) (hm : 1 ≤ most ∧ most ≤ 16384) (m : M) (hx : ∀ x ∈ sl, ¬ isOf m.f0.f1 m.f3 x) (hl : sl.length < 16384) :
    Calls Try.prog 10 #[.pointer (some ⟨g, 0, none⟩), .agg (cM m).toArray] w fun e w' => e = .returned (.int .i64 0) ∧ Lq w' S g most (ins befM sl m) ∧ Only w w' S := by
  have hmo : Try.prog.follows .mixedOrders = true := by kernel_rfl
  obtain ⟨A, c, b, R, rc, rs, h, hi⟩ := h
  have HI := hide hi
  have HN := hide hN
  have HX := hide hx
  have HL := hide hl
  have hm1 := hm.1
  have hm2 := hm.2
  have HMO := hide hm
  have HB0 := hide ((Below.refl w.heap.size w).alloc (Nat.le_refl _) (.cells #[.int .i64 m.f0.f0, .int .i64 m.f0.f1, .int .i64 m.f0.f2, .int .i64 m.f1, .int .i64 m.f2, .int .i64 m.f3, .bool m.f4] 25))
  have HM0 := hide (Blk.new w 25 #[.int .i64 m.f0.f0, .int .i64 m.f0.f1, .int .i64 m.f0.f2, .int .i64 m.f1, .int .i64 m.f2, .int .i64 m.f3, .bool m.f4])
  obtain ⟨W, hW⟩ : ∃ W, w.alloc (.cells #[.int .i64 m.f0.f0, .int .i64 m.f0.f1, .int .i64 m.f0.f2, .int .i64 m.f1, .int .i64 m.f2, .int .i64 m.f3, .bool m.f4] 25) = W := ⟨_, rfl⟩
  obtain ⟨gm, hgm⟩ : ∃ gm, w.heap.size = gm := ⟨_, rfl⟩
  rw [hW] at HB0 HM0
  rw [hgm] at HM0
  have HL0 := hide (h.below HB0.out)
  have HNC := hide (none_call (show most ≠ 0 by omega) HL0.out.c1)
  have HF := hide (find_no m.f0.f1 m.f3 HL0.out hi hx)
  have HQ := hide (fun (W' : World) (hb : Below W.heap.size W W') => len_lq ⟨A, c, b, R, rc, rs, HL0.out.below hb, hi⟩ (show most ≠ 0 by omega))
  obtain ⟨z1, z2, z3, -⟩ := inv_sizes hi
  have HZ3 := hide z3
  have hs64 : (sl.length : Int) < 16384 := by omega
  have hr64 : (rs.length : Int) ≤ 16384 := by omega
  have hb64 : (b.length : Int) ≤ 16384 := by omega
  have hgw : g < w.heap.size := h.blk.lt
  clear h hi hx hm hl hN z3
  have x0 : W.cell? ⟨gm, 0, none⟩ = some (.int .i64 m.f0.f0) := HM0.out.cell 0
  have x1 : W.cell? ⟨gm, 1, none⟩ = some (.int .i64 m.f0.f1) := HM0.out.cell 1
  have x2 : W.cell? ⟨gm, 2, none⟩ = some (.int .i64 m.f0.f2) := HM0.out.cell 2
  have x3 : W.cell? ⟨gm, 3, none⟩ = some (.int .i64 m.f1) := HM0.out.cell 3
  have x4 : W.cell? ⟨gm, 4, none⟩ = some (.int .i64 m.f2) := HM0.out.cell 4
  have x5 : W.cell? ⟨gm, 5, none⟩ = some (.int .i64 m.f3) := HM0.out.cell 5
  have x6 : W.cell? ⟨gm, 6, none⟩ = some (.bool m.f4) := HM0.out.cell 6
  unfold cM c25
  go_enter Try.func10, Try.ntmps10
  go_upto_block 0 with (first
    | (go_at_call 20; refine HNC.out.mono ?_; rintro e w1 ⟨rfl, hw1⟩; have hw2 := hw1.symm; subst hw2)
    | (go_at_call 21; refine HF.out.mono ?_; rintro e w1 ⟨rfl, hb1⟩; have HBW := hide (below_step HB0.out hb1); have HBF := hide hb1; have c2 : w1.cell? ⟨g, 2, none⟩ = some (.slice R rs.length rc) := (HL0.out.below hb1).c2; clear hb1)
    | (go_at_call 11; refine (HQ.out _ HBF.out).mono ?_; rintro e w2 ⟨rfl, hw1⟩; have hw2 := hw1.symm; subst hw2))
  have HL1 := hide (HL0.out.below HBF.out)
  have HM1 := hide (HM0.out.below' HBF.out)
  clear HBF HF HQ HNC HL0 HM0 HB0 x0 x1 x2 x3 x4 x5 x6 c2 hW
  go_cut [8] from 31 to 47 (fun v8 wx => ∃ n : Nat, n ≤ rs.length ∧ v8 = .int .i64 n ∧ Hid (∀ r, rs[n]? = some r → r.l.all (befM m ·) = false) ∧ Hid (n = 0 ∨ ∃ q r, n = q + 1 ∧ rs[q]? = some r ∧ r.l.all (befM m ·) = true) ∧ Hid (Gr w1 wx))
  case first =>
    go_wp2_with fail
    go_loopw [8] (fun v8 wr => ∃ k : Nat, k ≤ rs.length ∧ v8 = .int .i64 k ∧ Hid (∀ r, rs[k]? = some r → r.l.all (befM m ·) = false) ∧ Hid (Gr w1 wr)) (fun v8 _ => (intOf v8).toNat)
    case atStart => exact ⟨rs.length, Nat.le_refl _, rfl, hide (fun r hr => by simp at hr), hide (Gr.refl w1)⟩
    case round =>
      obtain ⟨k, hk, rfl, HA, HG⟩ := hrel
      rcases Nat.eq_zero_or_pos k with h0 | h0
      · have HK0 := hide h0
        have g1 : decide ((0 : Int) < (k : Int)) = false := decide_eq_false (by omega)
        have g1n : decide (0 < k) = false := decide_eq_false (by omega)
        clear h0
        go_wp2_with fail
        go_quiet (fail)
        go_wp2_with fail
        go_meet
        exact ⟨k, hk, rfl, HA, hide (.inl HK0.out), hide (HG.out.drewN nq)⟩
      · obtain ⟨q, hkq⟩ : ∃ q, k = q + 1 := ⟨k - 1, by omega⟩
        have hq : q < rs.length := by omega
        have HKQ := hide hkq
        have HLr := hide (HL1.out.below HG.out.below)
        have HMr := hide (HM1.out.below' HG.out.below)
        obtain ⟨-, -, x, rfl⟩ := own_someR HL1.out.row (by omega)
        obtain ⟨⟨rx, rcp, rl⟩, hr⟩ : ∃ r, rs[q] = r := ⟨_, rfl⟩
        have HRQ : Hid (rs[q]? = some ⟨rx, rcp, rl⟩) := hide (by rw [List.getElem?_eq_getElem hq, hr])
        have hrm : (⟨rx, rcp, rl⟩ : Rg) ∈ rs := by rw [← hr]; exact List.getElem_mem hq
        have hrl : rl.length ≤ 16384 := (HZ3.out _ hrm).1
        have c2 := cg HLr.out.c2
        have qr := cg (show wr.cell? ⟨x, q, none⟩ = some (.slice (some ⟨rx, 0, none⟩) rl.length rcp) from (at_R0 HLr.out.row hq hr).1)
        have p0 := cg ((HMr.out.cell 0 : _ = some (Value.int .i64 m.f0.f0)))
        have p1 := cg ((HMr.out.cell 1 : _ = some (Value.int .i64 m.f0.f1)))
        have p2 := cg ((HMr.out.cell 2 : _ = some (Value.int .i64 m.f0.f2)))
        have p3 := cg ((HMr.out.cell 3 : _ = some (Value.int .i64 m.f1)))
        have p4 := cg ((HMr.out.cell 4 : _ = some (Value.int .i64 m.f2)))
        have p5 := cg ((HMr.out.cell 5 : _ = some (Value.int .i64 m.f3)))
        have p6 := cg ((HMr.out.cell 6 : _ = some (Value.bool m.f4)))
        have g1 : decide ((0 : Int) < (k : Int)) = true := decide_eq_true (by omega)
        have g1n : decide (0 < k) = true := decide_eq_true (by omega)
        have g3 : (0 : Int) < (k : Int) := by omega
        have g4 : (k : Int) - 1 = (q : Int) := by omega
        have g5 : IntKind.i64.wrap (q : Int) = (q : Int) := by rw [IntKind.wrap_i64]; omega
        have g6 : (q : Int) < (rs.length : Int) := by omega
        obtain ⟨v, hv⟩ : ∃ v, rl.all (befM m ·) = v := ⟨_, rfl⟩
        have HV := hide hv
        have hcall := grw_call (w := wr) (Z := fun W => Kd.C kM W (some ⟨rx, 0, none⟩) rl.length rl) (fun W hg => C_below (own_C (show OwnM wr 0 (.slice (some ⟨rx, 0, none⟩) rl.length rcp) rl from HLr.out.rung _ hrm)) hg.below) (fun W hW => above_call (some ⟨rx, 0, none⟩) rcp rl m v hv hW hrl)
        unfold cM c25 at hcall
        clear hkq hr hrm hrl hv
        cases v
        · go_wp2_with fail
          go_quiet_grown ((go_at_call 22; exact hcall _ _))
          clear c2 qr p0 p1 p2 p3 p4 p5 p6 hcall
          have HG2 := hide (HG.out.trans (Gr.of (w := wr) nq osq))
          generalize grow (wr.drewN nq) osq = w2 at HG2 ⊢
          go_wp2_with fail
          go_roundw
          case rel => exact ⟨q, by omega, by first | rfl | (congr 1; omega), hide (fun r hr => by
            have := HRQ.out.symm.trans hr
            injection this with this
            rw [← this]; exact HV.out), HG2⟩
          case measure => simp [intOf]; omega
        · go_wp2_with fail
          go_quiet_grown ((go_at_call 22; exact hcall _ _))
          clear c2 qr p0 p1 p2 p3 p4 p5 p6 hcall
          have HG2 := hide (HG.out.trans (Gr.of (w := wr) nq osq))
          generalize grow (wr.drewN nq) osq = w2 at HG2 ⊢
          go_wp2_with fail
          go_meet
          exact ⟨k, hk, rfl, HA, hide (.inr ⟨q, _, HKQ.out, HRQ.out, HV.out⟩), HG2⟩
  case rest =>
    obtain ⟨n, hn, rfl, HA, HP, HG⟩ := hcut
    have HL2 := hide (HL1.out.below HG.out.below)
    have HM2 := hide (HM1.out.below' HG.out.below)
    have c0 := cg HL2.out.c0
    have c1 := cg HL2.out.c1
    have c2 := cg HL2.out.c2
    have p0 := cg ((HM2.out.cell 0 : _ = some (Value.int .i64 m.f0.f0)))
    have p1 := cg ((HM2.out.cell 1 : _ = some (Value.int .i64 m.f0.f1)))
    have p2 := cg ((HM2.out.cell 2 : _ = some (Value.int .i64 m.f0.f2)))
    have p3 := cg ((HM2.out.cell 3 : _ = some (Value.int .i64 m.f1)))
    have p4 := cg ((HM2.out.cell 4 : _ = some (Value.int .i64 m.f2)))
    have p5 := cg ((HM2.out.cell 5 : _ = some (Value.int .i64 m.f3)))
    have p6 := cg ((HM2.out.cell 6 : _ = some (Value.bool m.f4)))
    have hn64 : (n : Int) ≤ (rs.length : Int) := by omega
    go_upto_region 12 with (fail)
    go_cut [64] from 65 to 94 (fun v64 wx => ∃ q : Bool, v64 = .bool q ∧ Hid (q = true ↔ (n = rs.length ∧ ((b.length : Int) < most ∨ ∃ z, b.getLast? = some z ∧ befM m z = true))) ∧ Hid (Gr w1 wx))
    case first =>
      by_cases hne : n = rs.length
      · subst hne
        by_cases hbm : (b.length : Int) < most
        · have HBM := hide hbm
          have e1 : decide ((b.length : Int) < most) = true := decide_eq_true hbm
          go_wp2_with fail
          refine wp_region_quiet_grown (by assumption) (by kernel_rfl) ?_
          repeat (go_big_quiet_step (fail))
          refine wpQuiet_nil ?_
          intro _ hw'
          obtain ⟨⟨nq, osq⟩, hw''⟩ := hw'
          subst hw''
          go_wp2_with fail
          go_meet
          exact ⟨true, rfl, hide ⟨fun _ => ⟨by first | rfl | trivial, .inl HBM.out⟩, fun _ => rfl⟩, hide (HG.out.trans (Gr.of (w := wc) nq osq))⟩
        · have HBM := hide hbm
          have e1 : decide ((b.length : Int) < most) = false := decide_eq_false hbm
          obtain ⟨v, hv⟩ : ∃ v : Bool, (b = [] → v = true) ∧ ∀ z, b.getLast? = some z → v = !befM m z := by
            cases hbl : b.getLast? with
            | none => exact ⟨true, ⟨fun _ => rfl, fun z hz => (by cases hz)⟩⟩
            | some z => exact ⟨!befM m z, ⟨fun e => (by rw [e] at hbl; cases hbl), fun z' hz => (by cases hz; rfl)⟩⟩
          have HV := hide hv
          have HBNE : Hid (b ≠ []) := hide (fun e => hbm (by rw [e]; simp; omega))
          have hcall := grw_call (w := wc) (Z := fun W => Kd.C kM W A b.length b) (fun W hg => C_below (own_C HL2.out.bot) hg.below) (fun W hW => behind_call A c b m v hv hW (by omega))
          unfold cM c25 at hcall
          clear hv
          cases v
          · go_wp2_with fail
            refine wp_region_quiet_grown (by assumption) (by kernel_rfl) ?_
            repeat (go_big_quiet_step ((go_at_call 23; with_reducible exact hcall _ _)))
            refine wpQuiet_nil ?_
            intro _ hw'
            obtain ⟨⟨nq, osq⟩, hw''⟩ := hw'
            subst hw''
            go_wp2_with fail
            go_meet
            refine ⟨true, rfl, hide ⟨fun _ => ⟨by first | rfl | trivial, .inr ?_⟩, fun _ => rfl⟩, hide (HG.out.trans (Gr.of (w := wc) nq osq))⟩
            cases hbl : b.getLast? with
            | none => exact absurd (List.getLast?_eq_none_iff.1 hbl) HBNE.out
            | some z => exact ⟨z, rfl, by have := HV.out.2 z hbl; cases hb : befM m z; rw [hb] at this; cases this; rfl⟩
          · go_wp2_with fail
            refine wp_region_quiet_grown (by assumption) (by kernel_rfl) ?_
            repeat (go_big_quiet_step ((go_at_call 23; with_reducible exact hcall _ _)))
            refine wpQuiet_nil ?_
            intro _ hw'
            obtain ⟨⟨nq, osq⟩, hw''⟩ := hw'
            subst hw''
            go_wp2_with fail
            go_meet
            refine ⟨false, rfl, hide ⟨fun e => (by cases e), fun e => ?_⟩, hide (HG.out.trans (Gr.of (w := wc) nq osq))⟩
            rcases e.2 with q | ⟨z, hz, hbz⟩
            · exact absurd q (by first | exact HBM.out | exact Int.not_lt.2 HBM.out)
            · have := HV.out.2 z hz
              rw [hbz] at this
              cases this
      · have HNE := hide hne
        have e1 : ((n : Int) == (rs.length : Int)) = false := beq_eq_false_iff_ne.2 (by omega)
        have e1n : (n == rs.length) = false := beq_eq_false_iff_ne.2 hne
        go_wp2_with fail
        refine wp_region_quiet_grown (by assumption) (by kernel_rfl) ?_
        repeat (go_big_quiet_step (fail))
        refine wpQuiet_nil ?_
        intro _ hw'
        obtain ⟨⟨nq, osq⟩, hw''⟩ := hw'
        subst hw''
        go_wp2_with fail
        go_meet
        exact ⟨false, rfl, hide ⟨fun e => (by cases e), fun e => absurd e.1 HNE.out⟩, hide (HG.out.trans (Gr.of (w := wc) nq osq))⟩
    case rest =>
      obtain ⟨q, rfl, HQQ, HG2⟩ := hcut
      have HL3 := hide (HL1.out.below HG2.out.below)
      have HM3 := hide (HM1.out.below' HG2.out.below)
      have HOW : Hid (Only w wc S) := hide (only_of_below (below_step HBW.out HG2.out.below) S)
      have HN3 : Hid (∀ x, wc.heap.size ≤ x → S x) := hide (fun x hx => HN.out x (by have := HOW.out.size; omega))
      have HLAST : Hid (n = rs.length → ∀ r, (rs.map Rg.l).getLast? = some r → ∀ y ∈ r, befM m y = true) := hide (fun e r hr y hy => by
        rcases HP.out with q0 | ⟨k, r', q1, q2, q3⟩
        · have : rs = [] := List.eq_nil_of_length_eq_zero (by omega)
          rw [this] at hr
          simp at hr
        · rw [List.getLast?_map, List.getLast?_eq_getElem?, show rs.length - 1 = k by omega, q2] at hr
          simp only [Option.map_some, Option.some.injEq] at hr
          rw [← hr] at hy
          exact List.all_eq_true.1 q3 y hy)
      clear c0 c1 c2 p0 p1 p2 p3 p4 p5 p6 HL2 HM2 HG HL1 HM1
      have p0 : wc.cell? ⟨gm, 0, none⟩ = some (.int .i64 m.f0.f0) := HM3.out.cell 0
      have p1 : wc.cell? ⟨gm, 1, none⟩ = some (.int .i64 m.f0.f1) := HM3.out.cell 1
      have p2 : wc.cell? ⟨gm, 2, none⟩ = some (.int .i64 m.f0.f2) := HM3.out.cell 2
      have p3 : wc.cell? ⟨gm, 3, none⟩ = some (.int .i64 m.f1) := HM3.out.cell 3
      have p4 : wc.cell? ⟨gm, 4, none⟩ = some (.int .i64 m.f2) := HM3.out.cell 4
      have p5 : wc.cell? ⟨gm, 5, none⟩ = some (.int .i64 m.f3) := HM3.out.cell 5
      have p6 : wc.cell? ⟨gm, 6, none⟩ = some (.bool m.f4) := HM3.out.cell 6
      cases q
      · have c2 : wc.cell? ⟨g, 2, none⟩ = some (.slice R rs.length rc) := HL3.out.c2
        have c2d : wc.drew.cell? ⟨g, 2, none⟩ = some (.slice R rs.length rc) := c2
        have HL4 := hide HL3.out.drew
        have HRN := hide z2
        by_cases hne : n = rs.length
        · have HNE := hide hne
          have HB : Hid (∃ z, b.getLast? = some z ∧ befM m z = false) := hide (by
            have hq : ¬ (n = rs.length ∧ ((b.length : Int) < most ∨ ∃ z, b.getLast? = some z ∧ befM m z = true)) := fun e => by have := HQQ.out.2 e; cases this
            cases hbl : b.getLast? with
            | none => exact absurd ⟨hne, .inl (by rw [List.getLast?_eq_none_iff.1 hbl]; simp; omega)⟩ hq
            | some z =>
              refine ⟨z, rfl, ?_⟩
              cases hb : befM m z
              · rfl
              · exact absurd ⟨hne, .inr ⟨z, hbl, hb⟩⟩ hq)
          have HINV : Hid (Inv b (rs.map Rg.l ++ [[m]]) (ins befM sl m)) := hide (by
            obtain ⟨z, hz, hbz⟩ := HB.out
            exact HI.out.fresh (HLAST.out hne) hz hbz HX.out HL.out)
          have e1 : ((n : Int) == (rs.length : Int)) = true := by rw [hne]; simp
          clear hne hn hn64
          go_upto_region 16 with (fail)
          have HO1 : Hid (OwnM (wc.alloc (.cells #[.int .i64 m.f0.f0, .int .i64 m.f0.f1, .int .i64 m.f0.f2, .int .i64 m.f1, .int .i64 m.f2, .int .i64 m.f3, .bool m.f4] 25)).drew wc.heap.size (.slice (some ⟨wc.heap.size, 0, none⟩) 1 1) [m]) := hide (own_one m)
          have HLA := hide (((HL3.out.alloc (.cells #[.int .i64 m.f0.f0, .int .i64 m.f0.f1, .int .i64 m.f0.f2, .int .i64 m.f1, .int .i64 m.f2, .int .i64 m.f3, .bool m.f4] 25)).alloc (.cells #[.slice (some ⟨wc.heap.size, 0, none⟩) 1 1] tG)).drew)
          have HBN : Hid (Blk ((wc.alloc (.cells #[.int .i64 m.f0.f0, .int .i64 m.f0.f1, .int .i64 m.f0.f2, .int .i64 m.f1, .int .i64 m.f2, .int .i64 m.f3, .bool m.f4] 25)).alloc (.cells #[.slice (some ⟨wc.heap.size, 0, none⟩) 1 1] tG)).drew (wc.heap.size + 1) tG (encR ⟨wc.heap.size, 1, [m]⟩).toArray) := hide (by
            have q := Blk.new (wc.alloc (.cells #[.int .i64 m.f0.f0, .int .i64 m.f0.f1, .int .i64 m.f0.f2, .int .i64 m.f1, .int .i64 m.f2, .int .i64 m.f3, .bool m.f4] 25)) tG #[.slice (some ⟨wc.heap.size, 0, none⟩) 1 1]
            rw [World.size_alloc] at q
            exact q.drew)
          have HBA : Hid (Below wc.heap.size wc ((wc.alloc (.cells #[.int .i64 m.f0.f0, .int .i64 m.f0.f1, .int .i64 m.f0.f2, .int .i64 m.f1, .int .i64 m.f2, .int .i64 m.f3, .bool m.f4] 25)).alloc (.cells #[.slice (some ⟨wc.heap.size, 0, none⟩) 1 1] tG)).drew) := hide (below_undrew ((((Below.refl wc.drew.heap.size wc.drew).alloc (Nat.le_refl _) (.cells #[.int .i64 m.f0.f0, .int .i64 m.f0.f1, .int .i64 m.f0.f2, .int .i64 m.f1, .int .i64 m.f2, .int .i64 m.f3, .bool m.f4] 25)).alloc (by simp) _)))
          have c2a : (wc.alloc (.cells #[.int .i64 m.f0.f0, .int .i64 m.f0.f1, .int .i64 m.f0.f2, .int .i64 m.f1, .int .i64 m.f2, .int .i64 m.f3, .bool m.f4] 25)).drew.cell? ⟨g, 2, none⟩ = some (.slice R rs.length rc) := (HL4.out.alloc _).c2
          have c2b : ((wc.alloc (.cells #[.int .i64 m.f0.f0, .int .i64 m.f0.f1, .int .i64 m.f0.f2, .int .i64 m.f1, .int .i64 m.f2, .int .i64 m.f3, .bool m.f4] 25)).alloc (.cells #[.slice (some ⟨wc.heap.size, 0, none⟩) 1 1] tG)).drew.cell? ⟨g, 2, none⟩ = some (.slice R rs.length rc) := HLA.out.c2
          go_region_law ((first
            | (refine step_append flatR rfl kR_open rfl (.tmp 114) (.tmp 117) 45 rfl (.slice none 0 0) 24 Try.underlying45 infoR2 rfl _ (by rfl) HLA.out.row _ _ _ [(⟨wc.heap.size, 1, [m]⟩ : Rg)] (by rfl) (C_one HBN.out flatR rfl kR_mk) (by omega) (by have := HRN.out; simp; omega) (Nat.zero_le _) ?_
               intro R2 m2 rc2 w5 hm2 ho2 hg2 hb2
               have hm2' : m2 = (rs ++ [(⟨wc.heap.size, 1, [m]⟩ : Rg)]).length := by rw [List.length_append]; exact hm2
               have HM5 := hide hm2'
               have HG5 : Hid (((wc.alloc (.cells #[.int .i64 m.f0.f0, .int .i64 m.f0.f1, .int .i64 m.f0.f2, .int .i64 m.f1, .int .i64 m.f2, .int .i64 m.f3, .bool m.f4] 25)).alloc (.cells #[.slice (some ⟨wc.heap.size, 0, none⟩) 1 1] tG)).drew.grownBy w5 (Value.slice R rs.length rc).ownBlock) := hide hg2
               have HB5 : Hid ((Value.slice R2 m2 rc2).ownBlock = (Value.slice R rs.length rc).ownBlock ∨ (Value.slice R2 m2 rc2).ownBlock = some ((wc.alloc (.cells #[.int .i64 m.f0.f0, .int .i64 m.f0.f1, .int .i64 m.f0.f2, .int .i64 m.f1, .int .i64 m.f2, .int .i64 m.f3, .bool m.f4] 25)).alloc (.cells #[.slice (some ⟨wc.heap.size, 0, none⟩) 1 1] tG)).drew.heap.size) := hide hb2
               have HO5 := hide ho2
               have HK5 := hide (HLA.out.blk.grown hg2 (fun e => HLA.out.rg e.symm))
               have j2 : w5.cell? ⟨g, 2, none⟩ = some (.slice R rs.length rc) := HK5.out.cell 2
               have f2 : w5.frozen? ⟨g, 2, none⟩ = false := HK5.out.frozen 2
               clear hm2 hm2' ho2 hg2 hb2)))
          all_goals (
            clear c2 c2d c2a c2b j2 f2 p0 p1 p2 p3 p4 p5 p6
            have hall : Hid (LAt (w5.setCell ⟨g, 2, none⟩ (.slice R2 m2 rc2)) S g A c b most R2 rc2 (rs ++ [(⟨wc.heap.size, 1, [m]⟩ : Rg)])) ∧ Hid (Only w (w5.setCell ⟨g, 2, none⟩ (.slice R2 m2 rc2)) S) := by
              have hm2 := HM5.out
              have hO6 := (Only.refl w5 (fun y => y = g)).setCell (p := ⟨g, 2, none⟩) (.inl rfl) (.slice R2 m2 rc2)
              have hT : Only wc w5 (fun y => (Value.slice R rs.length rc).ownBlock = some y) := (only_of_below HBA.out _).step (only_of_grown HG5.out (S := fun y => (Value.slice R rs.length rc).ownBlock = some y) (fun i e => .inl e)) (fun y e _ => e)
              have hrl : ∀ y, (Value.slice R rs.length rc).ownBlock = some y → y < wc.heap.size := fun y hy => (HL3.out.row.blk y hy).2
              have hxb : (Value.slice R rs.length rc).ownBlock ≠ some wc.heap.size := fun e => by
                have := hrl _ e
                omega
              have hgl := HL3.out.blk.lt
              have hON : Only wc (w5.setCell ⟨g, 2, none⟩ (.slice R2 m2 rc2)) (fun y => y = g ∨ (Value.slice R rs.length rc).ownBlock = some y) := (hT.mono (fun y e => .inr e)).step hO6 (fun y e _ => .inl e)
              have h1 : OwnM ((wc.alloc (.cells #[.int .i64 m.f0.f0, .int .i64 m.f0.f1, .int .i64 m.f0.f2, .int .i64 m.f1, .int .i64 m.f2, .int .i64 m.f3, .bool m.f4] 25)).alloc (.cells #[.slice (some ⟨wc.heap.size, 0, none⟩) 1 1] tG)).drew wc.heap.size (.slice (some ⟨wc.heap.size, 0, none⟩) 1 1) [m] := HO1.out.alloc (.cells #[.slice (some ⟨wc.heap.size, 0, none⟩) 1 1] tG)
              have hrd : OwnM (w5.setCell ⟨g, 2, none⟩ (.slice R2 m2 rc2)) 0 (.slice (some ⟨wc.heap.size, 0, none⟩) 1 1) [m] := (((h1.lower (Nat.zero_le _)).only (only_of_grown HG5.out (S := fun y => (Value.slice R rs.length rc).ownBlock = some y) (fun i e => .inl e)) (fun y hy e => by
                simp only [Value.ownBlock, Option.some.injEq] at hy
                subst hy
                exact hxb e)).only hO6 (fun y hy e => by
                simp only [Value.ownBlock, Option.some.injEq] at hy
                omega))
              have hnew : ∀ y, (Value.slice R2 m2 rc2).ownBlock = some y → (Value.slice R rs.length rc).ownBlock = some y ∨ wc.heap.size ≤ y := fun y hy => by
                rcases HB5.out with q | q
                · exact .inl (q.symm.trans hy)
                · have q2 := q.symm.trans hy
                  injection q2 with q2
                  refine .inr ?_
                  rw [← q2]
                  exact HBA.out.size
              subst hm2
              have hfin := HL3.out.addr (r := ⟨wc.heap.size, 1, [m]⟩) HN3.out hON (fun y e _ => e) (Blk.set_ HK5.out 2 _) (HO5.out.only hO6 (fun y hy e => by
                rcases hnew y hy with q | q
                · exact HL3.out.rg (e ▸ q)
                · omega)) hrd (Nat.le_refl _) hnew
              exact ⟨hide hfin, hide (HOW.out.step hON (fun y e hy => by
                rcases e with e | e
                · exact e ▸ HL3.out.sg
                · exact HL3.out.sr y e))⟩
            obtain ⟨a1, a2⟩ := hall
            go_wp2_with fail
            go_ret
            exact ⟨rfl, ⟨A, c, b, R2, rc2, _, a1.out, by simpa using HINV.out⟩, a2.out⟩)
        · have hlt : n < rs.length := by omega
          have e1 : ((n : Int) == (rs.length : Int)) = false := beq_eq_false_iff_ne.2 (by omega)
          have e1n : (n == rs.length) = false := beq_eq_false_iff_ne.2 hne
          obtain ⟨pre, r, post, hrs, hpl⟩ : ∃ pre r post, rs = pre ++ r :: post ∧ pre.length = n := ⟨rs.take n, rs[n], rs.drop (n + 1), list_at rs hlt, by rw [List.length_take]; omega⟩
          have hra : r.l.all (befM m ·) = false := HA.out r (by rw [hrs, ← hpl]; simp)
          have hrp : ∀ r', (pre.map Rg.l).getLast? = some r' → ∀ y ∈ r', befM m y = true := fun r' hr y hy => by
            rcases HP.out with q0 | ⟨k, r'', q1, q2, q3⟩
            · have : pre = [] := List.eq_nil_of_length_eq_zero (by omega)
              rw [this] at hr
              simp at hr
            · rw [List.getLast?_map, List.getLast?_eq_getElem?, show pre.length - 1 = k by omega] at hr
              rw [hrs, List.getElem?_append_left (by omega)] at q2
              rw [q2] at hr
              simp only [Option.map_some, Option.some.injEq] at hr
              rw [← hr] at hy
              exact List.all_eq_true.1 q3 y hy
          have HINV : Hid (Inv b (pre.map Rg.l ++ (r.l ++ [m]) :: post.map Rg.l) (ins befM sl m)) := hide (by
            have hi := HI.out
            rw [hrs, List.map_append, List.map_cons] at hi
            exact hi.add hra hrp HX.out HL.out)
          obtain ⟨n1, hn1⟩ : ∃ n1, rs.length = n1 := ⟨_, rfl⟩
          obtain ⟨-, -, x, rfl⟩ := own_someR HL3.out.row (by omega)
          have qr : wc.cell? ⟨x, n, none⟩ = some (.slice (some ⟨r.x, 0, none⟩) r.l.length r.c) := (at_R0 HL3.out.row hlt (by simp only [hrs, ← hpl]; simp)).1
          have hrm : r ∈ rs := by rw [hrs]; simp
          have hrl64 : r.l.length ≤ 16384 := (HZ3.out r hrm).1
          have HRL := hide hrl64
          have HRW := hide (HL3.out.rung r hrm)
          clear hra hrp HA HP HI HLAST
          rw [hn1] at c2 c2d e1 e1n hlt hr64 HRN ⊢
          subst hrs
          have HNN := hide hn1
          have HPN := hide hpl
          have HPK : Hid (∃ h : pre.length < (pre ++ r :: post).length, (pre ++ r :: post)[pre.length] = r) := hide ⟨by simp, by simp⟩
          obtain ⟨rx, rcp, rl⟩ := r
          have HRG : Hid (OwnM (wc.alloc (.cells #[.int .i64 m.f0.f0, .int .i64 m.f0.f1, .int .i64 m.f0.f2, .int .i64 m.f1, .int .i64 m.f2, .int .i64 m.f3, .bool m.f4] 25)).drew 0 (.slice (some ⟨rx, 0, none⟩) rl.length rcp) rl) := hide (HRW.out.alloc _)
          have qr2 : wc.cell? ⟨x, n, none⟩ = some (.slice (some ⟨rx, 0, none⟩) rl.length rcp) := qr
          have qrd : wc.drew.cell? ⟨x, n, none⟩ = some (.slice (some ⟨rx, 0, none⟩) rl.length rcp) := qr
          have hx1 : x < wc.heap.size := (HL3.out.row.blk x rfl).2
          have qra : (wc.alloc (.cells #[.int .i64 m.f0.f0, .int .i64 m.f0.f1, .int .i64 m.f0.f2, .int .i64 m.f1, .int .i64 m.f2, .int .i64 m.f3, .bool m.f4] 25)).drew.cell? ⟨x, n, none⟩ = some (.slice (some ⟨rx, 0, none⟩) rl.length rcp) := (((Only.refl wc (fun _ => False)).alloc (.cells #[.int .i64 m.f0.f0, .int .i64 m.f0.f1, .int .i64 m.f0.f2, .int .i64 m.f1, .int .i64 m.f2, .int .i64 m.f3, .bool m.f4] 25)).cell (p := ⟨x, n, none⟩) hx1 (fun e => e)).trans qr
          have HLA := hide ((HL3.out.alloc (.cells #[.int .i64 m.f0.f0, .int .i64 m.f0.f1, .int .i64 m.f0.f2, .int .i64 m.f1, .int .i64 m.f2, .int .i64 m.f3, .bool m.f4] 25)).drew)
          have c2a : (wc.alloc (.cells #[.int .i64 m.f0.f0, .int .i64 m.f0.f1, .int .i64 m.f0.f2, .int .i64 m.f1, .int .i64 m.f2, .int .i64 m.f3, .bool m.f4] 25)).drew.cell? ⟨g, 2, none⟩ = some (.slice (some ⟨x, 0, none⟩) n1 rc) := by rw [← HNN.out]; exact HLA.out.c2
          have HBM : Hid (Blk (wc.alloc (.cells #[.int .i64 m.f0.f0, .int .i64 m.f0.f1, .int .i64 m.f0.f2, .int .i64 m.f1, .int .i64 m.f2, .int .i64 m.f3, .bool m.f4] 25)).drew wc.heap.size 25 (cM m).toArray) := hide (Blk.new wc 25 (cM m).toArray).drew
          have hrl2 : rl.length ≤ 16384 := hrl64
          have k1 : (n : Int) < (n1 : Int) := by omega
          clear hn1 hpl hrm hrl64 qr hne hn hn64
          go_upto_region 11 with (fail)
          clear e1 e1n
          go_region_law ((first
            | (refine step_append flatM rfl k25_open rfl (.tmp 59) (.tmp 61) 62 rfl zM 56 Try.underlying62 infoM rfl _ (by rfl) HRG.out _ _ _ [m] (by rfl) (C_one HBM.out flatM rfl k25_mk) (by omega) (by have := HRL.out; simp; omega) (Nat.zero_le _) ?_
               intro A' m' c' w3 hm' ho hg hblk
               have HO := hide ho
               have HG3 : Hid ((wc.alloc (.cells #[.int .i64 m.f0.f0, .int .i64 m.f0.f1, .int .i64 m.f0.f2, .int .i64 m.f1, .int .i64 m.f2, .int .i64 m.f3, .bool m.f4] 25)).drew.grownBy w3 (some rx)) := hide hg
               have HBK : Hid ((Value.slice A' m' c').ownBlock = some rx ∨ (Value.slice A' m' c').ownBlock = some (wc.alloc (.cells #[.int .i64 m.f0.f0, .int .i64 m.f0.f1, .int .i64 m.f0.f2, .int .i64 m.f1, .int .i64 m.f2, .int .i64 m.f3, .bool m.f4] 25)).drew.heap.size) := hide hblk
               have HM5 := hide hm'
               have HRW5 := hide (HLA.out.row.only (only_of_grown hg (S := fun y => y = rx) (fun i e => .inl (by injection e with e; exact e.symm))) (fun y hy e => HLA.out.rx (r := (⟨rx, rcp, rl⟩ : Rg)) (by simp) (by rw [hy, e])))
               have HBL := hide (HLA.out.blk.grown hg (fun e => HLA.out.xg (r := (⟨rx, rcp, rl⟩ : Rg)) (by simp) (by injection e with e; exact e.symm)))
               have e2 : w3.cell? ⟨g, 2, none⟩ = some (.slice (some ⟨x, 0, none⟩) n1 rc) := by rw [← HNN.out]; exact HBL.out.cell 2
               obtain ⟨eq, ef⟩ := at_R0 HRW5.out HPK.out.1 HPK.out.2
               rw [HPN.out] at eq ef
               clear ho hg hblk hm')))
          all_goals (
            clear c2 c2d c2a e2 eq ef qr2 qrd qra p0 p1 p2 p3 p4 p5 p6
            have hnew : ∃ y, (Value.slice A' m' c').ownBlock = some y ∧ (y = rx ∨ wc.heap.size ≤ y) := by
              rcases HBK.out with q | q
              · exact ⟨rx, q, .inl rfl⟩
              · exact ⟨_, q, .inr (Nat.le_of_lt HBM.out.lt)⟩
            obtain ⟨y, hy1, hy2⟩ := hnew
            obtain ⟨-, -, rfl⟩ := own_block HO.out hy1
            have hall : Hid (LAt (w3.setCell ⟨x, n, none⟩ (.slice (some ⟨y, 0, none⟩) m' c')) S g A c b most (some ⟨x, 0, none⟩) rc (pre ++ (⟨y, c', rl ++ [m]⟩ : Rg) :: post)) ∧ Hid (Only w (w3.setCell ⟨x, n, none⟩ (.slice (some ⟨y, 0, none⟩) m' c')) S) := by
              have hm2 : m' = (rl ++ [m]).length := by rw [List.length_append]; exact HM5.out
              subst hm2
              obtain ⟨hp1, hp2⟩ := own_putR (r' := ⟨y, c', rl ++ [m]⟩) HRW5.out
              rw [HPN.out] at hp1 hp2
              have hyx : y ≠ x := fun e => by
                rcases hy2 with q | q
                · exact HL3.out.rx (r := (⟨rx, rcp, rl⟩ : Rg)) (by simp) (by rw [← q, e]; rfl)
                · omega
              have hON : Only wc (w3.setCell ⟨x, n, none⟩ (.slice (some ⟨y, 0, none⟩) (rl ++ [m]).length c')) (fun z => z = rx ∨ z = x) := ((((Only.refl wc (fun z => z = rx)).alloc (.cells #[.int .i64 m.f0.f0, .int .i64 m.f0.f1, .int .i64 m.f0.f2, .int .i64 m.f1, .int .i64 m.f2, .int .i64 m.f3, .bool m.f4] 25)).drew.step (only_of_grown HG3.out (S := fun z => z = rx) (fun i e => .inl (by injection e with e; exact e.symm))) (fun z e _ => e)).mono (fun z e => .inl e)).step hp2 (fun z e _ => .inr e)
              have hfin := HL3.out.setr (r' := ⟨y, c', rl ++ [m]⟩) HN3.out hON (fun z e hz => by
                rcases e with e | e
                · exact .inl e
                · exact .inr (by rw [e]; rfl)) hp1 (HO.out.only hp2 (fun z hz e => hyx (by simp only [Value.ownBlock, Option.some.injEq] at hz; exact hz.trans e))) hy2
              exact ⟨hide hfin, hide (HOW.out.step hON (fun z e hz => by
                rcases e with e | e
                · rw [e]; exact HL3.out.ss (⟨rx, rcp, rl⟩ : Rg) (by simp)
                · rw [e]; exact HL3.out.sr x rfl))⟩
            obtain ⟨a1, a2⟩ := hall
            go_wp2_with fail
            go_ret
            exact ⟨rfl, ⟨A, c, b, _, rc, _, a1.out, by simpa using HINV.out⟩, a2.out⟩)
      · have HE : Hid (n = rs.length) := hide (HQQ.out.1 rfl).1
        have HINV := hide (HI.out.bottom (HLAST.out HE.out) HX.out HL.out)
        go_upto_region 13 with (fail)
        go_still_tail 4, (by kernel_rfl)
        change wpList _ _ _ _ _ wc.drew
        have HL4 := hide HL3.out.drew
        have HOW4 := hide HOW.out.drew
        have HN4 : Hid (∀ x, wc.drew.heap.size ≤ x → S x) := hide HN3.out
        clear p0 p1 p2 p3 p4 p5 p6 HL3 HM3 HOW HN3
        generalize wc.drew = w4 at HL4 HOW4 HN4 ⊢
        have HINS := hide (insert_call HL4.out HN4.out HI.out.bot (by omega) m)
        unfold cM c25 at HINS
        go_upto_region 14 with (go_at_call 24; refine HINS.out.mono ?_; rintro e w5 ⟨rfl, hl5, hO5⟩; have HL5 := hide hl5; have HO5 := hide hO5; clear hl5 hO5)
        obtain ⟨A5, c5, h5⟩ := HL5.out
        have HSP := hide (spill_call h5 HINV.out (fun x hx => HN4.out x (by have := HO5.out.size; omega)) HMO.out)
        have HOW5 := hide (HOW4.out.step HO5.out (fun x e _ => e))
        clear h5 HL5 HINS HL4 HN4 HOW4 HO5
        go_wp2_with (go_at_call 25; refine HSP.out.mono ?_; rintro e w6 ⟨rfl, hl6, hO6⟩; have HL6 := hide hl6; have HO6 := hide hO6; clear hl6 hO6)
        go_ret
        exact ⟨rfl, HL6.out, HOW5.out.step HO6.out (fun x e _ => e)⟩
end Go.Proofs.Ytkhdghlgkljdgaa.LQ
