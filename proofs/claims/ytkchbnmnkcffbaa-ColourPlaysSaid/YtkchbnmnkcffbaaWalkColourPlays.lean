/- The walk of ColourPlays. -/
import Derived.Test.YtkchbnmnkcffbaaPlt
import Derived.Test.YtkchbnmnkcffbaaKindsColourPlays
import Derived.StillTailTactics
import Derived.Deep.RegionHeld3
import Derived.Deep.QuietTactic
import Derived.Deep.RegionLaw
import Derived.Deep.RegionWith
import Derived.BigQuiet
import Derived.Test.YtkchbnmnkcffbaaLex
namespace Go.Proofs.Ytkchbnmnkcffbaa.colourPlays
open Go.Proofs Go.RowKit Go.Deep Go.Proofs.Ytkchbnmnkcffbaa.Types Go.Proofs.Ytkchbnmnkcffbaa.Heap Go.Proofs.Ytkchbnmnkcffbaa.Row Go.Proofs.Ytkchbnmnkcffbaa.Colour Go.Proofs.YtkchbnmnkcffbaaW.PrintWords Go.Proofs.YtkchbnmnkcffbaaW.PrintLast Go.Proofs.YtkchbnmnkcffbaaW.PrintMore
set_option linter.unusedVariables false
set_option linter.unusedSimpArgs false
set_option maxRecDepth 100000 in
theorem bad (a0 : Int) (hno : a0 < 1 ∨ 16 < a0) (A1 : Option Addr) (c1 : Nat) (n1 : Nat) (w : World) :
    Calls Try.prog 6 #[.int .i64 a0, .slice A1 n1 c1] w fun e w' => e = .returned (.bool true) ∧ Below w.heap.size w w' := by
  go_enter Try.func6, Try.ntmps6
  go_wp2_with fail
  refine (newtoken_bad a0 hno _).mono ?_
  rintro e w1 ⟨rfl, rfl⟩
  go_wp2_with fail
  refine (rnewtoken_bad a0 hno _).mono ?_
  rintro e w1 ⟨rfl, rfl⟩
  go_wp2_with (go_at_call 14; refine (awake_call _).mono ?_; rintro e w5 ⟨rfl, hb5⟩)
  go_ret
  exact ⟨rfl, hb5⟩
set_option maxHeartbeats 16000000 in
set_option maxRecDepth 100000 in
theorem good (N : Nat) (hN1 : 1 ≤ N) (hN2 : N ≤ 16) (A1 : Option Addr) (c1 : Nat) (l1 : List S27) (y1 : l1.length * 32 ≤ 140737488351232) (w : World) (hr1 : Kd.C k27 w A1 l1.length l1) :
    Calls Try.prog 6 #[.int .i64 (N : Int), .slice A1 l1.length c1] w fun e w' => e = .returned (.bool true) ∧ Below w.heap.size w w' := by
  have HR := hide hr1
  have HY := hide y1
  have HN : Hid (1 ≤ N ∧ N ≤ 16) := hide ⟨hN1, hN2⟩
  have hz : ((N : Int) == 0) = false := by rw [beq_eq_false_iff_ne]; omega
  clear hr1 y1 hN1 hN2
  go_enter Try.func6, Try.ntmps6
  go_wp2_with fail
  refine (newtoken_ok (N : Int) (by have := HN.out; omega) (by have := HN.out; omega) _).mono ?_
  rintro e w1 ⟨rfl, hT1, hB1⟩
  have HK1 := hide hT1
  have HB1 := hide hB1
  have HQ1 : Hid (w.heap.size < w1.heap.size) := hide hT1.lt
  clear hT1 hB1
  obtain ⟨q, hq⟩ : ∃ q, w.heap.size = q := ⟨_, rfl⟩
  rw [hq] at HK1 HQ1 ⊢
  have HQ := hide hq
  clear hq
  go_wp2_with fail
  refine (rnewtoken_ok (N : Int) (by have := HN.out; omega) (by have := HN.out; omega) _).mono ?_
  rintro e w2 ⟨rfl, hT2, hb⟩
  have HV2 := hide hT2
  have HK2 := hide (Blk.below' HK1.out hb)
  have HB2 := hide (below_step HB1.out hb)
  have HF : Hid (q ≤ w1.heap.size) := hide (by have := HQ1.out; omega)
  clear hT2 hb HK1 HB1 HQ1
  obtain ⟨r, hr⟩ : ∃ r, w1.heap.size = r := ⟨_, rfl⟩
  rw [hr] at HV2 HF ⊢
  clear hr
  have HP2 : Hid (Pl w w2 q r N (.slice none 0 0) (.slice none 0 0) [] [] [] [] [] ⟨0, false, 0, NV⟩ ⟨0, false, 0, NV⟩) := hide ⟨TalsAt.nil _ _, RefsAt.nil _ _, HK2.out, HV2.out, HB2.out, by rw [HQ.out]; exact Nat.le_refl _, by rw [HQ.out]; exact HF.out, fun j p h => by simp at h, fun j p h => by simp at h, fun j p h => by simp at h⟩
  clear HV2 HK2 HB2 HF
  go_wp2_with fail
  go_loopw [9, 10, 11] (fun va vb iv wr => ∃ (i : Nat) (ps rs gs : List Nat), i ≤ N ∧ iv = .int .i64 i ∧ Hid (ps.length = i ∧ rs.length = i) ∧ Hid (Pl w wr q r N va vb ps rs gs (List.replicate i ts0) (List.replicate i ts0) ⟨0, false, 0, NV⟩ ⟨0, false, 0, NV⟩)) (fun _ _ iv _ => N - (intOf iv).toNat)
  case atStart => exact ⟨0, [], [], [], Nat.zero_le _, rfl, hide ⟨rfl, rfl⟩, HP2⟩
  case round =>
    obtain ⟨i, ps, rs, gs, hi, rfl, HL, HP⟩ := hrel
    clear HP2
    by_cases hlt : i < N
    · have b1 : (i : Int) < (N : Int) := by omega
      have hn16 : (N : Int) ≤ 16 := by have := HN.out; omega
      go_wp2_with fail
      refine (new_call _).mono ?_
      rintro e w3 ⟨rfl, hT, hb⟩
      have HB3 := hide hb
      have HT3 := hide hT
      have HO3 := hide (HP.out.tals.own.below hb)
      have HZ : Hid (w.heap.size ≤ wr.heap.size) := hide HP.out.bel.size
      clear hT hb
      obtain ⟨p, hp⟩ : ∃ p, wr.heap.size = p := ⟨_, rfl⟩
      rw [hp] at HT3 ⊢
      have HPp : Hid (wr.heap.size ≤ p) := hide (by rw [hp]; exact Nat.le_refl _)
      clear hp
      have HO4 := hide (HO3.out.alloc (.cells #[.pointer (some ⟨p, 0, none⟩)] 23))
      have HB4 : Hid (Below wr.heap.size wr (w3.alloc (.cells #[.pointer (some ⟨p, 0, none⟩)] 23))) := hide (HB3.out.alloc HB3.out.size _)
      have HT4 : Hid (TlS (w3.alloc (.cells #[.pointer (some ⟨p, 0, none⟩)] 23)) p ts0) := hide (Blk.alloc HT3.out _)
      have HC4 := hide (C_one (d := kP) (x := p) (Blk.new w3 23 (encP p).toArray) flatP rfl kP_mk)
      have HZ4 : Hid (w.heap.size ≤ (w3.alloc (.cells #[.pointer (some ⟨p, 0, none⟩)] 23)).heap.size) := hide (by have := HB4.out.size; have := HZ.out; omega)
      have HLp : Hid (ps.length ≤ 16) := hide (by have := HL.out.1; omega)
      clear HO3 HB3 HT3
      go_wp2_with (first
        | ((with_reducible refine gate_builtin (b := .append) (xs := #[.tmp 52, .tmp 54]) rfl ?_); at_builtin; refine wp_append flatP rfl kP_open rfl (.tmp 52) (.tmp 54) 41 rfl (.pointer none) 8 Try.underlying41 infoP rfl _ rfl HO4.out _ _ _ [p] rfl HC4.out (by omega) ?aL HZ4.out ?_; (case aL => have := HLp.out; simp only [List.length_singleton]; omega); rintro v' w5 ho hg))
      have HP5 := hide (HP.out.newK HPp.out HB4.out HT4.out ho hg)
      have HL5 : Hid ((ps ++ [p]).length = i + 1) := hide (by have := HL.out.1; simp [this])
      clear ho hg HP HB4 HT4 HO4 HC4 HZ4 HPp HZ
      obtain ⟨ps', hps'⟩ : ∃ l, ps ++ [p] = l := ⟨_, rfl⟩
      rw [hps'] at HP5 HL5
      clear hps' HLp
      refine (rnewt_call _).mono ?_
      rintro e w6 ⟨rfl, hT, hb⟩
      have HB6 := hide hb
      have HT6 := hide hT
      have HO6 := hide (HP5.out.refs.own.below hb)
      have HZ : Hid (w.heap.size ≤ w5.heap.size) := hide HP5.out.bel.size
      clear hT hb
      obtain ⟨g, hg⟩ : ∃ g, w5.heap.size = g := ⟨_, rfl⟩
      have HGp : Hid (w5.heap.size ≤ g + 1 ∧ w5.heap.size ≤ g) := hide (by omega)
      rw [hg] at HT6 ⊢
      clear hg
      obtain ⟨p2, hp2⟩ : ∃ p2, g + 1 = p2 := ⟨_, rfl⟩
      rw [hp2] at HT6 HGp ⊢
      clear hp2
      have HO7 := hide (HO6.out.alloc (.cells #[.pointer (some ⟨p2, 0, none⟩)] 58))
      have HB7 : Hid (Below w5.heap.size w5 (w6.alloc (.cells #[.pointer (some ⟨p2, 0, none⟩)] 58))) := hide (HB6.out.alloc HB6.out.size _)
      have HT7 : Hid (RT (w6.alloc (.cells #[.pointer (some ⟨p2, 0, none⟩)] 58)) p2 g ts0) := hide ⟨Blk.alloc HT6.out.blk _, Blk.alloc HT6.out.net _⟩
      have HC7 := hide (C_one (d := kP) (x := p2) (Blk.new w6 58 (encP p2).toArray) flatP rfl kP_mk)
      have HZ7 : Hid (w.heap.size ≤ (w6.alloc (.cells #[.pointer (some ⟨p2, 0, none⟩)] 58)).heap.size) := hide (by have := HB7.out.size; have := HZ.out; omega)
      have HLp : Hid (rs.length ≤ 16) := hide (by have := HL.out.2; omega)
      clear HO6 HB6 HT6
      go_wp2_with (first
        | ((with_reducible refine gate_builtin (b := .append) (xs := #[.tmp 56, .tmp 58]) rfl ?_); at_builtin; refine wp_append flatP rfl kP_open rfl (.tmp 56) (.tmp 58) 57 rfl (.pointer none) 8 Try.underlying57 infoQ rfl _ rfl HO7.out _ _ _ [p2] rfl HC7.out (by omega) ?aL HZ7.out ?_; (case aL => have := HLp.out; simp only [List.length_singleton]; omega); rintro v' w8 ho hg))
      have HP8 := hide (HP5.out.newR HGp.out.1 HGp.out.2 HB7.out HT7.out ho hg)
      have HL8 : Hid ((rs ++ [p2]).length = i + 1) := hide (by have := HL.out.2; simp [this])
      refine ⟨⟨i + 1, ps', rs ++ [p2], gs ++ [g], by omega, by go_num, hide ⟨HL5.out, HL8.out⟩, ?_⟩, by simp [intOf]; omega⟩
      rw [List.replicate_succ']
      exact HP8
    · have b1 : ¬ (i : Int) < (N : Int) := by omega
      obtain rfl : N = i := by omega
      clear hi hlt b1
      obtain ⟨hlp, hlr⟩ := HL.out
      obtain ⟨A2, c2, hv, _, hA⟩ := HP.out.tals.own.slice
      obtain ⟨ga, rfl⟩ := hA (by have := HN.out; omega)
      subst hv
      obtain ⟨A3, c3, hv, _, hA⟩ := HP.out.refs.own.slice
      obtain ⟨gb, rfl⟩ := hA (by have := HN.out; omega)
      subst hv
      rw [hlp, hlr] at HP
      rw [hlp, hlr]
      have HPS := hide (And.intro hlp hlr)
      clear hlp hlr HL
      have hn16 : (N : Int) ≤ 16 := by have := HN.out; omega
      have hn0 : (0 : Int) < N := by have := HN.out; omega
      go_wp2_with fail
      go_loopw [13] (fun iv wr => ∃ (k : Nat) (ss : List TS) (t : KS), k ≤ l1.length ∧ iv = .int .i64 k ∧ Hid (∀ (j : Nat) s, ss[j]? = some s → OkS s) ∧ Hid (t.m ≤ NV ∧ 0 ≤ t.a ∧ t.a < N) ∧ Hid (Pl w wr q r N (.slice (some ⟨ga, 0, none⟩) N c2) (.slice (some ⟨gb, 0, none⟩) N c3) ps rs gs ss ss t t)) (fun iv _ => l1.length - (intOf iv).toNat)
      case atStart => exact ⟨0, _, _, Nat.zero_le _, rfl, hide (fun j s h => by rw [List.getElem?_replicate] at h; split at h <;> simp at h; subst h; exact ⟨.inl rfl, Int.le_refl _⟩), hide ⟨Int.le_refl _, Int.le_refl _, hn0⟩, HP⟩
      case round =>
        obtain ⟨k, ss, t, hk, rfl, HO, HT, HP⟩ := hrel
        have HHk := hide hk
        by_cases hlt : k < l1.length
        · obtain ⟨ad, rfl, q0, q1, q2, q3⟩ := at_S27 (Kd.C_below HR.out HP.out.bel) hlt
          have b1 : (k : Int) < (l1.length : Int) := by omega
          have hl63 : (l1.length : Int) ≤ 4398046511104 := by have := HY.out; omega
          obtain ⟨⟨o0, o1, o2, o3⟩, hx⟩ : ∃ x, l1[k] = x := ⟨_, rfl⟩
          rw [hx] at q0 q1 q2 q3
          clear hx
          simp only at q0 q1 q2 q3
          have HP3 := hide (HP.out.alloc (.cells #[.int .i64 o0, .int .i64 o1, .int .i64 o2, .int .i64 o3] 27))
          have HO3 := hide (Blk.new wr 27 #[.int .i64 o0, .int .i64 o1, .int .i64 o2, .int .i64 o3])
          clear HP
          obtain ⟨w3, hw3⟩ : ∃ w3, wr.alloc (.cells #[.int .i64 o0, .int .i64 o1, .int .i64 o2, .int .i64 o3] 27) = w3 := ⟨_, rfl⟩
          rw [hw3] at HP3 HO3
          obtain ⟨go, hgo⟩ : ∃ go, wr.heap.size = go := ⟨_, rfl⟩
          rw [hgo] at HO3
          have x0 : w3.cell? ⟨go, 0, none⟩ = some (.int .i64 o0) := HO3.out.cell 0
          have x1 : w3.cell? ⟨go, 1, none⟩ = some (.int .i64 o1) := HO3.out.cell 1
          have x2 : w3.cell? ⟨go, 2, none⟩ = some (.int .i64 o2) := HO3.out.cell 2
          have x3 : w3.cell? ⟨go, 3, none⟩ = some (.int .i64 o3) := HO3.out.cell 3
          have y0 : w3.drew.cell? ⟨go, 0, none⟩ = some (.int .i64 o0) := HO3.out.cell 0
          have y1 : w3.drew.cell? ⟨go, 1, none⟩ = some (.int .i64 o1) := HO3.out.cell 1
          have y2 : w3.drew.cell? ⟨go, 2, none⟩ = some (.int .i64 o2) := HO3.out.cell 2
          have y3 : w3.drew.cell? ⟨go, 3, none⟩ = some (.int .i64 o3) := HO3.out.cell 3
          obtain ⟨X, hX, hXs⟩ := idx HN.out.1 HN.out.2 o1
          have hXn : (X : Int) < (N : Int) := by omega
          obtain ⟨p, hp⟩ : ∃ p, ps[X]? = some p := ⟨_, List.getElem?_eq_getElem (by have := HPS.out.1; omega)⟩
          obtain ⟨p2, hp2⟩ : ∃ p2, rs[X]? = some p2 := ⟨_, List.getElem?_eq_getElem (by have := HPS.out.2; omega)⟩
          obtain ⟨g, hg⟩ := HP3.out.refs.gx hp2
          obtain ⟨s, hs, _⟩ := HP3.out.tals.ex hp
          obtain ⟨ca, cb⟩ := HP3.out.rows HPS.out hp hp2
          have cad : w3.drew.cell? ⟨ga, X, none⟩ = some (.pointer (some ⟨p, 0, none⟩)) := ca
          have cbd : w3.drew.cell? ⟨gb, X, none⟩ = some (.pointer (some ⟨p2, 0, none⟩)) := cb
          have Hp := hide hp
          have Hp2 := hide hp2
          have Hg := hide hg
          have Hs := hide hs
          have HOs : Hid (OkS s) := hide (HO.out X s hs)
          clear hp hp2 hg hs
          by_cases h0 : o0 = 0
          · subst h0
            rcases hXs with ⟨hm, hXs⟩ | hXs
            all_goals (as_aux_lemma =>
              go_wp2_with fail
              have HSk := hide (fun W (hW : TlS W p s) => sent_k W p s o3 HOs.out hW)
              have HSr := hide (fun W (hW : RT W p2 g s) => sent_r W p2 g s o3 HOs.out hW)
              go_region_held3 (fun w' => w'.cell? ⟨ga, X, none⟩ = some (.pointer (some ⟨p, 0, none⟩)) ∧ w'.cell? ⟨gb, X, none⟩ = some (.pointer (some ⟨p2, 0, none⟩)) ∧ w'.cell? ⟨go, 3, none⟩ = some (.int .i64 o3)) (first | exact ⟨by assumption, by assumption, by assumption⟩ | go_keep)
                (first
                  | (go_at_call 8; refine (HSk.out _ (HP3.out.drew.tals.at_ _ _ _ Hp.out Hs.out)).mono ?_; rintro e w4 ⟨rfl, hT, hO⟩; have HP4 := hide (HP3.out.drew.stepK1 Hp.out hO hT); have HO4 : Hid (Blk w4 go 27 #[.int .i64 0, .int .i64 o1, .int .i64 o2, .int .i64 o3]) := hide (HP3.out.drew.farK Hp.out (hO.mono (fun b e => .inr e)) HO3.out (by decide) (by decide)); clear hT hO; have d1 := (HP4.out.rows HPS.out Hp.out Hp2.out).1; have d2 := (HP4.out.rows HPS.out Hp.out Hp2.out).2; have d3 : w4.cell? ⟨go, 3, none⟩ = some (.int .i64 o3) := HO4.out.cell 3)
                  | (go_at_call 23; refine (HSr.out _ (HP4.out.refs.at_ _ _ _ _ Hp2.out Hg.out Hs.out)).mono ?_; rintro e w5 ⟨rfl, hT, hO⟩; have HP5 := hide (HP4.out.stepR1 Hp2.out Hg.out hO hT); have HO5 : Hid (Blk w5 go 27 #[.int .i64 0, .int .i64 o1, .int .i64 o2, .int .i64 o3]) := hide (HP4.out.farR Hp2.out Hg.out (hO.mono (fun b e => .inr e)) HO4.out (by decide) (by decide) (by decide)); clear hT hO; have d1 := (HP5.out.rows HPS.out Hp.out Hp2.out).1; have d2 := (HP5.out.rows HPS.out Hp.out Hp2.out).2; have d3 : w5.cell? ⟨go, 3, none⟩ = some (.int .i64 o3) := HO5.out.cell 3))
              obtain ⟨s2, hs2⟩ : ∃ s2, sentS s o3 = s2 := ⟨_, rfl⟩
              have HOs2 : Hid (OkS s2) := hide (hs2 ▸ HOs.out.sent o3)
              rw [hs2] at HP5
              have Hs2 : Hid ((ss.set X s2)[X]? = some s2) := hide (List.getElem?_set_self (List.getElem?_eq_some_iff.1 Hs.out).1)
              have HO2 : Hid (∀ (j : Nat) s, (ss.set X s2)[j]? = some s → OkS s) := hide (okS_set HO.out HOs2.out)
              obtain ⟨ss2, hss2⟩ : ∃ ss2, ss.set X s2 = ss2 := ⟨_, rfl⟩
              rw [hss2] at HP5 Hs2 HO2
              clear hs2 hss2 HSk HSr
              clear d1 d2 d3 HP3 HO3 HP4 HO4 HO5 HO Hs HOs x0 x1 x2 x3 y0 y1 y2 y3 ca cb cad cbd
              go_wp2_with fail
              obtain ⟨e1, e2⟩ := HP5.out.rows HPS.out Hp.out Hp2.out
              obtain ⟨f0, f1, f2, f3, f4⟩ := (HP5.out.refs.at_ _ _ _ _ Hp2.out Hg.out Hs2.out).all
              obtain ⟨g0, g1, g2, g3, g4⟩ := HP5.out.rk.all
              have HTp := hide (HP5.out.tals.at_ _ _ _ Hp.out Hs2.out)
              have HTk := hide HP5.out.tk
              have Hc1 := hide (fun nq => Calls.quiet_of_same (n := nq) (colour_call (w5.drewN nq) p _ _ _ _ HTp.out))
              have Hc2 := hide (fun nq => Calls.quiet_of_same (n := nq) (red_call (w5.drewN nq) p _ _ _ _ HTp.out))
              have Hc3 := hide (fun nq => Calls.quiet_of_same (n := nq) (net0_call (w5.drewN nq) p _ _ _ _ HTp.out))
              have Hc4 := hide (fun nq => Calls.quiet_of_same (n := nq) (net1_call (w5.drewN nq) p _ _ _ _ HTp.out))
              have Hc5 := hide (fun nq => Calls.quiet_of_same (n := nq) (net2_call (w5.drewN nq) p _ _ _ _ HTp.out))
              have Hc6 := hide (fun nq => Calls.quiet_of_same (n := nq) (at_call (w5.drewN nq) q N _ _ _ _ (by omega) HTk.out))
              have Hc7 := hide (fun nq => Calls.quiet_of_same (n := nq) (counting_call (w5.drewN nq) q N _ _ _ _ (by omega) HTk.out))
              simp only [List.append_eq, List.cons_append, List.nil_append]
              refine wp_region_quiet_lit (by kernel_rfl) (Lex.lexB_of _ (by kernel_rfl) (by kernel_rfl)) ?_
              repeat (go_big_quiet_step ((first
                  | (go_at_call 11; exact Hc1.out _)
                  | (go_at_call 13; exact Hc2.out _)
                  | (go_at_call 12; first | with_reducible exact Hc3.out _ | with_reducible exact Hc4.out _ | with_reducible exact Hc5.out _)
                  | (go_at_call 18; exact Hc6.out _)
                  | (go_at_call 17; exact Hc7.out _))))
              refine wpQuiet_nil ?_
              intro _ hw'
              obtain ⟨nq, hw''⟩ := hw'
              subst hw''
              go_wp2_with fail
              go_roundw
              case rel => exact ⟨k + 1, ss2, t, by omega, by go_num, HO2, HT, hide (HP5.out.below (below_drewN (Below.refl _ _) nq))⟩
              case measure => simp [intOf]; omega)
          · by_cases h1 : o0 = 1
            · subst h1
              clear h0
              rcases hXs with ⟨hm, hXs⟩ | hXs
              all_goals (as_aux_lemma =>
                go_wp2_with fail
                have HSk := hide (fun W (hW : TlS W p s) => got_k W p s o2 hW)
                have HSr := hide (fun W (hW : RT W p2 g s) => got_r W p2 g s o2 hW)
                go_region_held3 (fun w' => w'.cell? ⟨ga, X, none⟩ = some (.pointer (some ⟨p, 0, none⟩)) ∧ w'.cell? ⟨gb, X, none⟩ = some (.pointer (some ⟨p2, 0, none⟩)) ∧ w'.cell? ⟨go, 2, none⟩ = some (.int .i64 o2)) (first | exact ⟨by assumption, by assumption, by assumption⟩ | go_keep)
                  (first
                    | (go_at_call 9; refine (HSk.out _ (HP3.out.drew.tals.at_ _ _ _ Hp.out Hs.out)).mono ?_; rintro e w4 ⟨rfl, hT, hO⟩; have HP4 := hide (HP3.out.drew.stepK1 Hp.out hO hT); have HO4 : Hid (Blk w4 go 27 #[.int .i64 1, .int .i64 o1, .int .i64 o2, .int .i64 o3]) := hide (HP3.out.drew.farK Hp.out (hO.mono (fun b e => .inr e)) HO3.out (by decide) (by decide)); clear hT hO; have d1 := (HP4.out.rows HPS.out Hp.out Hp2.out).1; have d2 := (HP4.out.rows HPS.out Hp.out Hp2.out).2; have d3 : w4.cell? ⟨go, 2, none⟩ = some (.int .i64 o2) := HO4.out.cell 2)
                    | (go_at_call 24; refine (HSr.out _ (HP4.out.refs.at_ _ _ _ _ Hp2.out Hg.out Hs.out)).mono ?_; rintro e w5 ⟨rfl, hT, hO⟩; have HP5 := hide (HP4.out.stepR1 Hp2.out Hg.out hO hT); have HO5 : Hid (Blk w5 go 27 #[.int .i64 1, .int .i64 o1, .int .i64 o2, .int .i64 o3]) := hide (HP4.out.farR Hp2.out Hg.out (hO.mono (fun b e => .inr e)) HO4.out (by decide) (by decide) (by decide)); clear hT hO; have d1 := (HP5.out.rows HPS.out Hp.out Hp2.out).1; have d2 := (HP5.out.rows HPS.out Hp.out Hp2.out).2; have d3 : w5.cell? ⟨go, 2, none⟩ = some (.int .i64 o2) := HO5.out.cell 2))
                obtain ⟨s2, hs2⟩ : ∃ s2, gotS s o2 = s2 := ⟨_, rfl⟩
                have HOs2 : Hid (OkS s2) := hide (hs2 ▸ HOs.out.got o2)
                rw [hs2] at HP5
                have Hs2 : Hid ((ss.set X s2)[X]? = some s2) := hide (List.getElem?_set_self (List.getElem?_eq_some_iff.1 Hs.out).1)
                have HO2 : Hid (∀ (j : Nat) s, (ss.set X s2)[j]? = some s → OkS s) := hide (okS_set HO.out HOs2.out)
                obtain ⟨ss2, hss2⟩ : ∃ ss2, ss.set X s2 = ss2 := ⟨_, rfl⟩
                rw [hss2] at HP5 Hs2 HO2
                clear hs2 hss2 HSk HSr
                clear d1 d2 d3 HP3 HO3 HP4 HO4 HO5 HO Hs HOs x0 x1 x2 x3 y0 y1 y2 y3 ca cb cad cbd
                go_wp2_with fail
                obtain ⟨e1, e2⟩ := HP5.out.rows HPS.out Hp.out Hp2.out
                obtain ⟨f0, f1, f2, f3, f4⟩ := (HP5.out.refs.at_ _ _ _ _ Hp2.out Hg.out Hs2.out).all
                obtain ⟨g0, g1, g2, g3, g4⟩ := HP5.out.rk.all
                have HTp := hide (HP5.out.tals.at_ _ _ _ Hp.out Hs2.out)
                have HTk := hide HP5.out.tk
                have Hc1 := hide (fun nq => Calls.quiet_of_same (n := nq) (colour_call (w5.drewN nq) p _ _ _ _ HTp.out))
                have Hc2 := hide (fun nq => Calls.quiet_of_same (n := nq) (red_call (w5.drewN nq) p _ _ _ _ HTp.out))
                have Hc3 := hide (fun nq => Calls.quiet_of_same (n := nq) (net0_call (w5.drewN nq) p _ _ _ _ HTp.out))
                have Hc4 := hide (fun nq => Calls.quiet_of_same (n := nq) (net1_call (w5.drewN nq) p _ _ _ _ HTp.out))
                have Hc5 := hide (fun nq => Calls.quiet_of_same (n := nq) (net2_call (w5.drewN nq) p _ _ _ _ HTp.out))
                have Hc6 := hide (fun nq => Calls.quiet_of_same (n := nq) (at_call (w5.drewN nq) q N _ _ _ _ (by omega) HTk.out))
                have Hc7 := hide (fun nq => Calls.quiet_of_same (n := nq) (counting_call (w5.drewN nq) q N _ _ _ _ (by omega) HTk.out))
                simp only [List.append_eq, List.cons_append, List.nil_append]
                refine wp_region_quiet_lit (by kernel_rfl) (Lex.lexB_of _ (by kernel_rfl) (by kernel_rfl)) ?_
                repeat (go_big_quiet_step ((first
                    | (go_at_call 11; exact Hc1.out _)
                    | (go_at_call 13; exact Hc2.out _)
                    | (go_at_call 12; first | with_reducible exact Hc3.out _ | with_reducible exact Hc4.out _ | with_reducible exact Hc5.out _)
                    | (go_at_call 18; exact Hc6.out _)
                    | (go_at_call 17; exact Hc7.out _))))
                refine wpQuiet_nil ?_
                intro _ hw'
                obtain ⟨nq, hw''⟩ := hw'
                subst hw''
                go_wp2_with fail
                go_roundw
                case rel => exact ⟨k + 1, ss2, t, by omega, by go_num, HO2, HT, hide (HP5.out.below (below_drewN (Below.refl _ _) nq))⟩
                case measure => simp [intOf]; omega)
            · by_cases h2 : o0 = 2
              · subst h2
                clear h0 h1
                rcases hXs with ⟨hm, hXs⟩ | hXs
                all_goals (as_aux_lemma =>
                  go_wp2_with fail
                  refine (rflip_call _ p2 g s HOs.out.1 (HP3.out.refs.at_ _ _ _ _ Hp2.out Hg.out Hs.out)).mono ?_
                  rintro e w4 ⟨rfl, hT, hO⟩
                  have HP4 := hide (HP3.out.stepR1 Hp2.out Hg.out hO hT)
                  clear hT hO x0 x1 x2 x3 y0 y1 y2 y3 ca cb cad cbd
                  have d1 := (HP4.out.rows HPS.out Hp.out Hp2.out).1
                  go_wp2_with fail
                  refine (flip_k _ p s HOs.out (HP4.out.tals.at_ _ _ _ Hp.out Hs.out)).mono ?_
                  rintro e w5 ⟨rfl, hT, hO⟩
                  have HP5 := hide (HP4.out.stepK1 Hp.out hO hT)
                  clear hT hO d1
                  obtain ⟨s2, hs2⟩ : ∃ s2, flipS s = s2 := ⟨_, rfl⟩
                  have HOs2 : Hid (OkS s2) := hide (hs2 ▸ HOs.out.flip)
                  rw [hs2] at HP5
                  have Hs2 : Hid ((ss.set X s2)[X]? = some s2) := hide (List.getElem?_set_self (List.getElem?_eq_some_iff.1 Hs.out).1)
                  have HO2 : Hid (∀ (j : Nat) s, (ss.set X s2)[j]? = some s → OkS s) := hide (okS_set HO.out HOs2.out)
                  obtain ⟨ss2, hss2⟩ : ∃ ss2, ss.set X s2 = ss2 := ⟨_, rfl⟩
                  rw [hss2] at HP5 Hs2 HO2
                  clear hs2 hss2 HP3 HO3 HP4 HO Hs HOs
                  go_wp2_with fail
                  obtain ⟨e1, e2⟩ := HP5.out.rows HPS.out Hp.out Hp2.out
                  obtain ⟨f0, f1, f2, f3, f4⟩ := (HP5.out.refs.at_ _ _ _ _ Hp2.out Hg.out Hs2.out).all
                  obtain ⟨g0, g1, g2, g3, g4⟩ := HP5.out.rk.all
                  have HTp := hide (HP5.out.tals.at_ _ _ _ Hp.out Hs2.out)
                  have HTk := hide HP5.out.tk
                  have Hc1 := hide (fun nq => Calls.quiet_of_same (n := nq) (colour_call (w5.drewN nq) p _ _ _ _ HTp.out))
                  have Hc2 := hide (fun nq => Calls.quiet_of_same (n := nq) (red_call (w5.drewN nq) p _ _ _ _ HTp.out))
                  have Hc3 := hide (fun nq => Calls.quiet_of_same (n := nq) (net0_call (w5.drewN nq) p _ _ _ _ HTp.out))
                  have Hc4 := hide (fun nq => Calls.quiet_of_same (n := nq) (net1_call (w5.drewN nq) p _ _ _ _ HTp.out))
                  have Hc5 := hide (fun nq => Calls.quiet_of_same (n := nq) (net2_call (w5.drewN nq) p _ _ _ _ HTp.out))
                  have Hc6 := hide (fun nq => Calls.quiet_of_same (n := nq) (at_call (w5.drewN nq) q N _ _ _ _ (by omega) HTk.out))
                  have Hc7 := hide (fun nq => Calls.quiet_of_same (n := nq) (counting_call (w5.drewN nq) q N _ _ _ _ (by omega) HTk.out))
                  simp only [List.append_eq, List.cons_append, List.nil_append]
                  refine wp_region_quiet_lit (by kernel_rfl) (Lex.lexB_of _ (by kernel_rfl) (by kernel_rfl)) ?_
                  repeat (go_big_quiet_step ((first
                      | (go_at_call 11; exact Hc1.out _)
                      | (go_at_call 13; exact Hc2.out _)
                      | (go_at_call 12; first | with_reducible exact Hc3.out _ | with_reducible exact Hc4.out _ | with_reducible exact Hc5.out _)
                      | (go_at_call 18; exact Hc6.out _)
                      | (go_at_call 17; exact Hc7.out _))))
                  refine wpQuiet_nil ?_
                  intro _ hw'
                  obtain ⟨nq, hw''⟩ := hw'
                  subst hw''
                  go_wp2_with fail
                  go_roundw
                  case rel => exact ⟨k + 1, ss2, t, by omega, by go_num, HO2, HT, hide (HP5.out.below (below_drewN (Below.refl _ _) nq))⟩
                  case measure => simp [intOf]; omega)
              · have hb0 : (o0 == 0) = false := by simpa using h0
                have hb1 : (o0 == 1) = false := by simpa using h1
                have hb2 : (o0 == 2) = false := by simpa using h2
                clear h0 h1 h2
                rcases hXs with ⟨hm, hXs⟩ | hXs
                all_goals (as_aux_lemma =>
                  obtain ⟨ta, tc, tu, tm⟩ := t
                  obtain ⟨Y, hY⟩ : ∃ Y : Nat, ta = (Y : Int) := ⟨ta.toNat, by have := HT.out.2.1; simp only at this; omega⟩
                  subst hY
                  have hYn : (Y : Int) < (N : Int) := HT.out.2.2
                  go_wp2_with fail
                  refine (at_call _ q N _ _ _ _ (by have := HN.out; omega) HP3.out.tk).mono ?_
                  rintro e w4 ⟨rfl, hw4⟩
                  subst hw4
                  clear Hp Hp2 Hg Hs HOs ca cb cad cbd hXn
                  obtain ⟨p, hp⟩ : ∃ p, ps[Y]? = some p := ⟨_, List.getElem?_eq_getElem (by have := HPS.out.1; omega)⟩
                  obtain ⟨p2, hp2⟩ : ∃ p2, rs[Y]? = some p2 := ⟨_, List.getElem?_eq_getElem (by have := HPS.out.2; omega)⟩
                  obtain ⟨g, hg⟩ := HP3.out.refs.gx hp2
                  obtain ⟨s, hs, _⟩ := HP3.out.tals.ex hp
                  obtain ⟨ca, cb⟩ := HP3.out.rows HPS.out hp hp2
                  have cad : w4.drew.cell? ⟨ga, Y, none⟩ = some (.pointer (some ⟨p, 0, none⟩)) := ca
                  have Hp := hide hp
                  have Hp2 := hide hp2
                  have Hg := hide hg
                  have Hs := hide hs
                  have HOs : Hid (OkS s) := hide (HO.out Y s hs)
                  clear hp hp2 hg hs
                  have r1 : w4.cell? ⟨r, 1, none⟩ = some (.int .i64 (Y : Int)) := HP3.out.rk.all.2.1
                  obtain ⟨a2, cn2, u2, m2, s2, told, over, hOs2, hm2, ha2, hK, hR⟩ := visit_both N Y tu tm o3 tc s (by have := HN.out; omega) (by have := HN.out; omega) HT.out.2 HT.out.1 HOs.out
                  have HVk := hide hK
                  have HVr := hide hR
                  have HOs2 := hide hOs2
                  have HT2 : Hid (m2 ≤ NV ∧ 0 ≤ a2 ∧ a2 < N) := hide ⟨hm2, ha2⟩
                  clear hK hR hOs2 hm2 ha2
                  go_wp2_with fail
                  clear r1 cb
                  go_region_held3 (fun w' => w'.cell? ⟨ga, Y, none⟩ = some (.pointer (some ⟨p, 0, none⟩)) ∧ w'.cell? ⟨go, 3, none⟩ = some (.int .i64 o3)) (first | exact ⟨by assumption, by assumption⟩ | go_keep)
                    (first
                      | (go_at_call 16; refine (HVk.out _ _ _ (by first | exact HP3.out.tk | exact HP3.out.drew.tk) (by first | exact HP3.out.tals.at_ _ _ _ Hp.out Hs.out | exact HP3.out.drew.tals.at_ _ _ _ Hp.out Hs.out)).mono ?_; rintro e w6 ⟨rfl, hK, hT, hO⟩; have HP4 := hide (HP3.out.drew.stepK (k2 := ⟨a2, cn2, u2, m2⟩) Hp.out hO hT hK); have HO4 : Hid (Blk w6 go 27 #[.int .i64 o0, .int .i64 o1, .int .i64 o2, .int .i64 o3]) := hide (HP3.out.drew.farK Hp.out hO HO3.out (by decide) (by decide)); clear hK hT hO; have d1 := (HP4.out.rows HPS.out Hp.out Hp2.out).1; have d3 : w6.cell? ⟨go, 3, none⟩ = some (.int .i64 o3) := HO4.out.cell 3))
                  clear d1 d3 cad x0 x1 x2 x3 y0 y1 y2 y3 ca
                  have cb : w6.cell? ⟨gb, Y, none⟩ = some (.pointer (some ⟨p2, 0, none⟩)) := (HP4.out.rows HPS.out Hp.out Hp2.out).2
                  have cbd : w6.drew.cell? ⟨gb, Y, none⟩ = some (.pointer (some ⟨p2, 0, none⟩)) := cb
                  have x3 : w6.cell? ⟨go, 3, none⟩ = some (.int .i64 o3) := HO4.out.cell 3
                  have y3 : w6.drew.cell? ⟨go, 3, none⟩ = some (.int .i64 o3) := HO4.out.cell 3
                  go_wp2_with fail
                  go_region_held3 (fun w' => w'.cell? ⟨gb, Y, none⟩ = some (.pointer (some ⟨p2, 0, none⟩)) ∧ w'.cell? ⟨go, 3, none⟩ = some (.int .i64 o3)) (first | exact ⟨by assumption, by assumption⟩ | go_keep)
                    (first
                      | (go_at_call 26; refine (HVr.out _ _ _ _ (by first | exact HP4.out.rk | exact HP4.out.drew.rk) (by first | exact HP4.out.refs.at_ _ _ _ _ Hp2.out Hg.out Hs.out | exact HP4.out.drew.refs.at_ _ _ _ _ Hp2.out Hg.out Hs.out)).mono ?_; rintro e w5 ⟨rfl, hK, hT, hO⟩; have HP5 := hide (HP4.out.drew.stepR (k2 := ⟨a2, cn2, u2, m2⟩) Hp2.out Hg.out hO hT hK); have HO5 : Hid (Blk w5 go 27 #[.int .i64 o0, .int .i64 o1, .int .i64 o2, .int .i64 o3]) := hide (HP4.out.drew.farR Hp2.out Hg.out hO HO4.out (by decide) (by decide) (by decide)); clear hK hT hO; have d2 := (HP5.out.rows HPS.out Hp.out Hp2.out).2; have d3 : w5.cell? ⟨go, 3, none⟩ = some (.int .i64 o3) := HO5.out.cell 3))
                  have Hs2 : Hid ((ss.set Y s2)[Y]? = some s2) := hide (List.getElem?_set_self (List.getElem?_eq_some_iff.1 Hs.out).1)
                  have HO2 : Hid (∀ (j : Nat) s, (ss.set Y s2)[j]? = some s → OkS s) := hide (okS_set HO.out HOs2.out)
                  obtain ⟨ss2, hss2⟩ : ∃ ss2, ss.set Y s2 = ss2 := ⟨_, rfl⟩
                  rw [hss2] at HP5 Hs2 HO2
                  clear hss2 HP3 HO3 HP4 HO4 HO5 HO Hs HOs HVk HVr d2 d3 cb cbd x3 y3
                  go_wp2_with fail
                  obtain ⟨e1, e2⟩ := HP5.out.rows HPS.out Hp.out Hp2.out
                  obtain ⟨f0, f1, f2, f3, f4⟩ := (HP5.out.refs.at_ _ _ _ _ Hp2.out Hg.out Hs2.out).all
                  obtain ⟨g0, g1, g2, g3, g4⟩ := HP5.out.rk.all
                  have HTp := hide (HP5.out.tals.at_ _ _ _ Hp.out Hs2.out)
                  have HTk := hide HP5.out.tk
                  have Hc1 := hide (fun nq => Calls.quiet_of_same (n := nq) (colour_call (w5.drewN nq) p _ _ _ _ HTp.out))
                  have Hc2 := hide (fun nq => Calls.quiet_of_same (n := nq) (red_call (w5.drewN nq) p _ _ _ _ HTp.out))
                  have Hc3 := hide (fun nq => Calls.quiet_of_same (n := nq) (net0_call (w5.drewN nq) p _ _ _ _ HTp.out))
                  have Hc4 := hide (fun nq => Calls.quiet_of_same (n := nq) (net1_call (w5.drewN nq) p _ _ _ _ HTp.out))
                  have Hc5 := hide (fun nq => Calls.quiet_of_same (n := nq) (net2_call (w5.drewN nq) p _ _ _ _ HTp.out))
                  have Hc6 := hide (fun nq => Calls.quiet_of_same (n := nq) (at_call (w5.drewN nq) q N _ _ _ _ (by omega) HTk.out))
                  have Hc7 := hide (fun nq => Calls.quiet_of_same (n := nq) (counting_call (w5.drewN nq) q N _ _ _ _ (by omega) HTk.out))
                  simp only [List.append_eq, List.cons_append, List.nil_append]
                  refine wp_region_quiet_lit (by kernel_rfl) (Lex.lexB_of _ (by kernel_rfl) (by kernel_rfl)) ?_
                  repeat (go_big_quiet_step ((first
                      | (go_at_call 11; exact Hc1.out _)
                      | (go_at_call 13; exact Hc2.out _)
                      | (go_at_call 12; first | with_reducible exact Hc3.out _ | with_reducible exact Hc4.out _ | with_reducible exact Hc5.out _)
                      | (go_at_call 18; exact Hc6.out _)
                      | (go_at_call 17; exact Hc7.out _))))
                  refine wpQuiet_nil ?_
                  intro _ hw'
                  obtain ⟨nq, hw''⟩ := hw'
                  subst hw''
                  go_wp2_with fail
                  go_roundw
                  case rel => exact ⟨k + 1, ss2, ⟨a2, cn2, u2, m2⟩, by omega, by go_num, HO2, HT2, hide (HP5.out.below (below_drewN (Below.refl _ _) nq))⟩
                  case measure => simp [intOf]; omega)
        · have b1 : ¬ (k : Int) < (l1.length : Int) := by omega
          go_wp2_with (go_at_call 14; refine (awake_call _).mono ?_; rintro e w5 ⟨rfl, hb5⟩)
          go_ret
          exact ⟨rfl, below_step HP.out.bel hb5⟩
theorem walk (a0 : Int) (w0 : (Lit.int .i64 a0).wf = true) (A1 : Option Addr) (c1 : Nat) (l1 : List (S27)) (hc1 : l1.length ≤ c1) (w1 : ∀ y ∈ l1, I27 y) (y1 : l1.length * 32 ≤ 140737488351232) (w : World) (hr1 : Kd.C k27 w A1 l1.length l1) :
    Calls Try.prog 6 #[.int .i64 a0, .slice A1 l1.length c1] w fun e w' => e = .returned (.bool true) ∧ Below w.heap.size w w' := by
  by_cases h : a0 < 1 ∨ 16 < a0
  · exact bad a0 h A1 c1 l1.length w
  · obtain ⟨N, rfl⟩ : ∃ N : Nat, a0 = (N : Int) := ⟨a0.toNat, by omega⟩
    exact good N (by omega) (by omega) A1 c1 l1 y1 w hr1
end Go.Proofs.Ytkchbnmnkcffbaa.colourPlays
