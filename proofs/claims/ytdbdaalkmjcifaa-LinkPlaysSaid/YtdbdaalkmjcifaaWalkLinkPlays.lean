/- The walk of LinkPlays. -/
import Derived.Test.YtdbdaalkmjcifaaLinkW
import Derived.Test.YtdbdaalkmjcifaaKindsLinkPlays
import Derived.StillTailTactics
import Derived.Deep.RegionHeld3
import Derived.Deep.QuietTactic
import Derived.BigQuiet
import Derived.Lib.QuietBelow
import Derived.Test.YtdbdaalkmjcifaaLex
namespace Go.Proofs.Ytdbdaalkmjcifaa.linkPlays
open Go.Proofs Go.RowKit Go.Deep Go.Proofs.Ytdbdaalkmjcifaa.Types Go.Proofs.Ytdbdaalkmjcifaa.Heap Go.Proofs.Ytdbdaalkmjcifaa.Row Go.Proofs.Ytdbdaalkmjcifaa.Link Go.Proofs.YtdbdaalkmjcifaaW.PrintWords Go.Proofs.YtdbdaalkmjcifaaW.PrintLast Go.Proofs.YtdbdaalkmjcifaaW.PrintMore
set_option linter.unusedVariables false
set_option linter.unusedSimpArgs false
theorem bad (L : Lk) (most : Int) (hno : ¬ ok L most) (A2 : Option Addr) (c2 : Nat) (n2 : Nat) (w : World) :
    Calls Try.prog 8 #[.agg #[.int .i64 L.f0, .int .i64 L.f1, .int .i64 L.f2, .bool L.f3], .int .i64 most, .slice A2 n2 c2] w fun e w' => e = .returned (.bool true) ∧ Below w.heap.size w w' := by
  have HN := hide (fun W => new_bad L most hno W)
  have HR := hide (fun W => rnew_bad L most hno W)
  unfold c28 at *
  clear hno
  go_enter Try.func8, Try.ntmps8
  go_wp2_with fail
  have HB0 : Hid (Below w.heap.size w (w.alloc (.cells #[.int .i64 L.f0, .int .i64 L.f1, .int .i64 L.f2, .bool L.f3] 28))) := hide ((Below.refl w.heap.size w).alloc (Nat.le_refl _) _)
  have HL0 := hide (Blk.new w 28 #[.int .i64 L.f0, .int .i64 L.f1, .int .i64 L.f2, .bool L.f3])
  generalize w.alloc (.cells #[.int .i64 L.f0, .int .i64 L.f1, .int .i64 L.f2, .bool L.f3] 28) = w0 at HB0 HL0 ⊢
  obtain ⟨gl, hgl⟩ : ∃ gl, w.heap.size = gl := ⟨_, rfl⟩
  have HGl := hide hgl
  rw [hgl] at HL0 ⊢
  clear hgl
  refine (HN.out _).mono ?_
  rintro e w1 ⟨rfl, hb1⟩
  have HB1 := hide (below_step HB0.out hb1)
  have HL1 := hide (HL0.out.below' hb1)
  clear hb1 HB0 HL0
  have l0 : w1.cell? ⟨gl, 0, none⟩ = some (.int .i64 L.f0) := HL1.out.cell 0
  have l1 : w1.cell? ⟨gl, 1, none⟩ = some (.int .i64 L.f1) := HL1.out.cell 1
  have l2 : w1.cell? ⟨gl, 2, none⟩ = some (.int .i64 L.f2) := HL1.out.cell 2
  have l3 : w1.cell? ⟨gl, 3, none⟩ = some (.bool L.f3) := HL1.out.cell 3
  have hu := Try.underlying28
  go_wp2_with fail
  refine (HR.out _).mono ?_
  rintro e w2 ⟨rfl, hb2⟩
  have HB2 := hide (below_step HB1.out hb2)
  clear hb2 l0 l1 l2 l3
  go_wp2_with fail
  refine wp_loop_rounds 1 ?_
  rw [rounds_succ]
  go_wp2_with (go_at_call 13; refine (awake_call _).mono ?_; rintro e w5 ⟨rfl, hb5⟩)
  go_ret
  exact ⟨rfl, below_step HB2.out hb5⟩
set_option maxHeartbeats 80000000 in
set_option maxRecDepth 100000 in
theorem good (L : Lk) (most : Int) (hok : ok L most) (A2 : Option Addr) (c2 : Nat) (l2 : List S60) (y2 : l2.length * 80 ≤ 140737488351232) (w : World) (hr2 : Kd.C k60 w A2 l2.length l2) :
    Calls Try.prog 8 #[.agg #[.int .i64 L.f0, .int .i64 L.f1, .int .i64 L.f2, .bool L.f3], .int .i64 most, .slice A2 l2.length c2] w fun e w' => e = .returned (.bool true) ∧ Below w.heap.size w w' := by
  have HN := hide (fun W => new_ok L most hok W)
  have HRn := hide (fun W => rnew_ok L most hok W)
  have HMo : Hid (1 ≤ most ∧ most ≤ 1024) := hide ⟨hok.2.2.2.2.1, hok.2.2.2.2.2⟩
  have HR := hide hr2
  have HY := hide y2
  unfold c28 at *
  clear hok hr2 y2
  go_enter Try.func8, Try.ntmps8
  go_wp2_with fail
  have HB0 : Hid (Below w.heap.size w (w.alloc (.cells #[.int .i64 L.f0, .int .i64 L.f1, .int .i64 L.f2, .bool L.f3] 28))) := hide ((Below.refl w.heap.size w).alloc (Nat.le_refl _) _)
  have HL0 := hide (Blk.new w 28 #[.int .i64 L.f0, .int .i64 L.f1, .int .i64 L.f2, .bool L.f3])
  generalize w.alloc (.cells #[.int .i64 L.f0, .int .i64 L.f1, .int .i64 L.f2, .bool L.f3] 28) = w0 at HB0 HL0 ⊢
  obtain ⟨gl, hgl⟩ : ∃ gl, w.heap.size = gl := ⟨_, rfl⟩
  have HGl := hide hgl
  rw [hgl] at HL0 ⊢
  clear hgl
  refine (HN.out _).mono ?_
  rintro e w1 ⟨rfl, hW1, hb1⟩
  have HB1 := hide (below_step HB0.out hb1)
  have HL1 := hide (HL0.out.below' hb1)
  have HK1 : Hid (WayAt tW w1 w.heap.size (w0.heap.size + 1) L most (.slice none 0 0) []) := hide (hW1.lower HB0.out.size)
  have HP0 : Hid (w.heap.size ≤ w0.heap.size) := hide HB0.out.size
  clear hb1 hW1 HB0 HL0
  obtain ⟨p, hp⟩ : ∃ p, w0.heap.size + 1 = p := ⟨_, rfl⟩
  rw [hp] at HK1 ⊢
  have HP : Hid (w.heap.size ≤ p) := hide (by have := HP0.out; omega)
  clear hp HP0
  have l0 : w1.cell? ⟨gl, 0, none⟩ = some (.int .i64 L.f0) := HL1.out.cell 0
  have l1 : w1.cell? ⟨gl, 1, none⟩ = some (.int .i64 L.f1) := HL1.out.cell 1
  have l2' : w1.cell? ⟨gl, 2, none⟩ = some (.int .i64 L.f2) := HL1.out.cell 2
  have l3 : w1.cell? ⟨gl, 3, none⟩ = some (.bool L.f3) := HL1.out.cell 3
  have hu := Try.underlying28
  go_wp2_with fail
  refine (HRn.out _).mono ?_
  rintro e w2 ⟨rfl, hW2, hb2⟩
  have HB2 := hide (below_step HB1.out hb2)
  have HV2 : Hid (WayAt tR w2 w.heap.size (w1.heap.size + 1) L most (.slice none 0 0) []) := hide (hW2.lower HB1.out.size)
  have HK2 := hide (HK1.out.below hb2)
  have HQ0 : Hid (w.heap.size ≤ w1.heap.size) := hide HB1.out.size
  clear hb2 hW2 HB1 HL1 HK1 l0 l1 l2' l3
  obtain ⟨q, hq⟩ : ∃ q, w1.heap.size + 1 = q := ⟨_, rfl⟩
  rw [hq] at HV2 ⊢
  have HQ : Hid (w.heap.size ≤ q) := hide (by have := HQ0.out; omega)
  clear hq HQ0 HGl
  go_wp2_with fail
  go_loopw [11] (fun iv wr => ∃ (k : Nat) (A : Option Addr) (c : Nat) (A' : Option Addr) (c' : Nat) (l : List Pc), k ≤ l2.length ∧ iv = .int .i64 k ∧ Hid (l.length ≤ k) ∧ Hid (WayAt tW wr w.heap.size p L most (.slice A l.length c) l) ∧ Hid (WayAt tR wr w.heap.size q L most (.slice A' l.length c') l) ∧ Hid (∀ i, (Value.slice A l.length c).ownBlock = some i → (Value.slice A' l.length c').ownBlock ≠ some i) ∧ Hid (Below w.heap.size w wr)) (fun iv _ => l2.length - (intOf iv).toNat)
  case atStart => exact ⟨0, none, 0, none, 0, [], Nat.zero_le _, rfl, hide (Nat.le_refl _), HK2, HV2, hide (fun i h => by cases h), HB2⟩
  case round =>
    obtain ⟨k, A, c, A', c', l, hk, rfl, HL, HK, HV, HA, HB⟩ := hrel
    clear HK2 HV2 HB2
    have HHk := hide hk
    by_cases hlt : k < l2.length
    · obtain ⟨ad, rfl, q0, q1, q2, q3, q4, q5, q6, q7, q8, q9⟩ := at_S60 (Kd.C_below HR.out HB.out) hlt
      have b1 : (k : Int) < (l2.length : Int) := by omega
      have hl63 : (l2.length : Int) ≤ 1759218604416 := by have := HY.out; omega
      obtain ⟨⟨o0, o1, ⟨⟨⟨o2, o3, o4⟩, o5, o6, o7, o8⟩, o9⟩⟩, hx⟩ : ∃ x, l2[k] = x := ⟨_, rfl⟩
      rw [hx] at q0 q1 q2 q3 q4 q5 q6 q7 q8 q9
      clear hx
      simp only at q0 q1 q2 q3 q4 q5 q6 q7 q8 q9
      have HB3 := hide (HB.out.alloc HB.out.size (.cells #[.int .i64 o0, .int .i64 o1, .int .i64 o2, .int .i64 o3, .int .i64 o4, .int .i64 o5, .int .i64 o6, .int .i64 o7, .bool o8, .int .i64 o9] 60))
      have HK3 := hide (HK.out.alloc (.cells #[.int .i64 o0, .int .i64 o1, .int .i64 o2, .int .i64 o3, .int .i64 o4, .int .i64 o5, .int .i64 o6, .int .i64 o7, .bool o8, .int .i64 o9] 60))
      have HV3 := hide (HV.out.alloc (.cells #[.int .i64 o0, .int .i64 o1, .int .i64 o2, .int .i64 o3, .int .i64 o4, .int .i64 o5, .int .i64 o6, .int .i64 o7, .bool o8, .int .i64 o9] 60))
      have HA3 := HA
      have HO3 := hide (Blk.new wr 60 #[.int .i64 o0, .int .i64 o1, .int .i64 o2, .int .i64 o3, .int .i64 o4, .int .i64 o5, .int .i64 o6, .int .i64 o7, .bool o8, .int .i64 o9])
      have HOp : Hid (wr.heap.size ≠ p) := hide (by have := HK.out.blk.lt; omega)
      have HOo : Hid (∀ i, (Value.slice A l.length c).ownBlock = some i → i ≠ wr.heap.size) := hide (fun i hi e => by have := (HK.out.own.blk i hi).2; omega)
      have HOq : Hid (wr.heap.size ≠ q) := hide (by have := HV.out.blk.lt; omega)
      clear HK HV HA HB
      obtain ⟨w3, hw3⟩ : ∃ w3, wr.alloc (.cells #[.int .i64 o0, .int .i64 o1, .int .i64 o2, .int .i64 o3, .int .i64 o4, .int .i64 o5, .int .i64 o6, .int .i64 o7, .bool o8, .int .i64 o9] 60) = w3 := ⟨_, rfl⟩
      rw [hw3] at HB3 HK3 HV3 HO3
      obtain ⟨go, hgo⟩ : ∃ go, wr.heap.size = go := ⟨_, rfl⟩
      rw [hgo] at HO3 HOp HOo HOq
      by_cases h0 : o0 = 0
      · subst h0
        obtain ⟨r, l', hl', hk1, hr1⟩ := put_both L most l ⟨⟨⟨o2, o3, o4⟩, o5, o6, o7, o8⟩, o9⟩ HMo.out.1 HMo.out.2 (by have := HL.out; have := HY.out; omega)
        have HK1c := hide hk1
        have HR1c := hide hr1
        have HLn9 : Hid (l'.length ≤ k + 1) := hide (by have := HL.out; omega)
        clear hl' hk1 hr1
        unfold c35 at HK1c HR1c
        have x0 : w3.cell? ⟨go, 0, none⟩ = some (.int .i64 0) := HO3.out.cell 0
        have x1 : w3.cell? ⟨go, 1, none⟩ = some (.int .i64 o1) := HO3.out.cell 1
        have x2 : w3.cell? ⟨go, 2, none⟩ = some (.int .i64 o2) := HO3.out.cell 2
        have x3 : w3.cell? ⟨go, 3, none⟩ = some (.int .i64 o3) := HO3.out.cell 3
        have x4 : w3.cell? ⟨go, 4, none⟩ = some (.int .i64 o4) := HO3.out.cell 4
        have x5 : w3.cell? ⟨go, 5, none⟩ = some (.int .i64 o5) := HO3.out.cell 5
        have x6 : w3.cell? ⟨go, 6, none⟩ = some (.int .i64 o6) := HO3.out.cell 6
        have x7 : w3.cell? ⟨go, 7, none⟩ = some (.int .i64 o7) := HO3.out.cell 7
        have x8 : w3.cell? ⟨go, 8, none⟩ = some (.bool o8) := HO3.out.cell 8
        have x9 : w3.cell? ⟨go, 9, none⟩ = some (.int .i64 o9) := HO3.out.cell 9
        have y0 : w3.drew.cell? ⟨go, 0, none⟩ = some (.int .i64 0) := HO3.out.cell 0
        have y1 : w3.drew.cell? ⟨go, 1, none⟩ = some (.int .i64 o1) := HO3.out.cell 1
        have y2 : w3.drew.cell? ⟨go, 2, none⟩ = some (.int .i64 o2) := HO3.out.cell 2
        have y3 : w3.drew.cell? ⟨go, 3, none⟩ = some (.int .i64 o3) := HO3.out.cell 3
        have y4 : w3.drew.cell? ⟨go, 4, none⟩ = some (.int .i64 o4) := HO3.out.cell 4
        have y5 : w3.drew.cell? ⟨go, 5, none⟩ = some (.int .i64 o5) := HO3.out.cell 5
        have y6 : w3.drew.cell? ⟨go, 6, none⟩ = some (.int .i64 o6) := HO3.out.cell 6
        have y7 : w3.drew.cell? ⟨go, 7, none⟩ = some (.int .i64 o7) := HO3.out.cell 7
        have y8 : w3.drew.cell? ⟨go, 8, none⟩ = some (.bool o8) := HO3.out.cell 8
        have y9 : w3.drew.cell? ⟨go, 9, none⟩ = some (.int .i64 o9) := HO3.out.cell 9
        go_wp2_with fail
        rename_i K1 h1
        have HKc := hide h1
        clear h1
        first | (go_region_held3 (fun w' => w'.cell? ⟨go, 2, none⟩ = some (.int .i64 o2) ∧ w'.cell? ⟨go, 3, none⟩ = some (.int .i64 o3) ∧ w'.cell? ⟨go, 4, none⟩ = some (.int .i64 o4) ∧ w'.cell? ⟨go, 5, none⟩ = some (.int .i64 o5) ∧ w'.cell? ⟨go, 6, none⟩ = some (.int .i64 o6) ∧ w'.cell? ⟨go, 7, none⟩ = some (.int .i64 o7) ∧ w'.cell? ⟨go, 8, none⟩ = some (.bool o8) ∧ w'.cell? ⟨go, 9, none⟩ = some (.int .i64 o9)) (first | exact ⟨by assumption, by assumption, by assumption, by assumption, by assumption, by assumption, by assumption, by assumption⟩ | go_keep)
          (first
          | (go_at_call 10; refine (HK1c.out _ _ _ _ _ HK3.out.drew (Nat.le_trans HB3.out.size (Nat.le_refl _))).mono ?_; rintro e w4 ⟨rfl, A1, c1, hW', hO, hOb⟩; have hot := other (by decide) (by decide) (by decide) HK3.out.drew HV3.out.drew HA3.out hO hOb; have HK4 := hide hW'; have HV4 := hide hot.1; have HA4 := hide hot.2; have HB4 := hide (below_way HB3.out.drew HK3.out.drew rfl HP.out hO); have HO4 := hide ((HO3.out.drew).only hO (fun e => by rcases e with e | e; exact HOp.out e; exact HOo.out _ e.symm rfl)); have v0 : w4.cell? ⟨go, 0, none⟩ = some (.int .i64 0) := HO4.out.cell 0; have v1 : w4.cell? ⟨go, 1, none⟩ = some (.int .i64 o1) := HO4.out.cell 1; have v2 : w4.cell? ⟨go, 2, none⟩ = some (.int .i64 o2) := HO4.out.cell 2; have v3 : w4.cell? ⟨go, 3, none⟩ = some (.int .i64 o3) := HO4.out.cell 3; have v4 : w4.cell? ⟨go, 4, none⟩ = some (.int .i64 o4) := HO4.out.cell 4; have v5 : w4.cell? ⟨go, 5, none⟩ = some (.int .i64 o5) := HO4.out.cell 5; have v6 : w4.cell? ⟨go, 6, none⟩ = some (.int .i64 o6) := HO4.out.cell 6; have v7 : w4.cell? ⟨go, 7, none⟩ = some (.int .i64 o7) := HO4.out.cell 7; have v8 : w4.cell? ⟨go, 8, none⟩ = some (.bool o8) := HO4.out.cell 8; have v9 : w4.cell? ⟨go, 9, none⟩ = some (.int .i64 o9) := HO4.out.cell 9; clear hW' hO hOb hot)
          | (go_at_call 20; refine (HR1c.out _ _ _ _ _ HV4.out HB4.out.size).mono ?_; rintro e w5 ⟨rfl, A1', c1', hW', hO, hOb⟩; have hot := other (by decide) (by decide) (by decide) HV4.out HK4.out (fun i h1 h2 => HA4.out i h2 h1) hO hOb; have HV9 := hide hW'; have HK9 := hide hot.1; have HA9 : Hid (∀ i, (Value.slice A1 l'.length c1).ownBlock = some i → (Value.slice A1' l'.length c1').ownBlock ≠ some i) := hide (fun i h1 h2 => hot.2 i h2 h1); have HB9 := hide (below_way HB4.out HV4.out rfl HQ.out hO); have HO5 := hide (HO4.out.only hO (fun e => by rcases e with e | e; exact HOq.out e; exact own_blk_ne HV4.out.own HO4.out (by decide) e.symm)); have u0 : w5.cell? ⟨go, 0, none⟩ = some (.int .i64 0) := HO5.out.cell 0; have u1 : w5.cell? ⟨go, 1, none⟩ = some (.int .i64 o1) := HO5.out.cell 1; have u2 : w5.cell? ⟨go, 2, none⟩ = some (.int .i64 o2) := HO5.out.cell 2; have u3 : w5.cell? ⟨go, 3, none⟩ = some (.int .i64 o3) := HO5.out.cell 3; have u4 : w5.cell? ⟨go, 4, none⟩ = some (.int .i64 o4) := HO5.out.cell 4; have u5 : w5.cell? ⟨go, 5, none⟩ = some (.int .i64 o5) := HO5.out.cell 5; have u6 : w5.cell? ⟨go, 6, none⟩ = some (.int .i64 o6) := HO5.out.cell 6; have u7 : w5.cell? ⟨go, 7, none⟩ = some (.int .i64 o7) := HO5.out.cell 7; have u8 : w5.cell? ⟨go, 8, none⟩ = some (.bool o8) := HO5.out.cell 8; have u9 : w5.cell? ⟨go, 9, none⟩ = some (.int .i64 o9) := HO5.out.cell 9; clear hW' hO hOb hot)))
        all_goals (
          refine HKc.out _ _ ?_
          clear HKc K1 HK1c HR1c HK3 HV3 HB3 HO3 HK4 HV4 HB4 HO4 HO5 HA4 x0 x1 x2 x3 x4 x5 x6 x7 x8 x9 y0 y1 y2 y3 y4 y5 y6 y7 y8 y9 v0 v1 v2 v3 v4 v5 v6 v7 v8 v9
          generalize w5 = w9 at HK9 HV9 HB9 ⊢
          have HRk := hide (fun W (hW : WayAt tW W w.heap.size p L most (.slice A1 l'.length c1) l') => (room_call W w.heap.size p L most A1 c1 l' hW HMo.out.1 HMo.out.2 (by have := HLn9.out; have := HY.out; omega)).mono (R' := fun e w' => e = .returned (.int .i64 (room most l'.length)) ∧ Below W.heap.size W w') (fun e w' h => ⟨h.1, by obtain ⟨n, hn⟩ := h.2; rw [hn]; exact below_drewN (Below.refl _ _) n⟩))
          have HRr := hide (fun W (hW : WayAt tR W w.heap.size q L most (.slice A1' l'.length c1') l') => (rroom_call W w.heap.size q L most A1' c1' l' hW HMo.out.1 HMo.out.2 (by have := HLn9.out; have := HY.out; omega)).mono (R' := fun e w' => e = .returned (.int .i64 (room most l'.length)) ∧ Below W.heap.size W w') (fun e w' h => ⟨h.1, by obtain ⟨n, hn⟩ := h.2; rw [hn]; exact below_drewN (Below.refl _ _) n⟩))
          have HLk := hide (fun W (hW : WayAt tW W w.heap.size p L most (.slice A1 l'.length c1) l') => least_call W w.heap.size p L most A1 c1 l' hW (by have := HMo.out.1; omega) (by have := HLn9.out; have := HY.out; omega))
          have HLr := hide (fun W (hW : WayAt tR W w.heap.size q L most (.slice A1' l'.length c1') l') => rleast_call W w.heap.size q L most A1' c1' l' hW (by have := HLn9.out; have := HY.out; omega))
          have HNk := hide (fun W (hW : WayAt tW W w.heap.size p L most (.slice A1 l'.length c1) l') => (len_call W w.heap.size p L most A1 c1 l' hW (by have := HMo.out.1; omega)).mono (R' := fun e w' => e = .returned (.int .i64 (l'.length : Nat)) ∧ Below W.heap.size W w') (fun e w' h => ⟨h.1, by rw [← h.2]; exact Below.refl _ _⟩))
          have HAk := hide (fun W (hW : WayAt tW W w.heap.size p L most (.slice A1 l'.length c1) l') => all_call W w.heap.size p L most A1 c1 l' hW (by have := HMo.out.1; omega) (by have := HLn9.out; have := HY.out; omega))
          obtain ⟨rm, hrm⟩ : ∃ rm, room most l'.length = rm := ⟨_, rfl⟩
          rw [hrm] at HRk HRr
          obtain ⟨ls, hls⟩ : ∃ ls, lst l' = ls := ⟨_, rfl⟩
          rw [hls] at HLk HLr
          clear hrm hls
          have c5 := HV9.out.c5
          have c5d : w9.drew.cell? ⟨q, 5, none⟩ = some (.slice A1' l'.length c1') := HV9.out.drew.c5
          by_cases h100 : (k : Int) < 100
          · have g1 : decide ((k : Int) < 100) = true := decide_eq_true h100
            have g2 : decide (k < 100) = true := decide_eq_true (by omega)
            go_wp2_with fail
            first | (go_region_held3 (fun w' => w'.cell? ⟨q, 5, none⟩ = some (.slice A1' l'.length c1')) (first | exact (by assumption) | go_keep)
              (first
                | (go_at_call 12; refine (HRk.out _ (by first | exact HK9.out | exact HK9.out.drew)).mono ?_; rintro e w10 ⟨rfl, hb⟩; have HK10 : Hid (WayAt tW w10 w.heap.size p L most (.slice A1 l'.length c1) l') := hide (by first | exact HK9.out.below hb | exact HK9.out.drew.below hb); have HV10 : Hid (WayAt tR w10 w.heap.size q L most (.slice A1' l'.length c1') l') := hide (by first | exact HV9.out.below hb | exact HV9.out.drew.below hb); have HB10 : Hid (Below w.heap.size w w10) := hide (by first | exact below_step HB9.out hb | exact below_step HB9.out.drew hb); clear hb; have d5 : w10.cell? ⟨q, 5, none⟩ = some (.slice A1' l'.length c1') := HV10.out.c5)
                | (go_at_call 23; refine (HRr.out _ (by first | exact HV10.out | exact HV10.out.drew)).mono ?_; rintro e w11 ⟨rfl, hb⟩; have HK11 : Hid (WayAt tW w11 w.heap.size p L most (.slice A1 l'.length c1) l') := hide (by first | exact HK10.out.below hb | exact HK10.out.drew.below hb); have HV11 : Hid (WayAt tR w11 w.heap.size q L most (.slice A1' l'.length c1') l') := hide (by first | exact HV10.out.below hb | exact HV10.out.drew.below hb); have HB11 : Hid (Below w.heap.size w w11) := hide (by first | exact below_step HB10.out hb | exact below_step HB10.out.drew hb); clear hb; have d5 : w11.cell? ⟨q, 5, none⟩ = some (.slice A1' l'.length c1') := HV11.out.c5)
                | (go_at_call 14; refine (HLk.out _ (by first | exact HK11.out | exact HK11.out.drew)).mono ?_; rintro e w12 ⟨rfl, hb⟩; have HK12 : Hid (WayAt tW w12 w.heap.size p L most (.slice A1 l'.length c1) l') := hide (by first | exact HK11.out.below hb | exact HK11.out.drew.below hb); have HV12 : Hid (WayAt tR w12 w.heap.size q L most (.slice A1' l'.length c1') l') := hide (by first | exact HV11.out.below hb | exact HV11.out.drew.below hb); have HB12 : Hid (Below w.heap.size w w12) := hide (by first | exact below_step HB11.out hb | exact below_step HB11.out.drew hb); clear hb; have d5 : w12.cell? ⟨q, 5, none⟩ = some (.slice A1' l'.length c1') := HV12.out.c5)
                | (go_at_call 24; refine (HLr.out _ (by first | exact HV12.out | exact HV12.out.drew)).mono ?_; rintro e w13 ⟨rfl, hb⟩; have HK13 : Hid (WayAt tW w13 w.heap.size p L most (.slice A1 l'.length c1) l') := hide (by first | exact HK12.out.below hb | exact HK12.out.drew.below hb); have HV13 : Hid (WayAt tR w13 w.heap.size q L most (.slice A1' l'.length c1') l') := hide (by first | exact HV12.out.below hb | exact HV12.out.drew.below hb); have HB13 : Hid (Below w.heap.size w w13) := hide (by first | exact below_step HB12.out hb | exact below_step HB12.out.drew hb); clear hb; have d5 : w13.cell? ⟨q, 5, none⟩ = some (.slice A1' l'.length c1') := HV13.out.c5)
                | (go_at_call 11; refine (HNk.out _ (by first | exact HK13.out | exact HK13.out.drew)).mono ?_; rintro e w14 ⟨rfl, hb⟩; have HK14 : Hid (WayAt tW w14 w.heap.size p L most (.slice A1 l'.length c1) l') := hide (by first | exact HK13.out.below hb | exact HK13.out.drew.below hb); have HV14 : Hid (WayAt tR w14 w.heap.size q L most (.slice A1' l'.length c1') l') := hide (by first | exact HV13.out.below hb | exact HV13.out.drew.below hb); have HB14 : Hid (Below w.heap.size w w14) := hide (by first | exact below_step HB13.out hb | exact below_step HB13.out.drew hb); clear hb; have d5 : w14.cell? ⟨q, 5, none⟩ = some (.slice A1' l'.length c1') := HV14.out.c5)
                | (go_at_call 18; refine (HAk.out _ (by first | exact HK14.out | exact HK14.out.drew)).mono ?_; rintro e w15 ⟨A5, c5', rfl, hO, hb⟩; have HK15 : Hid (WayAt tW w15 w.heap.size p L most (.slice A1 l'.length c1) l') := hide (by first | exact HK14.out.below hb | exact HK14.out.drew.below hb); have HV15 : Hid (WayAt tR w15 w.heap.size q L most (.slice A1' l'.length c1') l') := hide (by first | exact HV14.out.below hb | exact HV14.out.drew.below hb); have HB15 : Hid (Below w.heap.size w w15) := hide (by first | exact below_step HB14.out hb | exact below_step HB14.out.drew hb); obtain ⟨A6, c6, hv6, _, hC6, _⟩ := hO.reads flatP rfl k35_mk; cases hv6; have HC15 := hide hC6; clear hb hO hC6; have d5 : w15.cell? ⟨q, 5, none⟩ = some (.slice A1' l'.length c1') := HV15.out.c5)
                | (go_at_call 25; refine (parcels_call _ _ l' _ _ (by have := HLn9.out; have := HY.out; omega) _ (by first | exact HC15.out | exact HC15.out.drew) (by obtain ⟨A7, c7, hv7, _, hC7, _⟩ := HV15.out.own.reads flatP rfl k35_mk; cases hv7; exact hC7)).mono ?_; rintro e w16 ⟨rfl, hb⟩; have HK16 : Hid (WayAt tW w16 w.heap.size p L most (.slice A1 l'.length c1) l') := hide (by first | exact HK15.out.below hb | exact HK15.out.drew.below hb); have HV16 : Hid (WayAt tR w16 w.heap.size q L most (.slice A1' l'.length c1') l') := hide (by first | exact HV15.out.below hb | exact HV15.out.drew.below hb); have HB16 : Hid (Below w.heap.size w w16) := hide (by first | exact below_step HB15.out hb | exact below_step HB15.out.drew hb); clear hb; have d5 : w16.cell? ⟨q, 5, none⟩ = some (.slice A1' l'.length c1') := HV16.out.c5)))
            go_wp2_with fail
            go_roundw
            case rel => exact ⟨k + 1, A1, c1, A1', c1', l', by omega, by go_num, HLn9, HK16, HV16, HA9, HB16⟩
            case measure => simp [intOf]; omega
          · have g1 : decide ((k : Int) < 100) = false := decide_eq_false h100
            have g2 : decide (k < 100) = false := decide_eq_false (by omega)
            have g3 : ¬ (k : Int) < 100 := h100
            (try go_wp2_with fail)
            clear c5d
            have c5r := fun d os => cell_regrown c5 d os
            have Hq1 := hide (fun d os => Calls.regrown_of (w := w9) (d := d) (os := os) (HRk.out _ (HK9.out.below (below_regrown w9 d os))))
            have Hq2 := hide (fun d os => Calls.regrown_of (w := w9) (d := d) (os := os) (HRr.out _ (HV9.out.below (below_regrown w9 d os))))
            have Hq3 := hide (fun d os => Calls.regrown_of (w := w9) (d := d) (os := os) (HLk.out _ (HK9.out.below (below_regrown w9 d os))))
            have Hq4 := hide (fun d os => Calls.regrown_of (w := w9) (d := d) (os := os) (HLr.out _ (HV9.out.below (below_regrown w9 d os))))
            have Hq5 := hide (fun d os => Calls.regrown_of (w := w9) (d := d) (os := os) (HNk.out _ (HK9.out.below (below_regrown w9 d os))))
            refine wp_region_quiet_below (by kernel_rfl) (Lex.lexB_of _ (by kernel_rfl) (by kernel_rfl)) ?_
            repeat (go_big_quiet_step ((first
              | (go_at_call 12; with_reducible exact Hq1.out _ _)
              | (go_at_call 23; with_reducible exact Hq2.out _ _)
              | (go_at_call 14; with_reducible exact Hq3.out _ _)
              | (go_at_call 24; with_reducible exact Hq4.out _ _)
              | (go_at_call 11; with_reducible exact Hq5.out _ _))))
            refine wpQuiet_nil ?_
            intro _ hw'
            obtain ⟨⟨dq, osq⟩, hw''⟩ := hw'
            subst hw''
            go_wp2_with fail
            go_roundw
            case rel => exact ⟨k + 1, A1, c1, A1', c1', l', by omega, by go_num, HLn9, hide (HK9.out.below (below_regrown w9 dq osq)), hide (HV9.out.below (below_regrown w9 dq osq)), HA9, hide (below_step HB9.out (below_regrown w9 dq osq))⟩
            case measure => simp [intOf]; omega)
      · by_cases h1 : o0 = 1
        · subst h1
          clear h0
          obtain ⟨x, r, hk1, hr1⟩ := peek_both L most l o1 (by have := HMo.out.1; omega) (by have := HL.out; have := HY.out; omega)
          have HLn9 : Hid (l.length ≤ k + 1) := hide (by have := HL.out; omega)
          have HK1c := hide hk1
          have HR1c := hide hr1
          clear hk1 hr1
          unfold c35 at HK1c HR1c
          have x0 : w3.cell? ⟨go, 0, none⟩ = some (.int .i64 1) := HO3.out.cell 0
          have x1 : w3.cell? ⟨go, 1, none⟩ = some (.int .i64 o1) := HO3.out.cell 1
          have x2 : w3.cell? ⟨go, 2, none⟩ = some (.int .i64 o2) := HO3.out.cell 2
          have x3 : w3.cell? ⟨go, 3, none⟩ = some (.int .i64 o3) := HO3.out.cell 3
          have x4 : w3.cell? ⟨go, 4, none⟩ = some (.int .i64 o4) := HO3.out.cell 4
          have x5 : w3.cell? ⟨go, 5, none⟩ = some (.int .i64 o5) := HO3.out.cell 5
          have x6 : w3.cell? ⟨go, 6, none⟩ = some (.int .i64 o6) := HO3.out.cell 6
          have x7 : w3.cell? ⟨go, 7, none⟩ = some (.int .i64 o7) := HO3.out.cell 7
          have x8 : w3.cell? ⟨go, 8, none⟩ = some (.bool o8) := HO3.out.cell 8
          have x9 : w3.cell? ⟨go, 9, none⟩ = some (.int .i64 o9) := HO3.out.cell 9
          go_wp2_with fail
          refine (HK1c.out _ _ _ _ _ HK3.out).mono ?_
          rintro e w4 ⟨rfl, hb⟩
          have HK4 := hide (HK3.out.below hb)
          have HV4 := hide (HV3.out.below hb)
          have HA4 := HA3
          have HB4 := hide (below_step HB3.out hb)
          have HO4 := hide (HO3.out.below' hb)
          clear hb HK1c HK3 HV3 HB3 HO3 HA3
          clear x0 x1 x2 x3 x4 x5 x6 x7 x8 x9 hw3
          rename_i K1 h1 K2 h2
          have HKc := hide h1
          clear h1
          go_wp2_with fail
          have HB5 := hide (HB4.out.alloc HB4.out.size (.cells #[.int .i64 x.f0.f0.f0, .int .i64 x.f0.f0.f1, .int .i64 x.f0.f0.f2, .int .i64 x.f0.f1, .int .i64 x.f0.f2, .int .i64 x.f0.f3, .bool x.f0.f4, .int .i64 x.f1] 35))
          have HK5 := hide (HK4.out.alloc (.cells #[.int .i64 x.f0.f0.f0, .int .i64 x.f0.f0.f1, .int .i64 x.f0.f0.f2, .int .i64 x.f0.f1, .int .i64 x.f0.f2, .int .i64 x.f0.f3, .bool x.f0.f4, .int .i64 x.f1] 35))
          have HV5 := hide (HV4.out.alloc (.cells #[.int .i64 x.f0.f0.f0, .int .i64 x.f0.f0.f1, .int .i64 x.f0.f0.f2, .int .i64 x.f0.f1, .int .i64 x.f0.f2, .int .i64 x.f0.f3, .bool x.f0.f4, .int .i64 x.f1] 35))
          have HO5 := hide (HO4.out.alloc (.cells #[.int .i64 x.f0.f0.f0, .int .i64 x.f0.f0.f1, .int .i64 x.f0.f0.f2, .int .i64 x.f0.f1, .int .i64 x.f0.f2, .int .i64 x.f0.f3, .bool x.f0.f4, .int .i64 x.f1] 35))
          have HX5 := hide (Blk.new w4 35 #[.int .i64 x.f0.f0.f0, .int .i64 x.f0.f0.f1, .int .i64 x.f0.f0.f2, .int .i64 x.f0.f1, .int .i64 x.f0.f2, .int .i64 x.f0.f3, .bool x.f0.f4, .int .i64 x.f1])
          have HXp : Hid (w4.heap.size ≠ q) := hide (by have := HV4.out.blk.lt; omega)
          have HXo : Hid (∀ i, (Value.slice A' l.length c').ownBlock = some i → i ≠ w4.heap.size) := hide (fun i hi e => by have := (HV4.out.own.blk i hi).2; omega)
          generalize w4.alloc (.cells #[.int .i64 x.f0.f0.f0, .int .i64 x.f0.f0.f1, .int .i64 x.f0.f0.f2, .int .i64 x.f0.f1, .int .i64 x.f0.f2, .int .i64 x.f0.f3, .bool x.f0.f4, .int .i64 x.f1] 35) = w5 at HB5 HK5 HV5 HO5 HX5 ⊢
          generalize w4.heap.size = g1 at HX5 HXp HXo ⊢
          refine HKc.out _ _ ?_
          clear HKc K1 HB4 HK4 HV4 HO4
          have n1 : w5.cell? ⟨go, 1, none⟩ = some (.int .i64 o1) := HO5.out.cell 1
          go_wp2_with fail
          refine (HR1c.out _ _ _ _ _ HV5.out).mono ?_
          rintro e w6 ⟨rfl, hb⟩
          have HV6 := hide (HV5.out.below hb)
          have HK6 := hide (HK5.out.below hb)
          have HA9 := HA4
          have HB6 := hide (below_step HB5.out hb)
          have HX6 := hide (HX5.out.below' hb)
          clear hb HR1c HK5 HV5 HB5 HO5 HX5 n1
          rename_i K1 h1 K2 h2
          have HKc := hide h1
          clear h1
          go_wp2_with fail
          have HB9 := hide (HB6.out.alloc HB6.out.size (.cells #[.int .i64 x.f0.f0.f0, .int .i64 x.f0.f0.f1, .int .i64 x.f0.f0.f2, .int .i64 x.f0.f1, .int .i64 x.f0.f2, .int .i64 x.f0.f3, .bool x.f0.f4, .int .i64 x.f1] 35))
          have HK9 := hide (HK6.out.alloc (.cells #[.int .i64 x.f0.f0.f0, .int .i64 x.f0.f0.f1, .int .i64 x.f0.f0.f2, .int .i64 x.f0.f1, .int .i64 x.f0.f2, .int .i64 x.f0.f3, .bool x.f0.f4, .int .i64 x.f1] 35))
          have HV9 := hide (HV6.out.alloc (.cells #[.int .i64 x.f0.f0.f0, .int .i64 x.f0.f0.f1, .int .i64 x.f0.f0.f2, .int .i64 x.f0.f1, .int .i64 x.f0.f2, .int .i64 x.f0.f3, .bool x.f0.f4, .int .i64 x.f1] 35))
          have HX9 := hide (HX6.out.alloc (.cells #[.int .i64 x.f0.f0.f0, .int .i64 x.f0.f0.f1, .int .i64 x.f0.f0.f2, .int .i64 x.f0.f1, .int .i64 x.f0.f2, .int .i64 x.f0.f3, .bool x.f0.f4, .int .i64 x.f1] 35))
          have HY9 := hide (Blk.new w6 35 #[.int .i64 x.f0.f0.f0, .int .i64 x.f0.f0.f1, .int .i64 x.f0.f0.f2, .int .i64 x.f0.f1, .int .i64 x.f0.f2, .int .i64 x.f0.f3, .bool x.f0.f4, .int .i64 x.f1])
          generalize w6.alloc (.cells #[.int .i64 x.f0.f0.f0, .int .i64 x.f0.f0.f1, .int .i64 x.f0.f0.f2, .int .i64 x.f0.f1, .int .i64 x.f0.f2, .int .i64 x.f0.f3, .bool x.f0.f4, .int .i64 x.f1] 35) = w9 at HB9 HK9 HV9 HX9 HY9 ⊢
          generalize w6.heap.size = g2 at HY9 ⊢
          refine HKc.out _ _ ?_
          clear HKc K1 HB6 HK6 HV6 HX6
          obtain ⟨x0, x1, x2, x3, x4, x5, x6, x7⟩ := blk8 HX9.out
          obtain ⟨y0, y1, y2, y3, y4, y5, y6, y7⟩ := blk8 HY9.out
          go_wp2_with fail
          clear x0 x1 x2 x3 x4 x5 x6 x7 y0 y1 y2 y3 y4 y5 y6 y7
          have HRk := hide (fun W (hW : WayAt tW W w.heap.size p L most (.slice A l.length c) l) => (room_call W w.heap.size p L most A c l hW HMo.out.1 HMo.out.2 (by have := HLn9.out; have := HY.out; omega)).mono (R' := fun e w' => e = .returned (.int .i64 (room most l.length)) ∧ Below W.heap.size W w') (fun e w' h => ⟨h.1, by obtain ⟨n, hn⟩ := h.2; rw [hn]; exact below_drewN (Below.refl _ _) n⟩))
          have HRr := hide (fun W (hW : WayAt tR W w.heap.size q L most (.slice A' l.length c') l) => (rroom_call W w.heap.size q L most A' c' l hW HMo.out.1 HMo.out.2 (by have := HLn9.out; have := HY.out; omega)).mono (R' := fun e w' => e = .returned (.int .i64 (room most l.length)) ∧ Below W.heap.size W w') (fun e w' h => ⟨h.1, by obtain ⟨n, hn⟩ := h.2; rw [hn]; exact below_drewN (Below.refl _ _) n⟩))
          have HLk := hide (fun W (hW : WayAt tW W w.heap.size p L most (.slice A l.length c) l) => least_call W w.heap.size p L most A c l hW (by have := HMo.out.1; omega) (by have := HLn9.out; have := HY.out; omega))
          have HLr := hide (fun W (hW : WayAt tR W w.heap.size q L most (.slice A' l.length c') l) => rleast_call W w.heap.size q L most A' c' l hW (by have := HLn9.out; have := HY.out; omega))
          have HNk := hide (fun W (hW : WayAt tW W w.heap.size p L most (.slice A l.length c) l) => (len_call W w.heap.size p L most A c l hW (by have := HMo.out.1; omega)).mono (R' := fun e w' => e = .returned (.int .i64 (l.length : Nat)) ∧ Below W.heap.size W w') (fun e w' h => ⟨h.1, by rw [← h.2]; exact Below.refl _ _⟩))
          have HAk := hide (fun W (hW : WayAt tW W w.heap.size p L most (.slice A l.length c) l) => all_call W w.heap.size p L most A c l hW (by have := HMo.out.1; omega) (by have := HLn9.out; have := HY.out; omega))
          obtain ⟨rm, hrm⟩ : ∃ rm, room most l.length = rm := ⟨_, rfl⟩
          rw [hrm] at HRk HRr
          obtain ⟨ls, hls⟩ : ∃ ls, lst l = ls := ⟨_, rfl⟩
          rw [hls] at HLk HLr
          clear hrm hls
          have c5 := HV9.out.c5
          have c5d : w9.drew.cell? ⟨q, 5, none⟩ = some (.slice A' l.length c') := HV9.out.drew.c5
          by_cases h100 : (k : Int) < 100
          · have g1 : decide ((k : Int) < 100) = true := decide_eq_true h100
            have g2 : decide (k < 100) = true := decide_eq_true (by omega)
            first | (go_region_held3 (fun w' => w'.cell? ⟨q, 5, none⟩ = some (.slice A' l.length c')) (first | exact (by assumption) | go_keep)
              (first
                | (go_at_call 12; refine (HRk.out _ (by first | exact HK9.out | exact HK9.out.drew)).mono ?_; rintro e w10 ⟨rfl, hb⟩; have HK10 : Hid (WayAt tW w10 w.heap.size p L most (.slice A l.length c) l) := hide (by first | exact HK9.out.below hb | exact HK9.out.drew.below hb); have HV10 : Hid (WayAt tR w10 w.heap.size q L most (.slice A' l.length c') l) := hide (by first | exact HV9.out.below hb | exact HV9.out.drew.below hb); have HB10 : Hid (Below w.heap.size w w10) := hide (by first | exact below_step HB9.out hb | exact below_step HB9.out.drew hb); clear hb; have d5 : w10.cell? ⟨q, 5, none⟩ = some (.slice A' l.length c') := HV10.out.c5)
                | (go_at_call 23; refine (HRr.out _ (by first | exact HV10.out | exact HV10.out.drew)).mono ?_; rintro e w11 ⟨rfl, hb⟩; have HK11 : Hid (WayAt tW w11 w.heap.size p L most (.slice A l.length c) l) := hide (by first | exact HK10.out.below hb | exact HK10.out.drew.below hb); have HV11 : Hid (WayAt tR w11 w.heap.size q L most (.slice A' l.length c') l) := hide (by first | exact HV10.out.below hb | exact HV10.out.drew.below hb); have HB11 : Hid (Below w.heap.size w w11) := hide (by first | exact below_step HB10.out hb | exact below_step HB10.out.drew hb); clear hb; have d5 : w11.cell? ⟨q, 5, none⟩ = some (.slice A' l.length c') := HV11.out.c5)
                | (go_at_call 14; refine (HLk.out _ (by first | exact HK11.out | exact HK11.out.drew)).mono ?_; rintro e w12 ⟨rfl, hb⟩; have HK12 : Hid (WayAt tW w12 w.heap.size p L most (.slice A l.length c) l) := hide (by first | exact HK11.out.below hb | exact HK11.out.drew.below hb); have HV12 : Hid (WayAt tR w12 w.heap.size q L most (.slice A' l.length c') l) := hide (by first | exact HV11.out.below hb | exact HV11.out.drew.below hb); have HB12 : Hid (Below w.heap.size w w12) := hide (by first | exact below_step HB11.out hb | exact below_step HB11.out.drew hb); clear hb; have d5 : w12.cell? ⟨q, 5, none⟩ = some (.slice A' l.length c') := HV12.out.c5)
                | (go_at_call 24; refine (HLr.out _ (by first | exact HV12.out | exact HV12.out.drew)).mono ?_; rintro e w13 ⟨rfl, hb⟩; have HK13 : Hid (WayAt tW w13 w.heap.size p L most (.slice A l.length c) l) := hide (by first | exact HK12.out.below hb | exact HK12.out.drew.below hb); have HV13 : Hid (WayAt tR w13 w.heap.size q L most (.slice A' l.length c') l) := hide (by first | exact HV12.out.below hb | exact HV12.out.drew.below hb); have HB13 : Hid (Below w.heap.size w w13) := hide (by first | exact below_step HB12.out hb | exact below_step HB12.out.drew hb); clear hb; have d5 : w13.cell? ⟨q, 5, none⟩ = some (.slice A' l.length c') := HV13.out.c5)
                | (go_at_call 11; refine (HNk.out _ (by first | exact HK13.out | exact HK13.out.drew)).mono ?_; rintro e w14 ⟨rfl, hb⟩; have HK14 : Hid (WayAt tW w14 w.heap.size p L most (.slice A l.length c) l) := hide (by first | exact HK13.out.below hb | exact HK13.out.drew.below hb); have HV14 : Hid (WayAt tR w14 w.heap.size q L most (.slice A' l.length c') l) := hide (by first | exact HV13.out.below hb | exact HV13.out.drew.below hb); have HB14 : Hid (Below w.heap.size w w14) := hide (by first | exact below_step HB13.out hb | exact below_step HB13.out.drew hb); clear hb; have d5 : w14.cell? ⟨q, 5, none⟩ = some (.slice A' l.length c') := HV14.out.c5)
                | (go_at_call 18; refine (HAk.out _ (by first | exact HK14.out | exact HK14.out.drew)).mono ?_; rintro e w15 ⟨A5, c5', rfl, hO, hb⟩; have HK15 : Hid (WayAt tW w15 w.heap.size p L most (.slice A l.length c) l) := hide (by first | exact HK14.out.below hb | exact HK14.out.drew.below hb); have HV15 : Hid (WayAt tR w15 w.heap.size q L most (.slice A' l.length c') l) := hide (by first | exact HV14.out.below hb | exact HV14.out.drew.below hb); have HB15 : Hid (Below w.heap.size w w15) := hide (by first | exact below_step HB14.out hb | exact below_step HB14.out.drew hb); obtain ⟨A6, c6, hv6, _, hC6, _⟩ := hO.reads flatP rfl k35_mk; cases hv6; have HC15 := hide hC6; clear hb hO hC6; have d5 : w15.cell? ⟨q, 5, none⟩ = some (.slice A' l.length c') := HV15.out.c5)
                | (go_at_call 25; refine (parcels_call _ _ l _ _ (by have := HLn9.out; have := HY.out; omega) _ (by first | exact HC15.out | exact HC15.out.drew) (by obtain ⟨A7, c7, hv7, _, hC7, _⟩ := HV15.out.own.reads flatP rfl k35_mk; cases hv7; exact hC7)).mono ?_; rintro e w16 ⟨rfl, hb⟩; have HK16 : Hid (WayAt tW w16 w.heap.size p L most (.slice A l.length c) l) := hide (by first | exact HK15.out.below hb | exact HK15.out.drew.below hb); have HV16 : Hid (WayAt tR w16 w.heap.size q L most (.slice A' l.length c') l) := hide (by first | exact HV15.out.below hb | exact HV15.out.drew.below hb); have HB16 : Hid (Below w.heap.size w w16) := hide (by first | exact below_step HB15.out hb | exact below_step HB15.out.drew hb); clear hb; have d5 : w16.cell? ⟨q, 5, none⟩ = some (.slice A' l.length c') := HV16.out.c5)))
            go_wp2_with fail
            go_roundw
            case rel => exact ⟨k + 1, A, c, A', c', l, by omega, by go_num, HLn9, HK16, HV16, HA9, HB16⟩
            case measure => simp [intOf]; omega
          · have g1 : decide ((k : Int) < 100) = false := decide_eq_false h100
            have g2 : decide (k < 100) = false := decide_eq_false (by omega)
            have g3 : ¬ (k : Int) < 100 := h100
            (try go_wp2_with fail)
            clear c5d
            have c5r := fun d os => cell_regrown c5 d os
            have Hq1 := hide (fun d os => Calls.regrown_of (w := w9) (d := d) (os := os) (HRk.out _ (HK9.out.below (below_regrown w9 d os))))
            have Hq2 := hide (fun d os => Calls.regrown_of (w := w9) (d := d) (os := os) (HRr.out _ (HV9.out.below (below_regrown w9 d os))))
            have Hq3 := hide (fun d os => Calls.regrown_of (w := w9) (d := d) (os := os) (HLk.out _ (HK9.out.below (below_regrown w9 d os))))
            have Hq4 := hide (fun d os => Calls.regrown_of (w := w9) (d := d) (os := os) (HLr.out _ (HV9.out.below (below_regrown w9 d os))))
            have Hq5 := hide (fun d os => Calls.regrown_of (w := w9) (d := d) (os := os) (HNk.out _ (HK9.out.below (below_regrown w9 d os))))
            refine wp_region_quiet_below (by kernel_rfl) (Lex.lexB_of _ (by kernel_rfl) (by kernel_rfl)) ?_
            repeat (go_big_quiet_step ((first
              | (go_at_call 12; with_reducible exact Hq1.out _ _)
              | (go_at_call 23; with_reducible exact Hq2.out _ _)
              | (go_at_call 14; with_reducible exact Hq3.out _ _)
              | (go_at_call 24; with_reducible exact Hq4.out _ _)
              | (go_at_call 11; with_reducible exact Hq5.out _ _))))
            refine wpQuiet_nil ?_
            intro _ hw'
            obtain ⟨⟨dq, osq⟩, hw''⟩ := hw'
            subst hw''
            go_wp2_with fail
            go_roundw
            case rel => exact ⟨k + 1, A, c, A', c', l, by omega, by go_num, HLn9, hide (HK9.out.below (below_regrown w9 dq osq)), hide (HV9.out.below (below_regrown w9 dq osq)), HA9, hide (below_step HB9.out (below_regrown w9 dq osq))⟩
            case measure => simp [intOf]; omega
        · have hb0 : (o0 == 0) = false := by simpa using h0
          have hb1 : (o0 == 1) = false := by simpa using h1
          clear h0 h1
          obtain ⟨x, r, l', hl', hk1, hr1⟩ := take_both L most l o1 (by have := HMo.out.1; omega) (by have := HL.out; have := HY.out; omega)
          have HLn9 : Hid (l'.length ≤ k + 1) := hide (by have := HL.out; omega)
          clear hl'
          have HK1c := hide hk1
          have HR1c := hide hr1
          clear hk1 hr1
          unfold c35 at HK1c HR1c
          have x0 : w3.cell? ⟨go, 0, none⟩ = some (.int .i64 o0) := HO3.out.cell 0
          have x1 : w3.cell? ⟨go, 1, none⟩ = some (.int .i64 o1) := HO3.out.cell 1
          have x2 : w3.cell? ⟨go, 2, none⟩ = some (.int .i64 o2) := HO3.out.cell 2
          have x3 : w3.cell? ⟨go, 3, none⟩ = some (.int .i64 o3) := HO3.out.cell 3
          have x4 : w3.cell? ⟨go, 4, none⟩ = some (.int .i64 o4) := HO3.out.cell 4
          have x5 : w3.cell? ⟨go, 5, none⟩ = some (.int .i64 o5) := HO3.out.cell 5
          have x6 : w3.cell? ⟨go, 6, none⟩ = some (.int .i64 o6) := HO3.out.cell 6
          have x7 : w3.cell? ⟨go, 7, none⟩ = some (.int .i64 o7) := HO3.out.cell 7
          have x8 : w3.cell? ⟨go, 8, none⟩ = some (.bool o8) := HO3.out.cell 8
          have x9 : w3.cell? ⟨go, 9, none⟩ = some (.int .i64 o9) := HO3.out.cell 9
          go_wp2_with fail
          refine (HK1c.out _ _ _ _ _ HK3.out HB3.out.size).mono ?_
          rintro e w4 ⟨rfl, A1, c1, hW', hO, hOb⟩
          have hot := other (by decide) (by decide) (by decide) HK3.out HV3.out HA3.out hO hOb
          have HK4 := hide hW'
          have HV4 := hide hot.1
          have HA4 := hide hot.2
          have HB4 := hide (below_way HB3.out HK3.out rfl HP.out hO)
          have HO4 := hide (HO3.out.only hO (fun e => by rcases e with e | e; exact HOp.out e; exact HOo.out _ e.symm rfl))
          clear hW' hO hOb hot HK1c HK3 HV3 HB3 HO3 HA3
          clear x0 x1 x2 x3 x4 x5 x6 x7 x8 x9 hw3
          rename_i K1 h1 K2 h2
          have HKc := hide h1
          clear h1
          go_wp2_with fail
          have HB5 := hide (HB4.out.alloc HB4.out.size (.cells #[.int .i64 x.f0.f0.f0, .int .i64 x.f0.f0.f1, .int .i64 x.f0.f0.f2, .int .i64 x.f0.f1, .int .i64 x.f0.f2, .int .i64 x.f0.f3, .bool x.f0.f4, .int .i64 x.f1] 35))
          have HK5 := hide (HK4.out.alloc (.cells #[.int .i64 x.f0.f0.f0, .int .i64 x.f0.f0.f1, .int .i64 x.f0.f0.f2, .int .i64 x.f0.f1, .int .i64 x.f0.f2, .int .i64 x.f0.f3, .bool x.f0.f4, .int .i64 x.f1] 35))
          have HV5 := hide (HV4.out.alloc (.cells #[.int .i64 x.f0.f0.f0, .int .i64 x.f0.f0.f1, .int .i64 x.f0.f0.f2, .int .i64 x.f0.f1, .int .i64 x.f0.f2, .int .i64 x.f0.f3, .bool x.f0.f4, .int .i64 x.f1] 35))
          have HO5 := hide (HO4.out.alloc (.cells #[.int .i64 x.f0.f0.f0, .int .i64 x.f0.f0.f1, .int .i64 x.f0.f0.f2, .int .i64 x.f0.f1, .int .i64 x.f0.f2, .int .i64 x.f0.f3, .bool x.f0.f4, .int .i64 x.f1] 35))
          have HX5 := hide (Blk.new w4 35 #[.int .i64 x.f0.f0.f0, .int .i64 x.f0.f0.f1, .int .i64 x.f0.f0.f2, .int .i64 x.f0.f1, .int .i64 x.f0.f2, .int .i64 x.f0.f3, .bool x.f0.f4, .int .i64 x.f1])
          have HXp : Hid (w4.heap.size ≠ q) := hide (by have := HV4.out.blk.lt; omega)
          have HXo : Hid (∀ i, (Value.slice A' l.length c').ownBlock = some i → i ≠ w4.heap.size) := hide (fun i hi e => by have := (HV4.out.own.blk i hi).2; omega)
          generalize w4.alloc (.cells #[.int .i64 x.f0.f0.f0, .int .i64 x.f0.f0.f1, .int .i64 x.f0.f0.f2, .int .i64 x.f0.f1, .int .i64 x.f0.f2, .int .i64 x.f0.f3, .bool x.f0.f4, .int .i64 x.f1] 35) = w5 at HB5 HK5 HV5 HO5 HX5 ⊢
          generalize w4.heap.size = g1 at HX5 HXp HXo ⊢
          refine HKc.out _ _ ?_
          clear HKc K1 HB4 HK4 HV4 HO4
          have n1 : w5.cell? ⟨go, 1, none⟩ = some (.int .i64 o1) := HO5.out.cell 1
          go_wp2_with fail
          refine (HR1c.out _ _ _ _ _ HV5.out HB5.out.size).mono ?_
          rintro e w6 ⟨rfl, A1', c1', hW', hO, hOb⟩
          have hot := other (by decide) (by decide) (by decide) HV5.out HK5.out (fun i h1 h2 => HA4.out i h2 h1) hO hOb
          have HV6 := hide hW'
          have HK6 := hide hot.1
          have HA9 : Hid (∀ i, (Value.slice A1 l'.length c1).ownBlock = some i → (Value.slice A1' l'.length c1').ownBlock ≠ some i) := hide (fun i h1 h2 => hot.2 i h2 h1)
          have HB6 := hide (below_way HB5.out HV5.out rfl HQ.out hO)
          have HX6 := hide (HX5.out.only hO (fun e => by rcases e with e | e; exact HXp.out e; exact HXo.out _ e.symm rfl))
          clear hW' hO hOb hot HR1c HK5 HV5 HB5 HO5 HX5 n1
          rename_i K1 h1 K2 h2
          have HKc := hide h1
          clear h1
          go_wp2_with fail
          have HB9 := hide (HB6.out.alloc HB6.out.size (.cells #[.int .i64 x.f0.f0.f0, .int .i64 x.f0.f0.f1, .int .i64 x.f0.f0.f2, .int .i64 x.f0.f1, .int .i64 x.f0.f2, .int .i64 x.f0.f3, .bool x.f0.f4, .int .i64 x.f1] 35))
          have HK9 := hide (HK6.out.alloc (.cells #[.int .i64 x.f0.f0.f0, .int .i64 x.f0.f0.f1, .int .i64 x.f0.f0.f2, .int .i64 x.f0.f1, .int .i64 x.f0.f2, .int .i64 x.f0.f3, .bool x.f0.f4, .int .i64 x.f1] 35))
          have HV9 := hide (HV6.out.alloc (.cells #[.int .i64 x.f0.f0.f0, .int .i64 x.f0.f0.f1, .int .i64 x.f0.f0.f2, .int .i64 x.f0.f1, .int .i64 x.f0.f2, .int .i64 x.f0.f3, .bool x.f0.f4, .int .i64 x.f1] 35))
          have HX9 := hide (HX6.out.alloc (.cells #[.int .i64 x.f0.f0.f0, .int .i64 x.f0.f0.f1, .int .i64 x.f0.f0.f2, .int .i64 x.f0.f1, .int .i64 x.f0.f2, .int .i64 x.f0.f3, .bool x.f0.f4, .int .i64 x.f1] 35))
          have HY9 := hide (Blk.new w6 35 #[.int .i64 x.f0.f0.f0, .int .i64 x.f0.f0.f1, .int .i64 x.f0.f0.f2, .int .i64 x.f0.f1, .int .i64 x.f0.f2, .int .i64 x.f0.f3, .bool x.f0.f4, .int .i64 x.f1])
          generalize w6.alloc (.cells #[.int .i64 x.f0.f0.f0, .int .i64 x.f0.f0.f1, .int .i64 x.f0.f0.f2, .int .i64 x.f0.f1, .int .i64 x.f0.f2, .int .i64 x.f0.f3, .bool x.f0.f4, .int .i64 x.f1] 35) = w9 at HB9 HK9 HV9 HX9 HY9 ⊢
          generalize w6.heap.size = g2 at HY9 ⊢
          refine HKc.out _ _ ?_
          clear HKc K1 HB6 HK6 HV6 HX6
          obtain ⟨x0, x1, x2, x3, x4, x5, x6, x7⟩ := blk8 HX9.out
          obtain ⟨y0, y1, y2, y3, y4, y5, y6, y7⟩ := blk8 HY9.out
          go_wp2_with fail
          clear x0 x1 x2 x3 x4 x5 x6 x7 y0 y1 y2 y3 y4 y5 y6 y7
          have HRk := hide (fun W (hW : WayAt tW W w.heap.size p L most (.slice A1 l'.length c1) l') => (room_call W w.heap.size p L most A1 c1 l' hW HMo.out.1 HMo.out.2 (by have := HLn9.out; have := HY.out; omega)).mono (R' := fun e w' => e = .returned (.int .i64 (room most l'.length)) ∧ Below W.heap.size W w') (fun e w' h => ⟨h.1, by obtain ⟨n, hn⟩ := h.2; rw [hn]; exact below_drewN (Below.refl _ _) n⟩))
          have HRr := hide (fun W (hW : WayAt tR W w.heap.size q L most (.slice A1' l'.length c1') l') => (rroom_call W w.heap.size q L most A1' c1' l' hW HMo.out.1 HMo.out.2 (by have := HLn9.out; have := HY.out; omega)).mono (R' := fun e w' => e = .returned (.int .i64 (room most l'.length)) ∧ Below W.heap.size W w') (fun e w' h => ⟨h.1, by obtain ⟨n, hn⟩ := h.2; rw [hn]; exact below_drewN (Below.refl _ _) n⟩))
          have HLk := hide (fun W (hW : WayAt tW W w.heap.size p L most (.slice A1 l'.length c1) l') => least_call W w.heap.size p L most A1 c1 l' hW (by have := HMo.out.1; omega) (by have := HLn9.out; have := HY.out; omega))
          have HLr := hide (fun W (hW : WayAt tR W w.heap.size q L most (.slice A1' l'.length c1') l') => rleast_call W w.heap.size q L most A1' c1' l' hW (by have := HLn9.out; have := HY.out; omega))
          have HNk := hide (fun W (hW : WayAt tW W w.heap.size p L most (.slice A1 l'.length c1) l') => (len_call W w.heap.size p L most A1 c1 l' hW (by have := HMo.out.1; omega)).mono (R' := fun e w' => e = .returned (.int .i64 (l'.length : Nat)) ∧ Below W.heap.size W w') (fun e w' h => ⟨h.1, by rw [← h.2]; exact Below.refl _ _⟩))
          have HAk := hide (fun W (hW : WayAt tW W w.heap.size p L most (.slice A1 l'.length c1) l') => all_call W w.heap.size p L most A1 c1 l' hW (by have := HMo.out.1; omega) (by have := HLn9.out; have := HY.out; omega))
          obtain ⟨rm, hrm⟩ : ∃ rm, room most l'.length = rm := ⟨_, rfl⟩
          rw [hrm] at HRk HRr
          obtain ⟨ls, hls⟩ : ∃ ls, lst l' = ls := ⟨_, rfl⟩
          rw [hls] at HLk HLr
          clear hrm hls
          have c5 := HV9.out.c5
          have c5d : w9.drew.cell? ⟨q, 5, none⟩ = some (.slice A1' l'.length c1') := HV9.out.drew.c5
          by_cases h100 : (k : Int) < 100
          · have g1 : decide ((k : Int) < 100) = true := decide_eq_true h100
            have g2 : decide (k < 100) = true := decide_eq_true (by omega)
            first | (go_region_held3 (fun w' => w'.cell? ⟨q, 5, none⟩ = some (.slice A1' l'.length c1')) (first | exact (by assumption) | go_keep)
              (first
                | (go_at_call 12; refine (HRk.out _ (by first | exact HK9.out | exact HK9.out.drew)).mono ?_; rintro e w10 ⟨rfl, hb⟩; have HK10 : Hid (WayAt tW w10 w.heap.size p L most (.slice A1 l'.length c1) l') := hide (by first | exact HK9.out.below hb | exact HK9.out.drew.below hb); have HV10 : Hid (WayAt tR w10 w.heap.size q L most (.slice A1' l'.length c1') l') := hide (by first | exact HV9.out.below hb | exact HV9.out.drew.below hb); have HB10 : Hid (Below w.heap.size w w10) := hide (by first | exact below_step HB9.out hb | exact below_step HB9.out.drew hb); clear hb; have d5 : w10.cell? ⟨q, 5, none⟩ = some (.slice A1' l'.length c1') := HV10.out.c5)
                | (go_at_call 23; refine (HRr.out _ (by first | exact HV10.out | exact HV10.out.drew)).mono ?_; rintro e w11 ⟨rfl, hb⟩; have HK11 : Hid (WayAt tW w11 w.heap.size p L most (.slice A1 l'.length c1) l') := hide (by first | exact HK10.out.below hb | exact HK10.out.drew.below hb); have HV11 : Hid (WayAt tR w11 w.heap.size q L most (.slice A1' l'.length c1') l') := hide (by first | exact HV10.out.below hb | exact HV10.out.drew.below hb); have HB11 : Hid (Below w.heap.size w w11) := hide (by first | exact below_step HB10.out hb | exact below_step HB10.out.drew hb); clear hb; have d5 : w11.cell? ⟨q, 5, none⟩ = some (.slice A1' l'.length c1') := HV11.out.c5)
                | (go_at_call 14; refine (HLk.out _ (by first | exact HK11.out | exact HK11.out.drew)).mono ?_; rintro e w12 ⟨rfl, hb⟩; have HK12 : Hid (WayAt tW w12 w.heap.size p L most (.slice A1 l'.length c1) l') := hide (by first | exact HK11.out.below hb | exact HK11.out.drew.below hb); have HV12 : Hid (WayAt tR w12 w.heap.size q L most (.slice A1' l'.length c1') l') := hide (by first | exact HV11.out.below hb | exact HV11.out.drew.below hb); have HB12 : Hid (Below w.heap.size w w12) := hide (by first | exact below_step HB11.out hb | exact below_step HB11.out.drew hb); clear hb; have d5 : w12.cell? ⟨q, 5, none⟩ = some (.slice A1' l'.length c1') := HV12.out.c5)
                | (go_at_call 24; refine (HLr.out _ (by first | exact HV12.out | exact HV12.out.drew)).mono ?_; rintro e w13 ⟨rfl, hb⟩; have HK13 : Hid (WayAt tW w13 w.heap.size p L most (.slice A1 l'.length c1) l') := hide (by first | exact HK12.out.below hb | exact HK12.out.drew.below hb); have HV13 : Hid (WayAt tR w13 w.heap.size q L most (.slice A1' l'.length c1') l') := hide (by first | exact HV12.out.below hb | exact HV12.out.drew.below hb); have HB13 : Hid (Below w.heap.size w w13) := hide (by first | exact below_step HB12.out hb | exact below_step HB12.out.drew hb); clear hb; have d5 : w13.cell? ⟨q, 5, none⟩ = some (.slice A1' l'.length c1') := HV13.out.c5)
                | (go_at_call 11; refine (HNk.out _ (by first | exact HK13.out | exact HK13.out.drew)).mono ?_; rintro e w14 ⟨rfl, hb⟩; have HK14 : Hid (WayAt tW w14 w.heap.size p L most (.slice A1 l'.length c1) l') := hide (by first | exact HK13.out.below hb | exact HK13.out.drew.below hb); have HV14 : Hid (WayAt tR w14 w.heap.size q L most (.slice A1' l'.length c1') l') := hide (by first | exact HV13.out.below hb | exact HV13.out.drew.below hb); have HB14 : Hid (Below w.heap.size w w14) := hide (by first | exact below_step HB13.out hb | exact below_step HB13.out.drew hb); clear hb; have d5 : w14.cell? ⟨q, 5, none⟩ = some (.slice A1' l'.length c1') := HV14.out.c5)
                | (go_at_call 18; refine (HAk.out _ (by first | exact HK14.out | exact HK14.out.drew)).mono ?_; rintro e w15 ⟨A5, c5', rfl, hO, hb⟩; have HK15 : Hid (WayAt tW w15 w.heap.size p L most (.slice A1 l'.length c1) l') := hide (by first | exact HK14.out.below hb | exact HK14.out.drew.below hb); have HV15 : Hid (WayAt tR w15 w.heap.size q L most (.slice A1' l'.length c1') l') := hide (by first | exact HV14.out.below hb | exact HV14.out.drew.below hb); have HB15 : Hid (Below w.heap.size w w15) := hide (by first | exact below_step HB14.out hb | exact below_step HB14.out.drew hb); obtain ⟨A6, c6, hv6, _, hC6, _⟩ := hO.reads flatP rfl k35_mk; cases hv6; have HC15 := hide hC6; clear hb hO hC6; have d5 : w15.cell? ⟨q, 5, none⟩ = some (.slice A1' l'.length c1') := HV15.out.c5)
                | (go_at_call 25; refine (parcels_call _ _ l' _ _ (by have := HLn9.out; have := HY.out; omega) _ (by first | exact HC15.out | exact HC15.out.drew) (by obtain ⟨A7, c7, hv7, _, hC7, _⟩ := HV15.out.own.reads flatP rfl k35_mk; cases hv7; exact hC7)).mono ?_; rintro e w16 ⟨rfl, hb⟩; have HK16 : Hid (WayAt tW w16 w.heap.size p L most (.slice A1 l'.length c1) l') := hide (by first | exact HK15.out.below hb | exact HK15.out.drew.below hb); have HV16 : Hid (WayAt tR w16 w.heap.size q L most (.slice A1' l'.length c1') l') := hide (by first | exact HV15.out.below hb | exact HV15.out.drew.below hb); have HB16 : Hid (Below w.heap.size w w16) := hide (by first | exact below_step HB15.out hb | exact below_step HB15.out.drew hb); clear hb; have d5 : w16.cell? ⟨q, 5, none⟩ = some (.slice A1' l'.length c1') := HV16.out.c5)))
            go_wp2_with fail
            go_roundw
            case rel => exact ⟨k + 1, A1, c1, A1', c1', l', by omega, by go_num, HLn9, HK16, HV16, HA9, HB16⟩
            case measure => simp [intOf]; omega
          · have g1 : decide ((k : Int) < 100) = false := decide_eq_false h100
            have g2 : decide (k < 100) = false := decide_eq_false (by omega)
            have g3 : ¬ (k : Int) < 100 := h100
            (try go_wp2_with fail)
            clear c5d
            have c5r := fun d os => cell_regrown c5 d os
            have Hq1 := hide (fun d os => Calls.regrown_of (w := w9) (d := d) (os := os) (HRk.out _ (HK9.out.below (below_regrown w9 d os))))
            have Hq2 := hide (fun d os => Calls.regrown_of (w := w9) (d := d) (os := os) (HRr.out _ (HV9.out.below (below_regrown w9 d os))))
            have Hq3 := hide (fun d os => Calls.regrown_of (w := w9) (d := d) (os := os) (HLk.out _ (HK9.out.below (below_regrown w9 d os))))
            have Hq4 := hide (fun d os => Calls.regrown_of (w := w9) (d := d) (os := os) (HLr.out _ (HV9.out.below (below_regrown w9 d os))))
            have Hq5 := hide (fun d os => Calls.regrown_of (w := w9) (d := d) (os := os) (HNk.out _ (HK9.out.below (below_regrown w9 d os))))
            refine wp_region_quiet_below (by kernel_rfl) (Lex.lexB_of _ (by kernel_rfl) (by kernel_rfl)) ?_
            repeat (go_big_quiet_step ((first
              | (go_at_call 12; with_reducible exact Hq1.out _ _)
              | (go_at_call 23; with_reducible exact Hq2.out _ _)
              | (go_at_call 14; with_reducible exact Hq3.out _ _)
              | (go_at_call 24; with_reducible exact Hq4.out _ _)
              | (go_at_call 11; with_reducible exact Hq5.out _ _))))
            refine wpQuiet_nil ?_
            intro _ hw'
            obtain ⟨⟨dq, osq⟩, hw''⟩ := hw'
            subst hw''
            go_wp2_with fail
            go_roundw
            case rel => exact ⟨k + 1, A1, c1, A1', c1', l', by omega, by go_num, HLn9, hide (HK9.out.below (below_regrown w9 dq osq)), hide (HV9.out.below (below_regrown w9 dq osq)), HA9, hide (below_step HB9.out (below_regrown w9 dq osq))⟩
            case measure => simp [intOf]; omega
    · have b1 : ¬ (k : Int) < (l2.length : Int) := by omega
      go_wp2_with (go_at_call 13; refine (awake_call _).mono ?_; rintro e w5 ⟨rfl, hb5⟩)
      go_ret
      exact ⟨rfl, below_step HB.out hb5⟩
theorem walk (x0 : S28) (w0 : I28 x0) (a1 : Int) (w1 : (Lit.int .i64 a1).wf = true) (A2 : Option Addr) (c2 : Nat) (l2 : List S60) (hc2 : l2.length ≤ c2) (w2 : ∀ y ∈ l2, I60 y) (y2 : l2.length * 80 ≤ 140737488351232) (w : World) (hr2 : Kd.C k60 w A2 l2.length l2) :
    Calls Try.prog 8 #[.agg #[.int .i64 x0.f0, .int .i64 x0.f1, .int .i64 x0.f2, .bool x0.f3], .int .i64 a1, .slice A2 l2.length c2] w fun e w' => e = .returned (.bool true) ∧ Below w.heap.size w w' := by
  by_cases hok : ok x0 a1
  · exact good x0 a1 hok A2 c2 l2 y2 w hr2
  · exact bad x0 a1 hok A2 c2 l2.length w
end Go.Proofs.Ytdbdaalkmjcifaa.linkPlays
