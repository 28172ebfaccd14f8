/- The walk of ClockPlays. -/
import Derived.Test.YtcccigdlmljalaaClockTells
import Derived.Test.YtcccigdlmljalaaKindsClockPlays
import Derived.StillTailTactics
import Derived.Deep.RegionHeld3
import Derived.Deep.QuietTactic
import Derived.BigQuiet
namespace Go.Proofs.Ytcccigdlmljalaa.clockPlays
open Go.RowKit Go.Deep Go.Proofs.Ytcccigdlmljalaa.Heap Go.Proofs.Ytcccigdlmljalaa.Clock Go.Proofs.YtcccigdlmljalaaW.PrintWords Go.Proofs.YtcccigdlmljalaaW.PrintLast Go.Proofs.YtcccigdlmljalaaW.PrintMore
set_option linter.unusedVariables false
set_option linter.unusedSimpArgs false
attribute [local go_sem] max2_int min2_int max_two min_two max_three min_three max_four min_four
theorem unhide {p : Prop} (h : Hid p) : p := h
theorem rtell_any (w : World) (p g : Nat) (ts : List Int) (i t : Int) (h : Ref w p g ts) :
    Calls Try.prog 11 #[.pointer (some ⟨p, 0, none⟩), .int .i64 i, .int .i64 t] w fun e w' => e = .returned (.int .i64 (errOf ts.length i t)) ∧ Ref w' p g (nxt ts i t) ∧ Only w w' (fun b => b = g) := by
  by_cases c : 0 ≤ i ∧ i < ts.length ∧ 0 ≤ t ∧ t ≤ 4611686018427387904
  · obtain ⟨k, rfl⟩ := Int.eq_ofNat_of_zero_le c.1
    have hk : k < ts.length := by omega
    have e1 : errOf ts.length k t = 0 := by unfold errOf may; rw [decide_eq_true c]; rfl
    have e2 : nxt ts k t = ts.set k (mx ts[k] t) := by unfold nxt may; rw [decide_eq_true c, Int.toNat_natCast]; simp [hk]
    rw [e1, e2]
    exact rtell_ok w p g ts k t h hk c.2.2.1 c.2.2.2
  · have e1 : errOf ts.length i t = 1 := by unfold errOf may; rw [decide_eq_false c]; rfl
    have e2 : nxt ts i t = ts := by unfold nxt may; rw [decide_eq_false c]; rfl
    rw [e1, e2]
    exact (rtell_bad w p g ts i t h (by omega)).mono fun _ _ ⟨he, hw⟩ => ⟨he, hw ▸ h, hw ▸ Only.refl w _⟩
theorem Clk_only {w w' : World} {p g : Nat} {ts : List Int} {S : Nat → Prop} (h : Clk w p g ts) (ho : Only w w' S) (hp : ¬ S p) (hg : ¬ S g) : Clk w' p g ts := ⟨h.1.only ho hp, h.2.1.only ho hg, h.2.2⟩
theorem Ref_only {w w' : World} {p g : Nat} {ts : List Int} {S : Nat → Prop} (h : Ref w p g ts) (ho : Only w w' S) (hp : ¬ S p) (hg : ¬ S g) : Ref w' p g ts := ⟨h.1.only ho hp, h.2.1.only ho hg, h.2.2⟩

set_option maxHeartbeats 16000000 in
set_option maxRecDepth 100000 in
theorem walk_ok (N : Nat) (hN : N ≤ 1024) (A1 : Option Addr) (c1 : Nat) (l1 : List S31) (hc1 : l1.length ≤ c1) (y1 : l1.length * 16 ≤ 140737488351232) (w : World) (hr1 : Kd.C k31 w A1 l1.length l1) :
    Calls Try.prog 3 #[.int .i64 N, .slice A1 l1.length c1] w fun e w' => e = .returned (.bool true) ∧ Below w.heap.size w w' := by
  have T0 := hide (fun W => new_call N hN W)
  have T1 := hide (fun W => rnew_call N hN W)
  have HR := hide hr1
  clear hr1
  go_enter Try.func3, Try.ntmps3
  go_wp2_with (first | (go_at_call 8; refine (T0.out _).mono ?_; rintro e w1 ⟨rfl, hC1, hO1⟩; have HC1 := hide hC1; clear hC1; have HO1 := hide hO1; clear hO1; clear T0) | (go_at_call 9; refine (T1.out _).mono ?_; rintro e w2 ⟨rfl, hC2, hO2⟩; have HC2 := hide hC2; clear hC2; have HO2 := hide hO2; clear hO2; clear T1))
  have HS : Hid (w.heap.size + 1 < w1.heap.size) := HC1.out.1.lt
  obtain ⟨p2, hp2⟩ : ∃ p2, w1.heap.size + 1 = p2 := ⟨_, rfl⟩
  obtain ⟨g2, hg2⟩ : ∃ g2, w1.heap.size = g2 := ⟨_, rfl⟩
  rw [hp2]
  rw [hp2, hg2] at HC2
  go_loopw [9] (fun i wr => ∃ (k : Nat) (ts : List Int), k ≤ l1.length ∧ i = .int .i64 k ∧ ts.length = N ∧ Hid (Clk wr (w.heap.size + 1) w.heap.size ts) ∧ Hid (Ref wr p2 g2 ts) ∧ Hid (Only w wr (fun _ => False))) (fun i _ => l1.length - (intOf i).toNat)
  case atStart => exact ⟨0, List.replicate N 0, Nat.zero_le _, rfl, by simp, hide (Clk_only HC1.out HO2.out (fun h => h) (fun h => h)), HC2, hide (HO1.out.trans HO2.out)⟩
  case round =>
    obtain ⟨k, ts, hk, rfl, hl, HC, HRf, HO⟩ := hrel
    have H1 : Hid (w.heap.size ≠ g2 ∧ w.heap.size + 1 ≠ g2 ∧ w.heap.size ≠ p2 ∧ w.heap.size + 1 ≠ p2 ∧ w.heap.size ≤ g2) := hide (by have := HS.out; omega)
    have HP : Hid (p2 ≠ g2) := hide (by omega)
    clear HC1 HO1 HC2 HO2 hp2 hg2 HS
    by_cases hlt : k < l1.length
    · obtain ⟨ad, rfl, q1, q2⟩ := at_S31 HR.out hlt
      have q1' := (HO.out.cell (World.block_lt_of_cell? w _ q1) (fun h => h)).trans q1
      have q2' := (HO.out.cell (World.block_lt_of_cell? w _ q2) (fun h => h)).trans q2
      clear q1 q2
      obtain ⟨I, hI⟩ : ∃ I, l1[k].f0 = I := ⟨_, rfl⟩
      obtain ⟨T, hT⟩ : ∃ T, l1[k].f1 = T := ⟨_, rfl⟩
      rw [hI] at q1'
      rw [hT] at q2'
      clear hI hT
      have b1 : (k : Int) < (l1.length : Int) := by omega
      go_wp2_with fail
      have HB : Hid (Blk (wr.alloc (.cells #[.int .i64 I, .int .i64 T] 31)) wr.heap.size 31 #[.int .i64 I, .int .i64 T]) := hide (Blk.new _ _ _)
      have HC' : Hid (Clk (wr.alloc (.cells #[.int .i64 I, .int .i64 T] 31)) (w.heap.size + 1) w.heap.size ts) := hide ⟨HC.out.1.alloc _, HC.out.2.1.alloc _, HC.out.2.2⟩
      have HR' : Hid (Ref (wr.alloc (.cells #[.int .i64 I, .int .i64 T] 31)) p2 g2 ts) := hide ⟨HRf.out.1.alloc _, HRf.out.2.1.alloc _, HRf.out.2.2⟩
      have HO' : Hid (Only w (wr.alloc (.cells #[.int .i64 I, .int .i64 T] 31)) (fun _ => False)) := hide (HO.out.alloc _)
      have H2 : Hid (w.heap.size < wr.heap.size ∧ g2 < wr.heap.size) := hide ⟨HC.out.2.1.lt, HRf.out.2.1.lt⟩
      clear q1' q2' HC HRf HO
      generalize wr.alloc (.cells #[.int .i64 I, .int .i64 T] 31) = W at HB HC' HR' HO' ⊢
      generalize wr.heap.size = ob at HB H2 ⊢
      have c0 : W.cell? ⟨ob, 0, none⟩ = some (.int .i64 I) := by simpa using HB.out.cell 0
      have c1' : W.cell? ⟨ob, 1, none⟩ = some (.int .i64 T) := by simpa using HB.out.cell 1
      obtain ⟨E, hE⟩ : ∃ E, errOf ts.length I T = E := ⟨_, rfl⟩
      have HE := hide hE
      clear hE
      go_region_held3 (fun w' => w'.cell? ⟨ob, 0, none⟩ = some (.int .i64 I) ∧ w'.cell? ⟨ob, 1, none⟩ = some (.int .i64 T)) (first | exact ⟨by assumption, by assumption⟩ | go_keep)
        (first
          | (go_at_call 10; refine (tell_any _ _ _ ts I T (by exact HC'.out)).mono ?_; rintro e w2 ⟨rfl, hC2, hO2a⟩; have hO2 := hO2a.undrew; have HC2 := hide hC2; have HR2 : Hid (Ref w2 p2 g2 ts) := hide (Ref_only HR'.out hO2 (by have := H1.out; omega) (by have := H1.out; omega)); have HB2 : Hid (Blk w2 ob 31 #[.int .i64 I, .int .i64 T]) := hide (HB.out.only hO2 (by have := H2.out; omega)); have HO2 : Hid (Only w w2 (fun _ => False)) := hide (HO'.out.step hO2 (fun i hi hlt => by omega)); clear hC2 hO2 hO2a; have d0 : w2.cell? ⟨ob, 0, none⟩ = some (.int .i64 I) := HB2.out.cell 0; have d1 : w2.cell? ⟨ob, 1, none⟩ = some (.int .i64 T) := HB2.out.cell 1)
          | (go_at_call 11; refine (rtell_any _ _ _ ts I T (by exact HR2.out)).mono ?_; rintro e w3 ⟨rfl, hR3, hO3⟩; have HR3 := hide hR3; have HC3 : Hid (Clk w3 (w.heap.size + 1) w.heap.size (nxt ts I T)) := hide (Clk_only HC2.out hO3 (by have := H1.out; omega) (by have := H1.out; omega)); have HB3 : Hid (Blk w3 ob 31 #[.int .i64 I, .int .i64 T]) := hide (HB2.out.only hO3 (by have := H2.out; omega)); have HO3 : Hid (Only w w3 (fun _ => False)) := hide (HO2.out.step hO3 (fun i hi hlt => by have := H1.out; omega)); clear hR3 hO3; have d0 : w3.cell? ⟨ob, 0, none⟩ = some (.int .i64 I) := HB3.out.cell 0; have d1 : w3.cell? ⟨ob, 1, none⟩ = some (.int .i64 T) := HB3.out.cell 1)
          | (go_at_call 12; refine (bound_call _ _ _ _ (by exact HC3.out)).mono ?_; rw [bnd_eq]; rintro e w4 ⟨rfl, hb4⟩; have HR4 : Hid (Ref w4 p2 g2 (nxt ts I T)) := hide ⟨HR3.out.1.below' hb4, HR3.out.2.1.below' hb4, HR3.out.2.2⟩; have HC4 : Hid (Clk w4 (w.heap.size + 1) w.heap.size (nxt ts I T)) := hide ⟨HC3.out.1.below' hb4, HC3.out.2.1.below' hb4, HC3.out.2.2⟩; have HB4 : Hid (Blk w4 ob 31 #[.int .i64 I, .int .i64 T]) := hide (HB3.out.below' hb4); have HO4 : Hid (Only w w4 (fun _ => False)) := hide (HO3.out.trans (only_of_below hb4 _)); clear hb4; have d0 : w4.cell? ⟨ob, 0, none⟩ = some (.int .i64 I) := HB4.out.cell 0; have d1 : w4.cell? ⟨ob, 1, none⟩ = some (.int .i64 T) := HB4.out.cell 1)
          | (go_at_call 13; refine (rbound_call _ _ _ _ (by exact HR4.out)).mono ?_; rintro e w5 ⟨rfl, rfl⟩; have d0 : w4.cell? ⟨ob, 0, none⟩ = some (.int .i64 I) := HB4.out.cell 0; have d1 : w4.cell? ⟨ob, 1, none⟩ = some (.int .i64 T) := HB4.out.cell 1))
      clear HB HC' HR' HO' HC2 HR2 HB2 HO2 HR3 HC3 HB3 HO3 c0 c1'
      have d0 : w4.cell? ⟨ob, 0, none⟩ = some (.int .i64 I) := HB4.out.cell 0
      have f0 : w4.cell? ⟨p2, 0, none⟩ = some (.slice (some ⟨g2, 0, none⟩) N N) := by
        have := HR4.out.1.cell 0
        rw [nxt_length, hl] at this
        exact this
      have hl2 : (nxt ts I T).length = N := by rw [nxt_length]; exact hl
      have hAt := fun n => at_any (w4.drewN n) _ _ (nxt ts I T) I HC4.out
      by_cases cin : 0 ≤ I ∧ I < (N : Int)
      · obtain ⟨q, hq⟩ := Int.eq_ofNat_of_zero_le cin.1
        subst hq
        have hq2 : q < (nxt ts q T).length := by omega
        have hcell := HR4.out.at_ hq2
        have e1 : clkAt (nxt ts q T) q = (nxt ts q T)[q] := by unfold clkAt; rw [if_pos (by omega), Int.toNat_natCast]; simp [hq2]
        rw [e1] at hAt
        generalize (nxt ts q T)[q] = x at hcell hAt
        have HA := hide hAt
        have g1 : (q : Int) < (N : Int) := cin.2
        have g2' : ¬ (N : Int) ≤ (q : Int) := by omega
        have g3 : decide ((q : Int) < 0) = false := decide_eq_false (by omega)
        have g4 : (0 : Int) ≤ (q : Int) := cin.1
        have g5 : decide ((N : Int) ≤ (q : Int)) = false := decide_eq_false (by omega)
        have g6 : decide (N ≤ q) = false := decide_eq_false (by omega)
        have g7 : (x != x) = false := by simp
        clear hAt e1 cin
        go_wp2_with fail
        go_quiet ((go_at_call 14; exact Calls.quiet_of_same ((HA.out _).mono fun _ _ h => ⟨h.1, h.2.symm⟩)))
        go_wp2_with fail
        go_roundw
        case rel => exact ⟨k + 1, nxt ts q T, by omega, by go_num, hl2, hide HC4.out, hide HR4.out, hide (HO4.out.drewN _)⟩
        case measure => simp [intOf]; omega
      · have e1 : clkAt (nxt ts I T) I = 0 := by unfold clkAt; rw [if_neg (by rw [hl2]; exact cin)]
        rw [e1] at hAt
        have HA := hide hAt
        clear hAt e1
        by_cases c0 : 0 ≤ I
        · have g1 : (N : Int) ≤ I := by omega
          have g2' : decide (I < 0) = false := decide_eq_false (by omega)
          have g3 : decide (I < (N : Int)) = false := decide_eq_false (by omega)
          have g4 : decide ((N : Int) ≤ I) = true := decide_eq_true g1
          have g5 : decide (0 ≤ I) = true := decide_eq_true c0
          clear cin
          go_wp2_with fail
          go_quiet ((go_at_call 14; exact Calls.quiet_of_same ((HA.out _).mono fun _ _ h => ⟨h.1, h.2.symm⟩)))
          go_wp2_with fail
          go_roundw
          case rel => exact ⟨k + 1, nxt ts I T, by omega, by go_num, hl2, hide HC4.out, hide HR4.out, hide (HO4.out.drewN _)⟩
          case measure => simp [intOf]; omega
        · have g1 : I < 0 := by omega
          have g2' : decide (I < 0) = true := decide_eq_true g1
          have g5 : decide (0 ≤ I) = false := decide_eq_false c0
          clear cin c0
          go_wp2_with fail
          go_quiet ((go_at_call 14; exact Calls.quiet_of_same ((HA.out _).mono fun _ _ h => ⟨h.1, h.2.symm⟩)))
          go_wp2_with fail
          go_roundw
          case rel => exact ⟨k + 1, nxt ts I T, by omega, by go_num, hl2, hide HC4.out, hide HR4.out, hide (HO4.out.drewN _)⟩
          case measure => simp [intOf]; omega
    · have b1 : ¬ (k : Int) < (l1.length : Int) := by omega
      go_wp2_with (go_at_call 15; refine (awake_call _).mono ?_; rintro e w5 ⟨rfl, hb5⟩)
      go_ret
      exact ⟨rfl, below_step (HO.out.below (Nat.le_refl _) (fun _ h => h.elim)) hb5⟩

theorem walk (a0 : Int) (w0 : (Lit.int .i64 a0).wf = true) (A1 : Option Addr) (c1 : Nat) (l1 : List S31) (hc1 : l1.length ≤ c1) (w1 : ∀ y ∈ l1, I31 y) (y1 : l1.length * 16 ≤ 140737488351232) (w : World) (hr1 : Kd.C k31 w A1 l1.length l1) :
    Calls Try.prog 3 #[.int .i64 a0, .slice A1 l1.length c1] w fun e w' => e = .returned (.bool true) ∧ Below w.heap.size w w' := by
  by_cases c : a0 < 0 ∨ 1024 < a0
  · clear w0 w1 hr1
    have T0 := hide (fun W => new_bad a0 c W)
    have T1 := hide (fun W => rnew_bad a0 c W)
    clear c
    go_enter Try.func3, Try.ntmps3
    go_wp2_with (first | (go_at_call 8; refine (T0.out _).mono ?_; rintro e w1 ⟨rfl, rfl⟩; clear T0) | (go_at_call 9; refine (T1.out _).mono ?_; rintro e w2 ⟨rfl, rfl⟩; clear T1))
    refine wp_loop_rounds 1 ?_
    rw [rounds_succ]
    go_wp2_with (go_at_call 15; refine (awake_call _).mono ?_; rintro e w5 ⟨rfl, hb5⟩)
    go_ret
    exact ⟨rfl, hb5⟩
  · obtain ⟨N, rfl⟩ := Int.eq_ofNat_of_zero_le (show 0 ≤ a0 by omega)
    exact walk_ok N (by omega) A1 c1 l1 hc1 y1 w hr1
end Go.Proofs.Ytcccigdlmljalaa.clockPlays
