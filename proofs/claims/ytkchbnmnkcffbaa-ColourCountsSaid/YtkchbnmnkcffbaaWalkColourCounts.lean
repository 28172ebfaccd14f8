/- The walk of ColourCounts. -/
import Derived.Test.YtkchbnmnkcffbaaColour
import Derived.Test.YtkchbnmnkcffbaaKindsColourCounts
import Derived.StillTailTactics
import Derived.Deep.RegionHeld3
import Derived.Deep.QuietTactic
import Derived.BigQuiet
namespace Go.Proofs.Ytkchbnmnkcffbaa.colourCounts
open Go.RowKit Go.Deep Go.Proofs.Ytkchbnmnkcffbaa.GrK Go.Proofs.Ytkchbnmnkcffbaa.Types Go.Proofs.Ytkchbnmnkcffbaa.Heap Go.Proofs.Ytkchbnmnkcffbaa.Colour Go.Proofs.YtkchbnmnkcffbaaW.PrintWords Go.Proofs.YtkchbnmnkcffbaaW.PrintLast Go.Proofs.YtkchbnmnkcffbaaW.PrintMore
set_option linter.unusedVariables false
set_option linter.unusedSimpArgs false
attribute [local go_sem] max2_int min2_int max_two min_two max_three min_three max_four min_four
set_option maxHeartbeats 16000000 in
set_option maxRecDepth 100000 in
theorem walk (A0 : Option Addr) (c0 : Nat) (l0 : List S27) (hc0 : l0.length ≤ c0) (w0 : ∀ y ∈ l0, I27 y) (y0 : l0.length * 32 ≤ 140737488351232) (w : World) (hr0 : Kd.C k27 w A0 l0.length l0) :
    Calls Try.prog 3 #[.slice A0 l0.length c0] w fun e w' => e = .returned (.bool true) ∧ Below w.heap.size w w' := by
  have T0 := hide (fun W => new_call W)
  have HR := hide hr0
  clear hr0 w0
  go_enter Try.func3, Try.ntmps3
  go_wp2_with (go_at_call 7; refine (T0.out _).mono ?_; rintro e w1 ⟨rfl, hT1, hB1⟩; have HT1 := hide hT1; have HB1 := hide hB1; clear hT1 hB1 T0)
  have HS : Hid (w.heap.size < w1.heap.size) := hide (Blk.lt HT1.out)
  have HT2 : Hid (Tl (w1.alloc (.cells #[.int .i64 0, .int .i64 0] 3)) w.heap.size 0 0 0 4611686018427387904) := hide (Blk.alloc HT1.out _)
  have HG2 := hide (Blk.new w1 3 #[.int .i64 0, .int .i64 0])
  have HB2 : Hid (Below w.heap.size w (w1.alloc (.cells #[.int .i64 0, .int .i64 0] 3))) := hide (HB1.out.alloc HB1.out.size _)
  obtain ⟨g, hg⟩ : ∃ g, w1.heap.size = g := ⟨_, rfl⟩
  rw [hg] at HG2 HS ⊢
  generalize w1.alloc (.cells #[.int .i64 0, .int .i64 0] 3) = w2 at HT2 HG2 HB2 ⊢
  clear HT1 HB1 hg
  go_loopw [5, 6, 7] (fun cv rv i wr => ∃ (k : Nat) (c n0 n1 m : Int), k ≤ l0.length ∧ k ≤ 1000 ∧ (c = 0 ∨ c = 1) ∧ m ≤ 4611686018427387904 ∧ cv = .int .i64 c ∧ rv = .int .i64 m ∧ i = .int .i64 k ∧ Hid (Tl wr w.heap.size c n0 n1 m) ∧ Hid (Blk wr g 3 #[.int .i64 n0, .int .i64 n1]) ∧ Hid (Below w.heap.size w wr)) (fun _ _ i _ => l0.length - (intOf i).toNat)
  case atStart => exact ⟨0, 0, 0, 0, _, Nat.zero_le _, Nat.zero_le _, .inl rfl, Int.le_refl _, rfl, rfl, rfl, HT2, HG2, HB2⟩
  case round =>
    obtain ⟨k, c, n0, n1, m, hk, hk2, hc, hm, rfl, rfl, rfl, HT, HG, HB⟩ := hrel
    have HM := hide hm
    clear HT2 HG2 HB2 hm
    by_cases hlt : k < l0.length ∧ k < 1000
    · obtain ⟨hlt, hlt2⟩ := hlt
      obtain ⟨ad, rfl, q0, q1, q2, q3⟩ := at_S27 HR.out hlt
      have r0 := (HB.out.cell (World.block_lt_of_cell? w _ q0)).trans q0
      have r1 := (HB.out.cell (World.block_lt_of_cell? w _ q1)).trans q1
      have r2 := (HB.out.cell (World.block_lt_of_cell? w _ q2)).trans q2
      have r3 := (HB.out.cell (World.block_lt_of_cell? w _ q3)).trans q3
      obtain ⟨I, hI⟩ : ∃ I, l0[k].f0 = I := ⟨_, rfl⟩
      obtain ⟨A, hA⟩ : ∃ A, l0[k].f1 = A := ⟨_, rfl⟩
      obtain ⟨N, hN⟩ : ∃ N, l0[k].f2 = N := ⟨_, rfl⟩
      obtain ⟨T, hT⟩ : ∃ T, l0[k].f3 = T := ⟨_, rfl⟩
      clear q0 q1 q2 q3
      rw [hI] at r0
      rw [hA] at r1
      rw [hN] at r2
      rw [hT] at r3
      clear hI hA hN hT
      have b1 : (k : Int) < (l0.length : Int) := by omega
      have b2 : (k : Int) < 1000 := by omega
      by_cases hi0 : I = 0
      · subst hi0
        rcases hc with rfl | rfl
        · have HM2 : Hid (Colour.mn m T ≤ 4611686018427387904) := hide (by have := HM.out; unfold Colour.mn; split <;> omega)
          obtain ⟨m2, hm2⟩ : ∃ m2, Colour.mn m T = m2 := ⟨_, rfl⟩
          have hmn : (if T < m then T else m) = m2 := hm2
          have HC := hide (fun W (hW : Tl W w.heap.size 0 n0 n1 m) => sent0_call W w.heap.size n0 n1 m T HM.out hW)
          rw [hm2] at HC HM2
          clear hm2
          go_wp2_with fail
          have HO2 := hide (Blk.new wr 27 #[.int .i64 0, .int .i64 A, .int .i64 N, .int .i64 T])
          have HT2 : Hid (Tl (wr.alloc (.cells #[.int .i64 0, .int .i64 A, .int .i64 N, .int .i64 T] 27)) w.heap.size 0 n0 n1 m) := hide (Blk.alloc HT.out _)
          have HG2 := hide (HG.out.alloc (.cells #[.int .i64 0, .int .i64 A, .int .i64 N, .int .i64 T] 27))
          have HB2 := hide (HB.out.alloc HB.out.size (.cells #[.int .i64 0, .int .i64 A, .int .i64 N, .int .i64 T] 27))
          have HZ : Hid (w.heap.size < wr.heap.size) := hide (Blk.lt HT.out)
          generalize (wr.alloc (.cells #[.int .i64 0, .int .i64 A, .int .i64 N, .int .i64 T] 27)) = w3 at HO2 HT2 HG2 HB2 ⊢
          generalize wr.heap.size = ob at HO2 HZ ⊢
          clear HT HG HB r0 r1 r2 r3
          go_wp2_with (go_at_call 8; refine (HC.out _ HT2.out).mono ?_; rintro e w4 ⟨rfl, hT, hO⟩; have HT4 := hide hT; have HO4 := hide (HO2.out.only hO (by have := HZ.out; omega)); have HG4 := hide (HG2.out.only hO (by have := HS.out; omega)); have HB4 := hide (HB2.out.trans (hO.below HB2.out.size (fun b hb => by omega))); clear hT hO HT2 HO2 HG2 HB2; have d3 : w4.cell? ⟨ob, 3, none⟩ = some (.int .i64 T) := HO4.out.cell 3; have g0 : w4.cell? ⟨g, 0, none⟩ = some (.int .i64 n0) := HG4.out.cell 0; have f0 : w4.frozen? ⟨g, 0, none⟩ = false := HG4.out.frozen 0)
          have HT5 := hide (Blk.far HT4.out (p := ⟨g, 0, none⟩) (by have := HS.out; show w.heap.size ≠ g; omega) (.int .i64 (wrap64 (n0 + 1))))
          have HG5 := hide (HG4.out.set_ 0 (.int .i64 (wrap64 (n0 + 1))))
          have HB5 := hide (HB4.out.trans (((Only.refl w4 (fun b => b = g)).setCell (p := ⟨g, 0, none⟩) (.inl rfl) (.int .i64 (wrap64 (n0 + 1)))).below HB4.out.size (fun b hb => by have := HS.out; omega)))
          generalize (w4.setCell ⟨g, 0, none⟩ (.int .i64 (wrap64 (n0 + 1)))) = w5 at HT5 HG5 HB5 ⊢
          clear HT4 HG4 HB4 HO4
          generalize wrap64 (n0 + 1) = vv at HT5 HG5 HB5 ⊢
          clear g0 f0 d3 HC
          have e0 : w5.cell? ⟨g, 0, none⟩ = some (.int .i64 _) := HG5.out.cell 0
          have e1 : w5.cell? ⟨g, 1, none⟩ = some (.int .i64 _) := HG5.out.cell 1
          have cC := hide (fun n => Calls.quiet_of_same (n := n) (colour_call (w5.drewN n) w.heap.size 0 vv n1 m2 (Blk.drewN HT5.out _)))
          have cN0 := hide (fun n => Calls.quiet_of_same (n := n) (net0_call (w5.drewN n) w.heap.size 0 vv n1 m2 (Blk.drewN HT5.out _)))
          have cN1 := hide (fun n => Calls.quiet_of_same (n := n) (net1_call (w5.drewN n) w.heap.size 0 vv n1 m2 (Blk.drewN HT5.out _)))
          have cR := hide (fun n => Calls.quiet_of_same (n := n) (red_call (w5.drewN n) w.heap.size 0 vv n1 m2 (Blk.drewN HT5.out _)))
          go_big_quiet ((first
            | (go_at_call 11; with_reducible exact cC.out _)
            | (go_at_call 12; first | (with_reducible exact cN0.out _) | (with_reducible exact cN1.out _))
            | (go_at_call 13; with_reducible exact cR.out _)))
          go_wp2_with fail
          go_roundw
          case rel => exact ⟨k + 1, _, _, _, _, by omega, by omega, (by first | exact .inl rfl | exact .inr rfl), HM2.out, rfl, rfl, by go_num, hide (Blk.drewN HT5.out _), hide (Blk.drewN HG5.out _), hide (below_drewN HB5.out _)⟩
          case measure => simp [intOf]; omega
        · have HM2 : Hid (Colour.mn m T ≤ 4611686018427387904) := hide (by have := HM.out; unfold Colour.mn; split <;> omega)
          obtain ⟨m2, hm2⟩ : ∃ m2, Colour.mn m T = m2 := ⟨_, rfl⟩
          have hmn : (if T < m then T else m) = m2 := hm2
          have HC := hide (fun W (hW : Tl W w.heap.size 1 n0 n1 m) => sent1_call W w.heap.size n0 n1 m T HM.out hW)
          rw [hm2] at HC HM2
          clear hm2
          go_wp2_with fail
          have HO2 := hide (Blk.new wr 27 #[.int .i64 0, .int .i64 A, .int .i64 N, .int .i64 T])
          have HT2 : Hid (Tl (wr.alloc (.cells #[.int .i64 0, .int .i64 A, .int .i64 N, .int .i64 T] 27)) w.heap.size 1 n0 n1 m) := hide (Blk.alloc HT.out _)
          have HG2 := hide (HG.out.alloc (.cells #[.int .i64 0, .int .i64 A, .int .i64 N, .int .i64 T] 27))
          have HB2 := hide (HB.out.alloc HB.out.size (.cells #[.int .i64 0, .int .i64 A, .int .i64 N, .int .i64 T] 27))
          have HZ : Hid (w.heap.size < wr.heap.size) := hide (Blk.lt HT.out)
          generalize (wr.alloc (.cells #[.int .i64 0, .int .i64 A, .int .i64 N, .int .i64 T] 27)) = w3 at HO2 HT2 HG2 HB2 ⊢
          generalize wr.heap.size = ob at HO2 HZ ⊢
          clear HT HG HB r0 r1 r2 r3
          go_wp2_with (go_at_call 8; refine (HC.out _ HT2.out).mono ?_; rintro e w4 ⟨rfl, hT, hO⟩; have HT4 := hide hT; have HO4 := hide (HO2.out.only hO (by have := HZ.out; omega)); have HG4 := hide (HG2.out.only hO (by have := HS.out; omega)); have HB4 := hide (HB2.out.trans (hO.below HB2.out.size (fun b hb => by omega))); clear hT hO HT2 HO2 HG2 HB2; have d3 : w4.cell? ⟨ob, 3, none⟩ = some (.int .i64 T) := HO4.out.cell 3; have g1 : w4.cell? ⟨g, 1, none⟩ = some (.int .i64 n1) := HG4.out.cell 1; have f1 : w4.frozen? ⟨g, 1, none⟩ = false := HG4.out.frozen 1)
          have HT5 := hide (Blk.far HT4.out (p := ⟨g, 1, none⟩) (by have := HS.out; show w.heap.size ≠ g; omega) (.int .i64 (wrap64 (n1 + 1))))
          have HG5 := hide (HG4.out.set_ 1 (.int .i64 (wrap64 (n1 + 1))))
          have HB5 := hide (HB4.out.trans (((Only.refl w4 (fun b => b = g)).setCell (p := ⟨g, 1, none⟩) (.inl rfl) (.int .i64 (wrap64 (n1 + 1)))).below HB4.out.size (fun b hb => by have := HS.out; omega)))
          generalize (w4.setCell ⟨g, 1, none⟩ (.int .i64 (wrap64 (n1 + 1)))) = w5 at HT5 HG5 HB5 ⊢
          clear HT4 HG4 HB4 HO4
          generalize wrap64 (n1 + 1) = vv at HT5 HG5 HB5 ⊢
          clear g1 f1 d3 HC
          have e0 : w5.cell? ⟨g, 0, none⟩ = some (.int .i64 _) := HG5.out.cell 0
          have e1 : w5.cell? ⟨g, 1, none⟩ = some (.int .i64 _) := HG5.out.cell 1
          have cC := hide (fun n => Calls.quiet_of_same (n := n) (colour_call (w5.drewN n) w.heap.size 1 n0 vv m2 (Blk.drewN HT5.out _)))
          have cN0 := hide (fun n => Calls.quiet_of_same (n := n) (net0_call (w5.drewN n) w.heap.size 1 n0 vv m2 (Blk.drewN HT5.out _)))
          have cN1 := hide (fun n => Calls.quiet_of_same (n := n) (net1_call (w5.drewN n) w.heap.size 1 n0 vv m2 (Blk.drewN HT5.out _)))
          have cR := hide (fun n => Calls.quiet_of_same (n := n) (red_call (w5.drewN n) w.heap.size 1 n0 vv m2 (Blk.drewN HT5.out _)))
          go_big_quiet ((first
            | (go_at_call 11; with_reducible exact cC.out _)
            | (go_at_call 12; first | (with_reducible exact cN0.out _) | (with_reducible exact cN1.out _))
            | (go_at_call 13; with_reducible exact cR.out _)))
          go_wp2_with fail
          go_roundw
          case rel => exact ⟨k + 1, _, _, _, _, by omega, by omega, (by first | exact .inl rfl | exact .inr rfl), HM2.out, rfl, rfl, by go_num, hide (Blk.drewN HT5.out _), hide (Blk.drewN HG5.out _), hide (below_drewN HB5.out _)⟩
          case measure => simp [intOf]; omega
      · by_cases hi1 : I = 1
        · subst hi1
          by_cases hn0 : N = 0
          · subst hn0
            have HC := hide (fun W (hW : Tl W w.heap.size c n0 n1 m) => got0_call W w.heap.size c n0 n1 m hW)
            go_wp2_with fail
            have HO2 := hide (Blk.new wr 27 #[.int .i64 1, .int .i64 A, .int .i64 0, .int .i64 T])
            have HT2 : Hid (Tl (wr.alloc (.cells #[.int .i64 1, .int .i64 A, .int .i64 0, .int .i64 T] 27)) w.heap.size c n0 n1 m) := hide (Blk.alloc HT.out _)
            have HG2 := hide (HG.out.alloc (.cells #[.int .i64 1, .int .i64 A, .int .i64 0, .int .i64 T] 27))
            have HB2 := hide (HB.out.alloc HB.out.size (.cells #[.int .i64 1, .int .i64 A, .int .i64 0, .int .i64 T] 27))
            have HZ : Hid (w.heap.size < wr.heap.size) := hide (Blk.lt HT.out)
            generalize (wr.alloc (.cells #[.int .i64 1, .int .i64 A, .int .i64 0, .int .i64 T] 27)) = w3 at HO2 HT2 HG2 HB2 ⊢
            generalize wr.heap.size = ob at HO2 HZ ⊢
            clear HT HG HB r0 r1 r2 r3
            go_wp2_with (go_at_call 9; refine (HC.out _ HT2.out).mono ?_; rintro e w4 ⟨rfl, hT, hO⟩; have HT4 := hide hT; have HO4 := hide (HO2.out.only hO (by have := HZ.out; omega)); have HG4 := hide (HG2.out.only hO (by have := HS.out; omega)); have HB4 := hide (HB2.out.trans (hO.below HB2.out.size (fun b hb => by omega))); clear hT hO HT2 HO2 HG2 HB2; have d2 : w4.cell? ⟨ob, 2, none⟩ = some (.int .i64 0) := HO4.out.cell 2; have g0 : w4.cell? ⟨g, 0, none⟩ = some (.int .i64 n0) := HG4.out.cell 0; have f0 : w4.frozen? ⟨g, 0, none⟩ = false := HG4.out.frozen 0)
            have HT5 := hide (Blk.far HT4.out (p := ⟨g, 0, none⟩) (by have := HS.out; show w.heap.size ≠ g; omega) (.int .i64 (wrap64 (n0 - 1))))
            have HG5 := hide (HG4.out.set_ 0 (.int .i64 (wrap64 (n0 - 1))))
            have HB5 := hide (HB4.out.trans (((Only.refl w4 (fun b => b = g)).setCell (p := ⟨g, 0, none⟩) (.inl rfl) (.int .i64 (wrap64 (n0 - 1)))).below HB4.out.size (fun b hb => by have := HS.out; omega)))
            generalize (w4.setCell ⟨g, 0, none⟩ (.int .i64 (wrap64 (n0 - 1)))) = w5 at HT5 HG5 HB5 ⊢
            clear HT4 HG4 HB4 HO4
            generalize wrap64 (n0 - 1) = vv at HT5 HG5 HB5 ⊢
            clear g0 f0 d2 HC
            have e0 : w5.cell? ⟨g, 0, none⟩ = some (.int .i64 _) := HG5.out.cell 0
            have e1 : w5.cell? ⟨g, 1, none⟩ = some (.int .i64 _) := HG5.out.cell 1
            have cC := hide (fun n => Calls.quiet_of_same (n := n) (colour_call (w5.drewN n) w.heap.size c vv n1 m (Blk.drewN HT5.out _)))
            have cN0 := hide (fun n => Calls.quiet_of_same (n := n) (net0_call (w5.drewN n) w.heap.size c vv n1 m (Blk.drewN HT5.out _)))
            have cN1 := hide (fun n => Calls.quiet_of_same (n := n) (net1_call (w5.drewN n) w.heap.size c vv n1 m (Blk.drewN HT5.out _)))
            have cR := hide (fun n => Calls.quiet_of_same (n := n) (red_call (w5.drewN n) w.heap.size c vv n1 m (Blk.drewN HT5.out _)))
            go_big_quiet ((first
              | (go_at_call 11; with_reducible exact cC.out _)
              | (go_at_call 12; first | (with_reducible exact cN0.out _) | (with_reducible exact cN1.out _))
              | (go_at_call 13; with_reducible exact cR.out _)))
            go_wp2_with fail
            go_roundw
            case rel => exact ⟨k + 1, _, _, _, _, by omega, by omega, hc, HM.out, rfl, rfl, by go_num, hide (Blk.drewN HT5.out _), hide (Blk.drewN HG5.out _), hide (below_drewN HB5.out _)⟩
            case measure => simp [intOf]; omega
          · by_cases hn1 : N = 1
            · subst hn1
              have HC := hide (fun W (hW : Tl W w.heap.size c n0 n1 m) => got1_call W w.heap.size c n0 n1 m hW)
              go_wp2_with fail
              have HO2 := hide (Blk.new wr 27 #[.int .i64 1, .int .i64 A, .int .i64 1, .int .i64 T])
              have HT2 : Hid (Tl (wr.alloc (.cells #[.int .i64 1, .int .i64 A, .int .i64 1, .int .i64 T] 27)) w.heap.size c n0 n1 m) := hide (Blk.alloc HT.out _)
              have HG2 := hide (HG.out.alloc (.cells #[.int .i64 1, .int .i64 A, .int .i64 1, .int .i64 T] 27))
              have HB2 := hide (HB.out.alloc HB.out.size (.cells #[.int .i64 1, .int .i64 A, .int .i64 1, .int .i64 T] 27))
              have HZ : Hid (w.heap.size < wr.heap.size) := hide (Blk.lt HT.out)
              generalize (wr.alloc (.cells #[.int .i64 1, .int .i64 A, .int .i64 1, .int .i64 T] 27)) = w3 at HO2 HT2 HG2 HB2 ⊢
              generalize wr.heap.size = ob at HO2 HZ ⊢
              clear HT HG HB r0 r1 r2 r3
              go_wp2_with (go_at_call 9; refine (HC.out _ HT2.out).mono ?_; rintro e w4 ⟨rfl, hT, hO⟩; have HT4 := hide hT; have HO4 := hide (HO2.out.only hO (by have := HZ.out; omega)); have HG4 := hide (HG2.out.only hO (by have := HS.out; omega)); have HB4 := hide (HB2.out.trans (hO.below HB2.out.size (fun b hb => by omega))); clear hT hO HT2 HO2 HG2 HB2; have d2 : w4.cell? ⟨ob, 2, none⟩ = some (.int .i64 1) := HO4.out.cell 2; have g1 : w4.cell? ⟨g, 1, none⟩ = some (.int .i64 n1) := HG4.out.cell 1; have f1 : w4.frozen? ⟨g, 1, none⟩ = false := HG4.out.frozen 1)
              have HT5 := hide (Blk.far HT4.out (p := ⟨g, 1, none⟩) (by have := HS.out; show w.heap.size ≠ g; omega) (.int .i64 (wrap64 (n1 - 1))))
              have HG5 := hide (HG4.out.set_ 1 (.int .i64 (wrap64 (n1 - 1))))
              have HB5 := hide (HB4.out.trans (((Only.refl w4 (fun b => b = g)).setCell (p := ⟨g, 1, none⟩) (.inl rfl) (.int .i64 (wrap64 (n1 - 1)))).below HB4.out.size (fun b hb => by have := HS.out; omega)))
              generalize (w4.setCell ⟨g, 1, none⟩ (.int .i64 (wrap64 (n1 - 1)))) = w5 at HT5 HG5 HB5 ⊢
              clear HT4 HG4 HB4 HO4
              generalize wrap64 (n1 - 1) = vv at HT5 HG5 HB5 ⊢
              clear g1 f1 d2 HC
              have e0 : w5.cell? ⟨g, 0, none⟩ = some (.int .i64 _) := HG5.out.cell 0
              have e1 : w5.cell? ⟨g, 1, none⟩ = some (.int .i64 _) := HG5.out.cell 1
              have cC := hide (fun n => Calls.quiet_of_same (n := n) (colour_call (w5.drewN n) w.heap.size c n0 vv m (Blk.drewN HT5.out _)))
              have cN0 := hide (fun n => Calls.quiet_of_same (n := n) (net0_call (w5.drewN n) w.heap.size c n0 vv m (Blk.drewN HT5.out _)))
              have cN1 := hide (fun n => Calls.quiet_of_same (n := n) (net1_call (w5.drewN n) w.heap.size c n0 vv m (Blk.drewN HT5.out _)))
              have cR := hide (fun n => Calls.quiet_of_same (n := n) (red_call (w5.drewN n) w.heap.size c n0 vv m (Blk.drewN HT5.out _)))
              go_big_quiet ((first
                | (go_at_call 11; with_reducible exact cC.out _)
                | (go_at_call 12; first | (with_reducible exact cN0.out _) | (with_reducible exact cN1.out _))
                | (go_at_call 13; with_reducible exact cR.out _)))
              go_wp2_with fail
              go_roundw
              case rel => exact ⟨k + 1, _, _, _, _, by omega, by omega, hc, HM.out, rfl, rfl, by go_num, hide (Blk.drewN HT5.out _), hide (Blk.drewN HG5.out _), hide (below_drewN HB5.out _)⟩
              case measure => simp [intOf]; omega
            · skip
              have HC := hide (fun W (hW : Tl W w.heap.size c n0 n1 m) => got_bad W w.heap.size c n0 n1 m N hW hn0 hn1)
              have bn0 : (N == 0) = false := by simpa using hn0
              have bn1 : (N == 1) = false := by simpa using hn1
              have bn2 : (N != 0) = true := by simpa using hn0
              have bn3 : (N != 1) = true := by simpa using hn1
              go_wp2_with fail
              have HO2 := hide (Blk.new wr 27 #[.int .i64 1, .int .i64 A, .int .i64 N, .int .i64 T])
              have HT2 : Hid (Tl (wr.alloc (.cells #[.int .i64 1, .int .i64 A, .int .i64 N, .int .i64 T] 27)) w.heap.size c n0 n1 m) := hide (Blk.alloc HT.out _)
              have HG2 := hide (HG.out.alloc (.cells #[.int .i64 1, .int .i64 A, .int .i64 N, .int .i64 T] 27))
              have HB2 := hide (HB.out.alloc HB.out.size (.cells #[.int .i64 1, .int .i64 A, .int .i64 N, .int .i64 T] 27))
              have HZ : Hid (w.heap.size < wr.heap.size) := hide (Blk.lt HT.out)
              generalize (wr.alloc (.cells #[.int .i64 1, .int .i64 A, .int .i64 N, .int .i64 T] 27)) = w3 at HO2 HT2 HG2 HB2 ⊢
              generalize wr.heap.size = ob at HO2 HZ ⊢
              clear HT HG HB r0 r1 r2 r3
              go_wp2_with (go_at_call 9; refine (HC.out _ HT2.out).mono ?_; rintro e w5 ⟨rfl, hT, hO⟩; have HT5 := hide hT; have HO5 := hide (HO2.out.only hO (by have := HZ.out; omega)); have HG5 := hide (HG2.out.only hO (by have := HS.out; omega)); have HB5 := hide (HB2.out.trans (hO.below HB2.out.size (fun b hb => by omega))); clear hT hO HT2 HO2 HG2 HB2; clear HC; have e0 : w5.cell? ⟨g, 0, none⟩ = some (.int .i64 n0) := HG5.out.cell 0; have e1 : w5.cell? ⟨g, 1, none⟩ = some (.int .i64 n1) := HG5.out.cell 1)
              have cC := hide (fun n => Calls.quiet_of_same (n := n) (colour_call (w5.drewN n) w.heap.size c n0 n1 m (Blk.drewN HT5.out _)))
              have cN0 := hide (fun n => Calls.quiet_of_same (n := n) (net0_call (w5.drewN n) w.heap.size c n0 n1 m (Blk.drewN HT5.out _)))
              have cN1 := hide (fun n => Calls.quiet_of_same (n := n) (net1_call (w5.drewN n) w.heap.size c n0 n1 m (Blk.drewN HT5.out _)))
              have cR := hide (fun n => Calls.quiet_of_same (n := n) (red_call (w5.drewN n) w.heap.size c n0 n1 m (Blk.drewN HT5.out _)))
              go_big_quiet ((first
                | (go_at_call 11; with_reducible exact cC.out _)
                | (go_at_call 12; first | (with_reducible exact cN0.out _) | (with_reducible exact cN1.out _))
                | (go_at_call 13; with_reducible exact cR.out _)))
              go_wp2_with fail
              go_roundw
              case rel => exact ⟨k + 1, _, _, _, _, by omega, by omega, hc, HM.out, rfl, rfl, by go_num, hide (Blk.drewN HT5.out _), hide (Blk.drewN HG5.out _), hide (below_drewN HB5.out _)⟩
              case measure => simp [intOf]; omega
        · rcases hc with rfl | rfl
          · skip
            have HC := hide (fun W (hW : Tl W w.heap.size 0 n0 n1 m) => flip0_call W w.heap.size n0 n1 m hW)
            have bi0 : (I == 0) = false := by simpa using hi0
            have bi1 : (I == 1) = false := by simpa using hi1
            go_wp2_with fail
            have HO2 := hide (Blk.new wr 27 #[.int .i64 I, .int .i64 A, .int .i64 N, .int .i64 T])
            have HT2 : Hid (Tl (wr.alloc (.cells #[.int .i64 I, .int .i64 A, .int .i64 N, .int .i64 T] 27)) w.heap.size 0 n0 n1 m) := hide (Blk.alloc HT.out _)
            have HG2 := hide (HG.out.alloc (.cells #[.int .i64 I, .int .i64 A, .int .i64 N, .int .i64 T] 27))
            have HB2 := hide (HB.out.alloc HB.out.size (.cells #[.int .i64 I, .int .i64 A, .int .i64 N, .int .i64 T] 27))
            have HZ : Hid (w.heap.size < wr.heap.size) := hide (Blk.lt HT.out)
            generalize (wr.alloc (.cells #[.int .i64 I, .int .i64 A, .int .i64 N, .int .i64 T] 27)) = w3 at HO2 HT2 HG2 HB2 ⊢
            generalize wr.heap.size = ob at HO2 HZ ⊢
            clear HT HG HB r0 r1 r2 r3
            go_wp2_with (go_at_call 10; refine (HC.out _ HT2.out).mono ?_; rintro e w5 ⟨rfl, hT, hO⟩; have HT5 := hide hT; have HO5 := hide (HO2.out.only hO (by have := HZ.out; omega)); have HG5 := hide (HG2.out.only hO (by have := HS.out; omega)); have HB5 := hide (HB2.out.trans (hO.below HB2.out.size (fun b hb => by omega))); clear hT hO HT2 HO2 HG2 HB2; clear HC; have e0 : w5.cell? ⟨g, 0, none⟩ = some (.int .i64 n0) := HG5.out.cell 0; have e1 : w5.cell? ⟨g, 1, none⟩ = some (.int .i64 n1) := HG5.out.cell 1)
            have cC := hide (fun n => Calls.quiet_of_same (n := n) (colour_call (w5.drewN n) w.heap.size 1 n0 n1 4611686018427387904 (Blk.drewN HT5.out _)))
            have cN0 := hide (fun n => Calls.quiet_of_same (n := n) (net0_call (w5.drewN n) w.heap.size 1 n0 n1 4611686018427387904 (Blk.drewN HT5.out _)))
            have cN1 := hide (fun n => Calls.quiet_of_same (n := n) (net1_call (w5.drewN n) w.heap.size 1 n0 n1 4611686018427387904 (Blk.drewN HT5.out _)))
            have cR := hide (fun n => Calls.quiet_of_same (n := n) (red_call (w5.drewN n) w.heap.size 1 n0 n1 4611686018427387904 (Blk.drewN HT5.out _)))
            go_big_quiet ((first
              | (go_at_call 11; with_reducible exact cC.out _)
              | (go_at_call 12; first | (with_reducible exact cN0.out _) | (with_reducible exact cN1.out _))
              | (go_at_call 13; with_reducible exact cR.out _)))
            go_wp2_with fail
            go_roundw
            case rel => exact ⟨k + 1, _, _, _, _, by omega, by omega, (by first | exact .inl rfl | exact .inr rfl), (Int.le_refl _), rfl, rfl, by go_num, hide (Blk.drewN HT5.out _), hide (Blk.drewN HG5.out _), hide (below_drewN HB5.out _)⟩
            case measure => simp [intOf]; omega
          · skip
            have HC := hide (fun W (hW : Tl W w.heap.size 1 n0 n1 m) => flip1_call W w.heap.size n0 n1 m hW)
            have bi0 : (I == 0) = false := by simpa using hi0
            have bi1 : (I == 1) = false := by simpa using hi1
            go_wp2_with fail
            have HO2 := hide (Blk.new wr 27 #[.int .i64 I, .int .i64 A, .int .i64 N, .int .i64 T])
            have HT2 : Hid (Tl (wr.alloc (.cells #[.int .i64 I, .int .i64 A, .int .i64 N, .int .i64 T] 27)) w.heap.size 1 n0 n1 m) := hide (Blk.alloc HT.out _)
            have HG2 := hide (HG.out.alloc (.cells #[.int .i64 I, .int .i64 A, .int .i64 N, .int .i64 T] 27))
            have HB2 := hide (HB.out.alloc HB.out.size (.cells #[.int .i64 I, .int .i64 A, .int .i64 N, .int .i64 T] 27))
            have HZ : Hid (w.heap.size < wr.heap.size) := hide (Blk.lt HT.out)
            generalize (wr.alloc (.cells #[.int .i64 I, .int .i64 A, .int .i64 N, .int .i64 T] 27)) = w3 at HO2 HT2 HG2 HB2 ⊢
            generalize wr.heap.size = ob at HO2 HZ ⊢
            clear HT HG HB r0 r1 r2 r3
            go_wp2_with (go_at_call 10; refine (HC.out _ HT2.out).mono ?_; rintro e w5 ⟨rfl, hT, hO⟩; have HT5 := hide hT; have HO5 := hide (HO2.out.only hO (by have := HZ.out; omega)); have HG5 := hide (HG2.out.only hO (by have := HS.out; omega)); have HB5 := hide (HB2.out.trans (hO.below HB2.out.size (fun b hb => by omega))); clear hT hO HT2 HO2 HG2 HB2; clear HC; have e0 : w5.cell? ⟨g, 0, none⟩ = some (.int .i64 n0) := HG5.out.cell 0; have e1 : w5.cell? ⟨g, 1, none⟩ = some (.int .i64 n1) := HG5.out.cell 1)
            have cC := hide (fun n => Calls.quiet_of_same (n := n) (colour_call (w5.drewN n) w.heap.size 0 n0 n1 4611686018427387904 (Blk.drewN HT5.out _)))
            have cN0 := hide (fun n => Calls.quiet_of_same (n := n) (net0_call (w5.drewN n) w.heap.size 0 n0 n1 4611686018427387904 (Blk.drewN HT5.out _)))
            have cN1 := hide (fun n => Calls.quiet_of_same (n := n) (net1_call (w5.drewN n) w.heap.size 0 n0 n1 4611686018427387904 (Blk.drewN HT5.out _)))
            have cR := hide (fun n => Calls.quiet_of_same (n := n) (red_call (w5.drewN n) w.heap.size 0 n0 n1 4611686018427387904 (Blk.drewN HT5.out _)))
            go_big_quiet ((first
              | (go_at_call 11; with_reducible exact cC.out _)
              | (go_at_call 12; first | (with_reducible exact cN0.out _) | (with_reducible exact cN1.out _))
              | (go_at_call 13; with_reducible exact cR.out _)))
            go_wp2_with fail
            go_roundw
            case rel => exact ⟨k + 1, _, _, _, _, by omega, by omega, (by first | exact .inl rfl | exact .inr rfl), (Int.le_refl _), rfl, rfl, by go_num, hide (Blk.drewN HT5.out _), hide (Blk.drewN HG5.out _), hide (below_drewN HB5.out _)⟩
            case measure => simp [intOf]; omega
    · have b1 : ¬ ((k : Int) < (l0.length : Int)) ∨ ¬ ((k : Int) < 1000) := by omega
      clear hc
      rcases Nat.lt_or_ge k l0.length with hlt3 | hlt3
      · have b2 : (k : Int) < (l0.length : Int) := by omega
        have b3 : ¬ (k : Int) < 1000 := by omega
        clear b1 hlt
        go_wp2_with (go_at_call 14; refine (awake_call _).mono ?_; rintro e w5 ⟨rfl, hb5⟩)
        go_ret
        exact ⟨rfl, below_step HB.out hb5⟩
      · have b2 : ¬ (k : Int) < (l0.length : Int) := by omega
        clear b1 hlt
        go_wp2_with (go_at_call 14; refine (awake_call _).mono ?_; rintro e w5 ⟨rfl, hb5⟩)
        go_ret
        exact ⟨rfl, below_step HB.out hb5⟩
end Go.Proofs.Ytkchbnmnkcffbaa.colourCounts
