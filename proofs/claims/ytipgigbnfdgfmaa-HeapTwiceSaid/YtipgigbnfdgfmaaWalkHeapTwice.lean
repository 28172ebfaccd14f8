/- The walk of HeapTwice. -/
import Derived.Test.YtipgigbnfdgfmaaHE
import Derived.Test.YtipgigbnfdgfmaaSameH
import Derived.Test.YtipgigbnfdgfmaaKindsHeapTwice
import Derived.StillTailTactics
import Derived.Deep.RegionHeld3
import Derived.Deep.QuietTactic
import Derived.Deep.RegionLaw
import Derived.Deep.RegionWith
import Derived.BigQuiet
namespace Go.Proofs.Ytipgigbnfdgfmaa.heapTwice
open Go.Proofs Go.RowKit Go.Deep Go.Proofs.Ytipgigbnfdgfmaa.Types Go.Proofs.Ytipgigbnfdgfmaa.Heap Go.Proofs.Ytipgigbnfdgfmaa.Row Go.Proofs.Ytipgigbnfdgfmaa.HQ Go.Proofs.Ytipgigbnfdgfmaa.Same Go.Proofs.YtipgigbnfdgfmaaW.PrintWords Go.Proofs.YtipgigbnfdgfmaaW.PrintLast Go.Proofs.YtipgigbnfdgfmaaW.PrintMore
set_option linter.unusedVariables false
set_option linter.unusedSimpArgs false
attribute [local go_sem high] eqRun
set_option maxHeartbeats 16000000 in
set_option maxRecDepth 100000 in
theorem walk (x0 : S25) (w0 : I25 x0) (x1 : S25) (w1 : I25 x1) (A2 : Option Addr) (c2 : Nat) (l2 : List S25) (hc2 : l2.length ≤ c2) (w2 : ∀ y ∈ l2, I25 y) (y2 : l2.length * 56 ≤ 140737488351232) (w : World) (hr2 : Kd.C k25 w A2 l2.length l2) :
    Calls Try.prog 3 #[.agg #[.int .i64 x0.f0.f0, .int .i64 x0.f0.f1, .int .i64 x0.f0.f2, .int .i64 x0.f1, .int .i64 x0.f2, .int .i64 x0.f3, .bool x0.f4], .agg #[.int .i64 x1.f0.f0, .int .i64 x1.f0.f1, .int .i64 x1.f0.f2, .int .i64 x1.f1, .int .i64 x1.f2, .int .i64 x1.f3, .bool x1.f4], .slice A2 l2.length c2] w fun e w' => e = .returned (.bool true) ∧ Below w.heap.size w w' := by
  have HR := hide hr2
  have HY := hide y2
  clear hr2 y2 w0 w1 w2
  go_enter Try.func3, Try.ntmps3
  go_wp2_with fail
  have HA1 := hide ((Blk.new w 25 #[.int .i64 x0.f0.f0, .int .i64 x0.f0.f1, .int .i64 x0.f0.f2, .int .i64 x0.f1, .int .i64 x0.f2, .int .i64 x0.f3, .bool x0.f4]).alloc (.cells #[.int .i64 x1.f0.f0, .int .i64 x1.f0.f1, .int .i64 x1.f0.f2, .int .i64 x1.f1, .int .i64 x1.f2, .int .i64 x1.f3, .bool x1.f4] 25))
  have HB1 := hide (Blk.new (w.alloc (.cells #[.int .i64 x0.f0.f0, .int .i64 x0.f0.f1, .int .i64 x0.f0.f2, .int .i64 x0.f1, .int .i64 x0.f2, .int .i64 x0.f3, .bool x0.f4] 25)) 25 #[.int .i64 x1.f0.f0, .int .i64 x1.f0.f1, .int .i64 x1.f0.f2, .int .i64 x1.f1, .int .i64 x1.f2, .int .i64 x1.f3, .bool x1.f4])
  have HBl1 : Hid (Below w.heap.size w ((w.alloc (.cells #[.int .i64 x0.f0.f0, .int .i64 x0.f0.f1, .int .i64 x0.f0.f2, .int .i64 x0.f1, .int .i64 x0.f2, .int .i64 x0.f3, .bool x0.f4] 25)).alloc (.cells #[.int .i64 x1.f0.f0, .int .i64 x1.f0.f1, .int .i64 x1.f0.f2, .int .i64 x1.f1, .int .i64 x1.f2, .int .i64 x1.f3, .bool x1.f4] 25))) := hide (((Below.refl w.heap.size w).alloc (Nat.le_refl _) _).alloc (by simp) _)
  have HS1 : Hid (((w.alloc (.cells #[.int .i64 x0.f0.f0, .int .i64 x0.f0.f1, .int .i64 x0.f0.f2, .int .i64 x0.f1, .int .i64 x0.f2, .int .i64 x0.f3, .bool x0.f4] 25)).alloc (.cells #[.int .i64 x1.f0.f0, .int .i64 x1.f0.f1, .int .i64 x1.f0.f2, .int .i64 x1.f1, .int .i64 x1.f2, .int .i64 x1.f3, .bool x1.f4] 25)).heap.size = w.heap.size + 2) := hide (by simp)
  generalize ((w.alloc (.cells #[.int .i64 x0.f0.f0, .int .i64 x0.f0.f1, .int .i64 x0.f0.f2, .int .i64 x0.f1, .int .i64 x0.f2, .int .i64 x0.f3, .bool x0.f4] 25)).alloc (.cells #[.int .i64 x1.f0.f0, .int .i64 x1.f0.f1, .int .i64 x1.f0.f2, .int .i64 x1.f1, .int .i64 x1.f2, .int .i64 x1.f3, .bool x1.f4] 25)) = W1 at HA1 HB1 HBl1 HS1 ⊢
  rw [World.size_alloc] at HB1
  obtain ⟨ga, hga⟩ : ∃ ga, w.heap.size = ga := ⟨_, rfl⟩
  have HGA := hide hga
  rw [hga] at HA1 HB1 HS1 ⊢
  obtain ⟨gb, hgb⟩ : ∃ gb, ga + 1 = gb := ⟨_, rfl⟩
  have HGB := hide hgb
  rw [hgb] at HB1 ⊢
  clear hga hgb
  refine (qs_new W1.heap.size w W1 HBl1.out (by have := HS1.out; have := HGA.out; omega) (Nat.le_refl _)).mono ?_
  rintro e w2 ⟨rfl, hq, hb⟩
  have HQ2 := hide hq
  have HA2 := hide (HA1.out.below' hb)
  have HB2 := hide (HB1.out.below' hb)
  clear hq hb HA1 HB1 HBl1
  obtain ⟨g, hg⟩ : ∃ g, W1.heap.size = g := ⟨_, rfl⟩
  rw [hg] at HQ2 HS1 ⊢
  clear hg
  have HNE : Hid (ga ≠ g ∧ gb ≠ g ∧ ga < g ∧ gb < g ∧ ga ≠ gb) := hide (by have := HS1.out; have := HGB.out; refine ⟨by omega, by omega, by omega, by omega, by omega⟩)
  have a1 : w2.cell? ⟨ga, 1, none⟩ = some (.int .i64 x0.f0.f1) := HA2.out.cell 1
  have a5 : w2.cell? ⟨ga, 5, none⟩ = some (.int .i64 x0.f3) := HA2.out.cell 5
  have b1 : w2.cell? ⟨gb, 1, none⟩ = some (.int .i64 x1.f0.f1) := HB2.out.cell 1
  have b5 : w2.cell? ⟨gb, 5, none⟩ = some (.int .i64 x1.f3) := HB2.out.cell 5
  have f1 : w2.frozen? ⟨gb, 1, none⟩ = false := HB2.out.frozen 1
  have f5 : w2.frozen? ⟨gb, 5, none⟩ = false := HB2.out.frozen 5
  have hne := HNE.out.2.2.2.2
  have hne2 := fun e => hne (Eq.symm e)
  have HA3 := hide ((HA2.out.far (p := ⟨gb, 1, none⟩) hne (.int .i64 x0.f0.f1)).far (p := ⟨gb, 5, none⟩) hne (.int .i64 x0.f3))
  have HB3 : Hid (Blk ((w2.setCell ⟨gb, 1, none⟩ (.int .i64 x0.f0.f1)).setCell ⟨gb, 5, none⟩ (.int .i64 x0.f3)) gb 25 #[.int .i64 x1.f0.f0, .int .i64 x0.f0.f1, .int .i64 x1.f0.f2, .int .i64 x1.f1, .int .i64 x1.f2, .int .i64 x0.f3, .bool x1.f4]) := hide ((HB2.out.set_ 1 (.int .i64 x0.f0.f1)).set_ 5 (.int .i64 x0.f3))
  have HQ3 : Hid (Qs g w ((w2.setCell ⟨gb, 1, none⟩ (.int .i64 x0.f0.f1)).setCell ⟨gb, 5, none⟩ (.int .i64 x0.f3)) g []) := hide (HQ2.out.only (S := fun b => b = gb) (((Only.refl w2 (fun b => b = gb)).setCell (p := ⟨gb, 1, none⟩) (.inl rfl) _).setCell (p := ⟨gb, 5, none⟩) (.inl rfl) _) (fun e => HNE.out.2.1 e.symm) (fun b hb e => by have := HNE.out; omega) (fun b e => by have := HGA.out; have := HGB.out; omega))
  obtain ⟨W3, hW3⟩ : ∃ W3, ((w2.setCell ⟨gb, 1, none⟩ (.int .i64 x0.f0.f1)).setCell ⟨gb, 5, none⟩ (.int .i64 x0.f3)) = W3 := ⟨_, rfl⟩
  rw [hW3] at HA3 HB3 HQ3
  have u0 : W3.cell? ⟨ga, 0, none⟩ = some (.int .i64 x0.f0.f0) := HA3.out.cell 0
  have u1 : W3.cell? ⟨ga, 1, none⟩ = some (.int .i64 x0.f0.f1) := HA3.out.cell 1
  have u2 : W3.cell? ⟨ga, 2, none⟩ = some (.int .i64 x0.f0.f2) := HA3.out.cell 2
  have u3 : W3.cell? ⟨ga, 3, none⟩ = some (.int .i64 x0.f1) := HA3.out.cell 3
  have u4 : W3.cell? ⟨ga, 4, none⟩ = some (.int .i64 x0.f2) := HA3.out.cell 4
  have u5 : W3.cell? ⟨ga, 5, none⟩ = some (.int .i64 x0.f3) := HA3.out.cell 5
  have u6 : W3.cell? ⟨ga, 6, none⟩ = some (.bool x0.f4) := HA3.out.cell 6
  have HBag : Hid (Bag (pushL [] x0) x0 []) := hide ⟨pushL_perm [] x0, fun m hm => by simp at hm⟩
  have HP1 := hide (qs_push_new HQ3.out x0 (by simp) (fun x hx => by simp at hx))
  have HP2 := hide (fun W (hW : Qs g w W g (pushL [] x0)) => qs_push_twice hW (⟨⟨x1.f0.f0, x0.f0.f1, x1.f0.f2⟩, x1.f1, x1.f2, x0.f3, x1.f4⟩ : S25) (by rw [HBag.out.len]; simp) ⟨x0, HBag.out.mem, rfl, rfl⟩)
  have HP3 := hide (fun W (hW : Qs g w W g (pushL [] x0)) => qs_len hW)
  rw [show (pushL [] x0).length = 1 by rw [HBag.out.len]; rfl] at HP3
  unfold cM c25 at HP1 HP2
  clear HQ2 HA2 HB2 hne hne2
  go_wp2_with (first
    | (go_at_call 9; refine HP1.out.mono ?_; rintro e w4 ⟨rfl, hq, ho⟩; have HQ4 := hide hq; have HA4 := hide (HA3.out.only ho (fun e => by rcases e with e | e; exact HNE.out.1 e; have := HNE.out; omega)); have HB4 := hide (HB3.out.only ho (fun e => by rcases e with e | e; exact HNE.out.2.1 e; have := HNE.out; omega)); clear hq ho HP1 HQ3 HA3 HB3; have y0 : w4.cell? ⟨gb, 0, none⟩ = some (.int .i64 x1.f0.f0) := HB4.out.cell 0; have y1 : w4.cell? ⟨gb, 1, none⟩ = some (.int .i64 x0.f0.f1) := HB4.out.cell 1; have y2 : w4.cell? ⟨gb, 2, none⟩ = some (.int .i64 x1.f0.f2) := HB4.out.cell 2; have y3 : w4.cell? ⟨gb, 3, none⟩ = some (.int .i64 x1.f1) := HB4.out.cell 3; have y4 : w4.cell? ⟨gb, 4, none⟩ = some (.int .i64 x1.f2) := HB4.out.cell 4; have y5 : w4.cell? ⟨gb, 5, none⟩ = some (.int .i64 x0.f3) := HB4.out.cell 5; have y6 : w4.cell? ⟨gb, 6, none⟩ = some (.bool x1.f4) := HB4.out.cell 6)
    | (go_at_call 9; refine (HP2.out _ HQ4.out).mono ?_; rintro e w5 ⟨rfl, hq, hb⟩; have HQ5 := hide hq; have HA5 := hide (HA4.out.below' hb); have HB5 := hide (HB4.out.below' hb); clear hq hb HP2 HQ4 HA4 HB4)
    | (go_at_call 10; refine (HP3.out _ HQ5.out).mono ?_; rintro e w6 ⟨rfl, rfl⟩; clear HP3))
  have HL6 : Hid ((pushL [] x0).length ≤ 0 + 1) := hide (by rw [HBag.out.len]; simp)
  clear hW3 
  go_loopw [8] (fun iv wr => ∃ (k : Nat) (l R : List S25), iv = .int .i64 k ∧ k ≤ l2.length ∧ k ≤ 100 ∧ Hid (Qs g w wr g l) ∧ Hid (Bag l x0 R) ∧ Hid (l.length ≤ k + 1) ∧ Hid (Blk wr ga 25 #[.int .i64 x0.f0.f0, .int .i64 x0.f0.f1, .int .i64 x0.f0.f2, .int .i64 x0.f1, .int .i64 x0.f2, .int .i64 x0.f3, .bool x0.f4]) ∧ Hid (Blk wr gb 25 #[.int .i64 x1.f0.f0, .int .i64 x0.f0.f1, .int .i64 x1.f0.f2, .int .i64 x1.f1, .int .i64 x1.f2, .int .i64 x0.f3, .bool x1.f4])) (fun iv _ => l2.length - (intOf iv).toNat)
  case atStart => exact ⟨0, _, _, rfl, Nat.zero_le _, by omega, HQ5, HBag, HL6, HA5, HB5⟩
  case round =>
    obtain ⟨k, l, R, rfl, hk, hk2, HQ, HBg, HLn, HA, HB⟩ := hrel
    clear HQ5 HBag HL6 HA5 HB5
    by_cases hlt : k < l2.length ∧ k < 100
    · obtain ⟨hlt1, hlt2⟩ := hlt
      obtain ⟨ad, rfl, q0, q1, q2, q3, q4, q5, q6⟩ := at_S25 (Kd.C_below HR.out HQ.out.bel) hlt1
      have t1 : (k : Int) < (l2.length : Int) := by omega
      have t2 : (k : Int) < 100 := by omega
      have t3 : decide ((k : Int) < (l2.length : Int)) = true := decide_eq_true t1
      have t4 : decide (k < l2.length) = true := decide_eq_true hlt1
      have t5 : decide ((k : Int) < 100) = true := decide_eq_true t2
      have t6 : decide (k < 100) = true := decide_eq_true hlt2
      obtain ⟨y, hy⟩ : ∃ y, l2[k] = y := ⟨_, rfl⟩
      rw [hy] at q0 q1 q2 q3 q4 q5 q6
      clear hy
      have hpush : ∃ (ans : Int) (l' R' : List S25), Bag l' x0 R' ∧ l'.length ≤ k + 2 ∧ Calls Try.prog 9 #[.pointer (some ⟨g, 0, none⟩), .agg (cM y).toArray] wr fun e w' => e = .returned (.int .i64 ans) ∧ Qs g w w' g l' ∧ Only wr w' (fun b => b = g ∨ g ≤ b) := by
        by_cases hex : ∃ x ∈ l, isOf y.f0.f1 y.f3 x
        · refine ⟨8, l, R, HBg.out, by have := HLn.out; omega, (qs_push_twice HQ.out y (by have := HLn.out; omega) hex).mono ?_⟩
          rintro e w' ⟨rfl, h1, h2⟩
          exact ⟨rfl, h1, only_of_below h2 _⟩
        · have hno : ∀ x ∈ l, ¬ isOf y.f0.f1 y.f3 x := fun x hx hq => hex ⟨x, hx, hq⟩
          refine ⟨0, pushL l y, y :: R, HBg.out.push (pushL_perm l y) (fun hq => hno x0 HBg.out.mem ⟨hq.1.symm, hq.2.symm⟩), by rw [(pushL_perm l y).length_eq]; have := HLn.out; simp; omega, qs_push_new HQ.out y (by have := HLn.out; omega) hno⟩
      obtain ⟨ans, l', R', hB', hL', hC'⟩ := hpush
      have HB' := hide hB'
      have HL' := hide hL'
      have HC' := hide hC'
      clear hB' hL' hC'
      unfold cM c25 at HC'
      go_wp2_with (go_at_call 9; refine HC'.out.mono ?_; rintro e w7 ⟨rfl, hq, ho⟩; have HQ7 := hide hq; have HA7 := hide (HA.out.only ho (fun e => by rcases e with e | e; exact HNE.out.1 e; have := HNE.out; omega)); have HB7 := hide (HB.out.only ho (fun e => by rcases e with e | e; exact HNE.out.2.1 e; have := HNE.out; omega)); clear hq ho HC')
      go_roundw
      case rel => exact ⟨k + 1, l', R', by go_num, by omega, by omega, HQ7, HB', HL', HA7, HB7⟩
      case measure => simp [intOf]; omega
    · have t5 : decide ((k : Int) < (l2.length : Int)) = decide (k < l2.length) := by simp
      have hor : ((k : Int) < (l2.length : Int) ∧ ¬ (k : Int) < 100) ∨ ¬ (k : Int) < (l2.length : Int) := by omega
      have HHk : Hid (k ≤ 100) := hide hk2
      clear hlt t5 hk hk2
      have HCut := hide (qs_cut_bag HQ.out x0 R (by have := HLn.out; have := HHk.out; omega) HBg.out)
      unfold cM c25 at HCut
      have u1 : wr.cell? ⟨ga, 1, none⟩ = some (.int .i64 x0.f0.f1) := HA.out.cell 1
      have u5 : wr.cell? ⟨ga, 5, none⟩ = some (.int .i64 x0.f3) := HA.out.cell 5
      rcases hor with ⟨t1, t2⟩ | t1
      all_goals (
        go_wp2_with fail
        refine HCut.out.mono ?_
        rintro e w7 ⟨rfl, ⟨l7, hq, hp⟩, ho⟩
        have HQ7 := hide hq
        have HP7 := hide hp
        have HA7 := hide (HA.out.only ho (fun e => by rcases e with e | e; exact HNE.out.1 e; have := HNE.out; omega))
        have HB7 := hide (HB.out.only ho (fun e => by rcases e with e | e; exact HNE.out.2.1 e; have := HNE.out; omega))
        clear hq hp ho HCut u1 u5
        rename_i K1 h1 K2 h2
        have HK := hide h1
        clear h1
        go_wp2_with fail
        have HQ8 := hide (HQ7.out.alloc (.cells #[.int .i64 x0.f0.f0, .int .i64 x0.f0.f1, .int .i64 x0.f0.f2, .int .i64 x0.f1, .int .i64 x0.f2, .int .i64 x0.f3, .bool x0.f4] 25))
        have HA8 := hide (HA7.out.alloc (.cells #[.int .i64 x0.f0.f0, .int .i64 x0.f0.f1, .int .i64 x0.f0.f2, .int .i64 x0.f1, .int .i64 x0.f2, .int .i64 x0.f3, .bool x0.f4] 25))
        have HB8 := hide (HB7.out.alloc (.cells #[.int .i64 x0.f0.f0, .int .i64 x0.f0.f1, .int .i64 x0.f0.f2, .int .i64 x0.f1, .int .i64 x0.f2, .int .i64 x0.f3, .bool x0.f4] 25))
        have HM8 := hide (Blk.new w7 25 #[.int .i64 x0.f0.f0, .int .i64 x0.f0.f1, .int .i64 x0.f0.f2, .int .i64 x0.f1, .int .i64 x0.f2, .int .i64 x0.f3, .bool x0.f4])
        generalize w7.alloc (.cells #[.int .i64 x0.f0.f0, .int .i64 x0.f0.f1, .int .i64 x0.f0.f2, .int .i64 x0.f1, .int .i64 x0.f2, .int .i64 x0.f3, .bool x0.f4] 25) = w8 at HQ8 HA8 HB8 HM8 ⊢
        generalize w7.heap.size = gm at HM8 ⊢
        refine HK.out _ _ ?_
        clear HK K1 HQ7 HA7 HB7
        have m0 : w8.cell? ⟨gm, 0, none⟩ = some (.int .i64 x0.f0.f0) := HM8.out.cell 0
        have m1 : w8.cell? ⟨gm, 1, none⟩ = some (.int .i64 x0.f0.f1) := HM8.out.cell 1
        have m2 : w8.cell? ⟨gm, 2, none⟩ = some (.int .i64 x0.f0.f2) := HM8.out.cell 2
        have m3 : w8.cell? ⟨gm, 3, none⟩ = some (.int .i64 x0.f1) := HM8.out.cell 3
        have m4 : w8.cell? ⟨gm, 4, none⟩ = some (.int .i64 x0.f2) := HM8.out.cell 4
        have m5 : w8.cell? ⟨gm, 5, none⟩ = some (.int .i64 x0.f3) := HM8.out.cell 5
        have m6 : w8.cell? ⟨gm, 6, none⟩ = some (.bool x0.f4) := HM8.out.cell 6
        have u0 : w8.cell? ⟨ga, 0, none⟩ = some (.int .i64 x0.f0.f0) := HA8.out.cell 0
        have u1 : w8.cell? ⟨ga, 1, none⟩ = some (.int .i64 x0.f0.f1) := HA8.out.cell 1
        have u2 : w8.cell? ⟨ga, 2, none⟩ = some (.int .i64 x0.f0.f2) := HA8.out.cell 2
        have u3 : w8.cell? ⟨ga, 3, none⟩ = some (.int .i64 x0.f1) := HA8.out.cell 3
        have u4 : w8.cell? ⟨ga, 4, none⟩ = some (.int .i64 x0.f2) := HA8.out.cell 4
        have u5 : w8.cell? ⟨ga, 5, none⟩ = some (.int .i64 x0.f3) := HA8.out.cell 5
        have u6 : w8.cell? ⟨ga, 6, none⟩ = some (.bool x0.f4) := HA8.out.cell 6
        have v0 : w8.cell? ⟨gb, 0, none⟩ = some (.int .i64 x1.f0.f0) := HB8.out.cell 0
        have v1 : w8.cell? ⟨gb, 1, none⟩ = some (.int .i64 x0.f0.f1) := HB8.out.cell 1
        have v2 : w8.cell? ⟨gb, 2, none⟩ = some (.int .i64 x1.f0.f2) := HB8.out.cell 2
        have v3 : w8.cell? ⟨gb, 3, none⟩ = some (.int .i64 x1.f1) := HB8.out.cell 3
        have v4 : w8.cell? ⟨gb, 4, none⟩ = some (.int .i64 x1.f2) := HB8.out.cell 4
        have v5 : w8.cell? ⟨gb, 5, none⟩ = some (.int .i64 x0.f3) := HB8.out.cell 5
        have v6 : w8.cell? ⟨gb, 6, none⟩ = some (.bool x1.f4) := HB8.out.cell 6
        have n1 := eqM_refl x0
        unfold eqM at n1
        go_wp2_with fail
        have hno : ∀ q ∈ l7, ¬ isOf x0.f0.f1 x0.f3 q := fun q hq => HBg.out.2 q (HP7.out.mem_iff.1 hq)
        have hl7 : l7.length < 16384 := by have h1 := HP7.out.length_eq; have h2 := HBg.out.len; have h3 := HLn.out; have h4 := HHk.out; omega
        have HPb := hide (qs_push_new HQ8.out (⟨⟨x1.f0.f0, x0.f0.f1, x1.f0.f2⟩, x1.f1, x1.f2, x0.f3, x1.f4⟩ : S25) hl7 hno)
        unfold cM c25 at HPb
        refine HPb.out.mono ?_
        rintro e w9 ⟨rfl, hq, ho⟩
        have HQ9 := hide hq
        have HA9 := hide (HA8.out.only ho (fun e => by rcases e with e | e; exact HNE.out.1 e; have := HNE.out; omega))
        clear hq ho HPb
        have u0 : w9.cell? ⟨ga, 0, none⟩ = some (.int .i64 x0.f0.f0) := HA9.out.cell 0
        have u1 : w9.cell? ⟨ga, 1, none⟩ = some (.int .i64 x0.f0.f1) := HA9.out.cell 1
        have u2 : w9.cell? ⟨ga, 2, none⟩ = some (.int .i64 x0.f0.f2) := HA9.out.cell 2
        have u3 : w9.cell? ⟨ga, 3, none⟩ = some (.int .i64 x0.f1) := HA9.out.cell 3
        have u4 : w9.cell? ⟨ga, 4, none⟩ = some (.int .i64 x0.f2) := HA9.out.cell 4
        have u5 : w9.cell? ⟨ga, 5, none⟩ = some (.int .i64 x0.f3) := HA9.out.cell 5
        have u6 : w9.cell? ⟨ga, 6, none⟩ = some (.bool x0.f4) := HA9.out.cell 6
        have HPa := hide (qs_push_twice HQ9.out x0 (by rw [(pushL_perm _ _).length_eq]; simp only [List.length_cons]; omega) ⟨(⟨⟨x1.f0.f0, x0.f0.f1, x1.f0.f2⟩, x1.f1, x1.f2, x0.f3, x1.f4⟩ : S25), (pushL_perm _ _).mem_iff.2 (List.mem_cons_self), rfl, rfl⟩)
        unfold cM c25 at HPa
        go_wp2_with (go_at_call 9; refine HPa.out.mono ?_; rintro e w10 ⟨rfl, hq, hb⟩)
        go_ret
        exact ⟨rfl, hq.bel⟩)
end Go.Proofs.Ytipgigbnfdgfmaa.heapTwice
