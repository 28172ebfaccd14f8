/- The walk of LadderTwice. (Written by wip/t08/twicegen.py.) -/
import Derived.Test.YtkhdghlgkljdgaaLO
import Derived.Test.YtkhdghlgkljdgaaSameL
import Derived.Test.YtkhdghlgkljdgaaKindsLadderTwice
namespace Go.Proofs.Ytkhdghlgkljdgaa.ladderTwice
open Go.Proofs Go.RowKit Go.Deep Go.Proofs.Ytkhdghlgkljdgaa.SortPure Go.Proofs.Ytkhdghlgkljdgaa.Types Go.Proofs.Ytkhdghlgkljdgaa.Heap Go.Proofs.Ytkhdghlgkljdgaa.Row Go.Proofs.Ytkhdghlgkljdgaa.CQ Go.Proofs.Ytkhdghlgkljdgaa.LQ Go.Proofs.Ytkhdghlgkljdgaa.Ord Go.Proofs.Ytkhdghlgkljdgaa.Sorted Go.Proofs.Ytkhdghlgkljdgaa.Same Go.Proofs.YtkhdghlgkljdgaaW.PrintWords Go.Proofs.YtkhdghlgkljdgaaW.PrintLast Go.Proofs.YtkhdghlgkljdgaaW.PrintMore
set_option linter.unusedVariables false
set_option linter.unusedSimpArgs false
attribute [local go_sem high] eqRun
theorem kpb {X : Nat → Prop} {w w' : World} {gg t : Nat} {cs : Array Value} (h : Blk w gg t cs) (hk : Kp X w w') (hx : X gg) : Blk w' gg t cs := (hk gg hx).trans h
theorem cs_lift {X : Nat → Prop} {w W1 w2 : World} {g : Nat} {wd : Int} {sl : List M} (h : Cs (fun _ => False) W1 w2 g wd sl) (hb : Below w.heap.size w W1) (hX : ∀ x, X x → x < W1.heap.size) : Cs X w w2 g wd sl :=
  ⟨h.at_.to (fun x hx _ => ⟨Nat.le_trans hb.size hx.1, fun q => by have := hX x q; omega⟩), below_step hb h.bel, fun x hx => Nat.lt_of_lt_of_le (hX x hx) h.bel.size⟩
set_option maxHeartbeats 16000000 in
set_option maxRecDepth 100000 in
theorem walk (a0 : Int) (w0 : (Lit.int .i64 a0).wf = true) (x1 : S25) (w1 : I25 x1) (x2 : S25) (w2 : I25 x2) (A3 : Option Addr) (c3 : Nat) (l3 : List S25) (hc3 : l3.length ≤ c3) (w3 : ∀ y ∈ l3, I25 y) (y3 : l3.length * 56 ≤ 140737488351232) (w : World) (hr3 : Kd.C k25 w A3 l3.length l3) :
    Calls Try.prog 3 #[.int .i64 a0, .agg #[.int .i64 x1.f0.f0, .int .i64 x1.f0.f1, .int .i64 x1.f0.f2, .int .i64 x1.f1, .int .i64 x1.f2, .int .i64 x1.f3, .bool x1.f4], .agg #[.int .i64 x2.f0.f0, .int .i64 x2.f0.f1, .int .i64 x2.f0.f2, .int .i64 x2.f1, .int .i64 x2.f2, .int .i64 x2.f3, .bool x2.f4], .slice A3 l3.length c3] w fun e w' => e = .returned (.bool true) ∧ Below w.heap.size w w' := by
  have HR := hide hr3
  have HY := hide y3
  have HW3 := hide w3
  clear hr3 y3 w0 w1 w2 w3
  go_enter Try.func3, Try.ntmps3
  go_wp2_with fail
  have HA1 := hide ((Blk.new w 25 #[.int .i64 x1.f0.f0, .int .i64 x1.f0.f1, .int .i64 x1.f0.f2, .int .i64 x1.f1, .int .i64 x1.f2, .int .i64 x1.f3, .bool x1.f4]).alloc (.cells #[.int .i64 x2.f0.f0, .int .i64 x2.f0.f1, .int .i64 x2.f0.f2, .int .i64 x2.f1, .int .i64 x2.f2, .int .i64 x2.f3, .bool x2.f4] 25))
  have HB1 := hide (Blk.new (w.alloc (.cells #[.int .i64 x1.f0.f0, .int .i64 x1.f0.f1, .int .i64 x1.f0.f2, .int .i64 x1.f1, .int .i64 x1.f2, .int .i64 x1.f3, .bool x1.f4] 25)) 25 #[.int .i64 x2.f0.f0, .int .i64 x2.f0.f1, .int .i64 x2.f0.f2, .int .i64 x2.f1, .int .i64 x2.f2, .int .i64 x2.f3, .bool x2.f4])
  have HBl1 : Hid (Below w.heap.size w ((w.alloc (.cells #[.int .i64 x1.f0.f0, .int .i64 x1.f0.f1, .int .i64 x1.f0.f2, .int .i64 x1.f1, .int .i64 x1.f2, .int .i64 x1.f3, .bool x1.f4] 25)).alloc (.cells #[.int .i64 x2.f0.f0, .int .i64 x2.f0.f1, .int .i64 x2.f0.f2, .int .i64 x2.f1, .int .i64 x2.f2, .int .i64 x2.f3, .bool x2.f4] 25))) := hide (((Below.refl w.heap.size w).alloc (Nat.le_refl _) _).alloc ((Below.refl w.heap.size w).alloc (Nat.le_refl _) (.cells #[.int .i64 x1.f0.f0, .int .i64 x1.f0.f1, .int .i64 x1.f0.f2, .int .i64 x1.f1, .int .i64 x1.f2, .int .i64 x1.f3, .bool x1.f4] 25)).size _)
  have HS1 : Hid (((w.alloc (.cells #[.int .i64 x1.f0.f0, .int .i64 x1.f0.f1, .int .i64 x1.f0.f2, .int .i64 x1.f1, .int .i64 x1.f2, .int .i64 x1.f3, .bool x1.f4] 25)).alloc (.cells #[.int .i64 x2.f0.f0, .int .i64 x2.f0.f1, .int .i64 x2.f0.f2, .int .i64 x2.f1, .int .i64 x2.f2, .int .i64 x2.f3, .bool x2.f4] 25)).heap.size = w.heap.size + 2) := hide (by simp)
  generalize ((w.alloc (.cells #[.int .i64 x1.f0.f0, .int .i64 x1.f0.f1, .int .i64 x1.f0.f2, .int .i64 x1.f1, .int .i64 x1.f2, .int .i64 x1.f3, .bool x1.f4] 25)).alloc (.cells #[.int .i64 x2.f0.f0, .int .i64 x2.f0.f1, .int .i64 x2.f0.f2, .int .i64 x2.f1, .int .i64 x2.f2, .int .i64 x2.f3, .bool x2.f4] 25)) = W1 at HA1 HB1 HBl1 HS1 ⊢
  rw [World.size_alloc] at HB1
  obtain ⟨ga, hga⟩ : ∃ ga, w.heap.size = ga := ⟨_, rfl⟩
  have HGA := hide hga
  rw [hga] at HA1 HB1 HS1 ⊢
  obtain ⟨gb, hgb⟩ : ∃ gb, ga + 1 = gb := ⟨_, rfl⟩
  have HGB := hide hgb
  rw [hgb] at HB1 ⊢
  clear hga hgb
  by_cases hw : a0 < 1 ∨ 16384 < a0
  · refine (new_bad W1 hw).mono ?_
    rintro e w2 ⟨rfl, hw2⟩
    have hw3 := hw2.symm
    subst hw3
    have hfin : ∀ w5, Below W1.heap.size W1 w5 → Below w.heap.size w w5 := fun w5 hb => by have := HGA.out; rw [← this] at *; exact below_step HBl1.out hb
    rcases hw with hw | hw
    · have h1 : decide (a0 < 1) = true := decide_eq_true hw
      go_wp2_with (go_at_call 9; refine (awake_call _).mono ?_; rintro e w5 ⟨rfl, hb5⟩; have HB5 := hide hb5; clear hb5)
      go_ret
      exact ⟨rfl, hfin _ HB5.out⟩
    · have h1 : decide (a0 < 1) = false := decide_eq_false (by omega)
      have h2 : decide (a0 > 16384) = true := decide_eq_true hw
      have h3 : decide (16384 < a0) = true := decide_eq_true hw
      go_wp2_with (go_at_call 9; refine (awake_call _).mono ?_; rintro e w5 ⟨rfl, hb5⟩; have HB5 := hide hb5; clear hb5)
      go_ret
      exact ⟨rfl, hfin _ HB5.out⟩
  · refine (new_call W1 (by omega)).mono ?_
    rintro e w2 ⟨rfl, hq, hb⟩
    have HQ2 : Hid (Cs (fun x => x = ga ∨ x = gb) w w2 W1.heap.size a0 []) := hide (cs_lift hq HBl1.out (fun x hx => by have := HS1.out; have := HGB.out; rcases hx with e | e <;> omega))
    have HA2 := hide (HA1.out.below' hb)
    have HB2 := hide (HB1.out.below' hb)
    clear hq hb HA1 HB1 HBl1 hw
    obtain ⟨g, hg⟩ : ∃ g, W1.heap.size = g := ⟨_, rfl⟩
    rw [hg] at HQ2
    rw [hg]
    clear hg HS1
    have a1 : w2.cell? ⟨ga, 1, none⟩ = some (.int .i64 x1.f0.f1) := HA2.out.cell 1
    have a5 : w2.cell? ⟨ga, 5, none⟩ = some (.int .i64 x1.f3) := HA2.out.cell 5
    have b1 : w2.cell? ⟨gb, 1, none⟩ = some (.int .i64 x2.f0.f1) := HB2.out.cell 1
    have b5 : w2.cell? ⟨gb, 5, none⟩ = some (.int .i64 x2.f3) := HB2.out.cell 5
    have f1 : w2.frozen? ⟨gb, 1, none⟩ = false := HB2.out.frozen 1
    have f5 : w2.frozen? ⟨gb, 5, none⟩ = false := HB2.out.frozen 5
    have hne : ga ≠ gb := by have := HGB.out; omega
    have hne2 : gb ≠ ga := fun e => hne e.symm
    have HA3 := hide ((HA2.out.far (p := ⟨gb, 1, none⟩) hne (.int .i64 x1.f0.f1)).far (p := ⟨gb, 5, none⟩) hne (.int .i64 x1.f3))
    have HB3 : Hid (Blk ((w2.setCell ⟨gb, 1, none⟩ (.int .i64 x1.f0.f1)).setCell ⟨gb, 5, none⟩ (.int .i64 x1.f3)) gb 25 #[.int .i64 x2.f0.f0, .int .i64 x1.f0.f1, .int .i64 x2.f0.f2, .int .i64 x2.f1, .int .i64 x2.f2, .int .i64 x1.f3, .bool x2.f4]) := hide ((HB2.out.set_ 1 (.int .i64 x1.f0.f1)).set_ 5 (.int .i64 x1.f3))
    have HQ3 : Hid (Cs (fun x => x = ga ∨ x = gb) w ((w2.setCell ⟨gb, 1, none⟩ (.int .i64 x1.f0.f1)).setCell ⟨gb, 5, none⟩ (.int .i64 x1.f3)) g a0 []) := hide (HQ2.out.far (S := fun b => b = gb) (((Only.refl w2 (fun b => b = gb)).setCell (p := ⟨gb, 1, none⟩) (.inl rfl) _).setCell (p := ⟨gb, 5, none⟩) (.inl rfl) _) (fun x e => .inr e) (fun x e => by have := HGA.out; have := HGB.out; omega))
    obtain ⟨W3, hW3⟩ : ∃ W3, ((w2.setCell ⟨gb, 1, none⟩ (.int .i64 x1.f0.f1)).setCell ⟨gb, 5, none⟩ (.int .i64 x1.f3)) = W3 := ⟨_, rfl⟩
    rw [hW3] at HA3 HB3 HQ3
    have u0 : W3.cell? ⟨ga, 0, none⟩ = some (.int .i64 x1.f0.f0) := HA3.out.cell 0
    have u1 : W3.cell? ⟨ga, 1, none⟩ = some (.int .i64 x1.f0.f1) := HA3.out.cell 1
    have u2 : W3.cell? ⟨ga, 2, none⟩ = some (.int .i64 x1.f0.f2) := HA3.out.cell 2
    have u3 : W3.cell? ⟨ga, 3, none⟩ = some (.int .i64 x1.f1) := HA3.out.cell 3
    have u4 : W3.cell? ⟨ga, 4, none⟩ = some (.int .i64 x1.f2) := HA3.out.cell 4
    have u5 : W3.cell? ⟨ga, 5, none⟩ = some (.int .i64 x1.f3) := HA3.out.cell 5
    have u6 : W3.cell? ⟨ga, 6, none⟩ = some (.bool x1.f4) := HA3.out.cell 6
    have HP1 := hide (cs_push_new HQ3.out x1 (fun x hx => by simp at hx) (by simp))
    have HIN : Hid (x1 ∈ ins befM [] x1) := hide ((mem_ins [] x1 x1).2 (.inl rfl))
    have HLN : Hid ((ins befM [] x1).length = 1) := hide (by rw [length_ins]; rfl)
    obtain ⟨sl1, hsl1⟩ : ∃ sl1, ins befM [] x1 = sl1 := ⟨_, rfl⟩
    rw [hsl1] at HP1 HIN HLN
    have HP2 := hide (fun W (hW : Cs (fun x => x = ga ∨ x = gb) w W g a0 sl1) => cs_push_old hW (⟨⟨x2.f0.f0, x1.f0.f1, x2.f0.f2⟩, x2.f1, x2.f2, x1.f3, x2.f4⟩ : M) ⟨x1, HIN.out, rfl, rfl⟩)
    have HP3 := hide (fun W (hW : Cs (fun x => x = ga ∨ x = gb) w W g a0 sl1) => cs_len hW)
    rw [HLN.out] at HP3
    unfold cM c25 at HP1 HP2
    clear HQ2 HA2 HB2 hsl1
    go_wp2_with (first
      | (go_at_call 10; refine HP1.out.mono ?_; rintro e w4 ⟨rfl, hq, hk⟩; have HQ4 := hide hq; have HA4 := hide (kpb HA3.out hk (.inl rfl)); have HB4 := hide (kpb HB3.out hk (.inr rfl)); clear hq hk HP1 HQ3 HA3 HB3; have y0 : w4.cell? ⟨gb, 0, none⟩ = some (.int .i64 x2.f0.f0) := HB4.out.cell 0; have y1 : w4.cell? ⟨gb, 1, none⟩ = some (.int .i64 x1.f0.f1) := HB4.out.cell 1; have y2 : w4.cell? ⟨gb, 2, none⟩ = some (.int .i64 x2.f0.f2) := HB4.out.cell 2; have y3 : w4.cell? ⟨gb, 3, none⟩ = some (.int .i64 x2.f1) := HB4.out.cell 3; have y4 : w4.cell? ⟨gb, 4, none⟩ = some (.int .i64 x2.f2) := HB4.out.cell 4; have y5 : w4.cell? ⟨gb, 5, none⟩ = some (.int .i64 x1.f3) := HB4.out.cell 5; have y6 : w4.cell? ⟨gb, 6, none⟩ = some (.bool x2.f4) := HB4.out.cell 6)
      | (go_at_call 10; refine (HP2.out _ HQ4.out).mono ?_; rintro e w5 ⟨rfl, hq, hk⟩; have HQ5 := hide hq; have HA5 := hide (kpb HA4.out hk (.inl rfl)); have HB5 := hide (kpb HB4.out hk (.inr rfl)); clear hq hk HP2 HQ4 HA4 HB4)
      | (go_at_call 11; refine (HP3.out _ HQ5.out).mono ?_; rintro e w6 ⟨rfl, rfl⟩; clear HP3))
    have HL6 : Hid (sl1.length ≤ 0 + 1) := hide (by rw [HLN.out]; simp)
    clear hW3
    go_loopw [11] (fun iv wr => ∃ (k : Nat) (sl : List M), iv = .int .i64 k ∧ k ≤ l3.length ∧ k ≤ 100 ∧ Hid (Cs (fun x => x = ga ∨ x = gb) w wr g a0 sl) ∧ Hid (x1 ∈ sl) ∧ Hid (sl.length ≤ k + 1) ∧ Hid (Blk wr ga 25 #[.int .i64 x1.f0.f0, .int .i64 x1.f0.f1, .int .i64 x1.f0.f2, .int .i64 x1.f1, .int .i64 x1.f2, .int .i64 x1.f3, .bool x1.f4]) ∧ Hid (Blk wr gb 25 #[.int .i64 x2.f0.f0, .int .i64 x1.f0.f1, .int .i64 x2.f0.f2, .int .i64 x2.f1, .int .i64 x2.f2, .int .i64 x1.f3, .bool x2.f4])) (fun iv _ => l3.length - (intOf iv).toNat)
    case atStart => exact ⟨0, _, rfl, Nat.zero_le _, by omega, HQ5, HIN, HL6, HA5, HB5⟩
    case round =>
      obtain ⟨k, sl, rfl, hk, hk2, HQ, HIn, HLn, HA, HB⟩ := hrel
      clear HQ5 HIN HL6 HA5 HB5 HLN
      by_cases hlt : k < l3.length ∧ k < 100
      · obtain ⟨hlt1, hlt2⟩ := hlt
        obtain ⟨ad, rfl, q0, q1, q2, q3, q4, q5, q6⟩ := at_S25 (Kd.C_below HR.out HQ.out.bel) hlt1
        have t1 : (k : Int) < (l3.length : Int) := by omega
        have t2 : (k : Int) < 100 := by omega
        have t3 : decide ((k : Int) < (l3.length : Int)) = true := decide_eq_true t1
        have t4 : decide (k < l3.length) = true := decide_eq_true hlt1
        have t5 : decide ((k : Int) < 100) = true := decide_eq_true t2
        have t6 : decide (k < 100) = true := decide_eq_true hlt2
        obtain ⟨y, hy⟩ : ∃ y, l3[k] = y := ⟨_, rfl⟩
        rw [hy] at q0 q1 q2 q3 q4 q5 q6
        clear hy
        have hpush : ∃ (ans : Int) (sl' : List M), x1 ∈ sl' ∧ sl'.length ≤ k + 2 ∧ Calls Try.prog 10 #[.pointer (some ⟨g, 0, none⟩), .agg (cM y).toArray] wr fun e w' => e = .returned (.int .i64 ans) ∧ Cs (fun x => x = ga ∨ x = gb) w w' g a0 sl' ∧ Kp (fun x => x = ga ∨ x = gb) wr w' := by
          by_cases hex : ∃ x ∈ sl, isOf y.f0.f1 y.f3 x
          · exact ⟨8, sl, HIn.out, by have := HLn.out; omega, cs_push_old HQ.out y hex⟩
          · exact ⟨0, ins befM sl y, (mem_ins sl y x1).2 (.inr HIn.out), by rw [length_ins]; have := HLn.out; omega, cs_push_new HQ.out y (fun x hx hq => hex ⟨x, hx, hq⟩) (by have := HLn.out; omega)⟩
        obtain ⟨ans, sl', hI', hL', hC'⟩ := hpush
        have HI' := hide hI'
        have HL' := hide hL'
        have HC' := hide hC'
        clear hI' hL' hC'
        unfold cM c25 at HC'
        go_wp2_with (go_at_call 10; refine HC'.out.mono ?_; rintro e w7 ⟨rfl, hq, hkp⟩; have HQ7 := hide hq; have HA7 := hide (kpb HA.out hkp (.inl rfl)); have HB7 := hide (kpb HB.out hkp (.inr rfl)); clear hq hkp HC')
        go_roundw
        case rel => exact ⟨k + 1, sl', by go_num, by omega, by omega, HQ7, HI', HL', HA7, HB7⟩
        case measure => simp [intOf]; omega
      · have hor : ((k : Int) < (l3.length : Int) ∧ ¬ (k : Int) < 100) ∨ ¬ (k : Int) < (l3.length : Int) := by omega
        have HHk : Hid (k ≤ 100) := hide hk2
        clear hlt hk hk2
        have HCut := hide (cs_cut_some HQ.out HIn.out)
        unfold cM c25 at HCut
        have u1 : wr.cell? ⟨ga, 1, none⟩ = some (.int .i64 x1.f0.f1) := HA.out.cell 1
        have u5 : wr.cell? ⟨ga, 5, none⟩ = some (.int .i64 x1.f3) := HA.out.cell 5
        have HSL : Hid ((sl.filter (oth x1.f0.f1 x1.f3)).length < 16384 ∧ ∀ q ∈ sl.filter (oth x1.f0.f1 x1.f3), ¬ isOf x1.f0.f1 x1.f3 q) := hide ⟨by have := List.length_filter_le (oth x1.f0.f1 x1.f3) sl; have := HLn.out; have := HHk.out; omega, fun q hq => oth_true.1 (List.mem_filter.1 hq).2⟩
        obtain ⟨s7, hs7⟩ : ∃ s7, sl.filter (oth x1.f0.f1 x1.f3) = s7 := ⟨_, rfl⟩
        rw [hs7] at HCut HSL
        clear hs7
        rcases hor with ⟨t1, t2⟩ | t1
        all_goals (
          go_wp2_with fail
          refine HCut.out.mono ?_
          rintro e w7 ⟨rfl, hq, hkp⟩
          have HQ7 := hide hq
          have HA7 := hide (kpb HA.out hkp (.inl rfl))
          have HB7 := hide (kpb HB.out hkp (.inr rfl))
          clear hq hkp HCut u1 u5
          rename_i K1 h1 K2 h2
          have HK := hide h1
          clear h1
          go_wp2_with fail
          have HQ8 := hide (HQ7.out.alloc (.cells #[.int .i64 x1.f0.f0, .int .i64 x1.f0.f1, .int .i64 x1.f0.f2, .int .i64 x1.f1, .int .i64 x1.f2, .int .i64 x1.f3, .bool x1.f4] 25))
          have HA8 := hide (HA7.out.alloc (.cells #[.int .i64 x1.f0.f0, .int .i64 x1.f0.f1, .int .i64 x1.f0.f2, .int .i64 x1.f1, .int .i64 x1.f2, .int .i64 x1.f3, .bool x1.f4] 25))
          have HB8 := hide (HB7.out.alloc (.cells #[.int .i64 x1.f0.f0, .int .i64 x1.f0.f1, .int .i64 x1.f0.f2, .int .i64 x1.f1, .int .i64 x1.f2, .int .i64 x1.f3, .bool x1.f4] 25))
          have HM8 := hide (Blk.new w7 25 #[.int .i64 x1.f0.f0, .int .i64 x1.f0.f1, .int .i64 x1.f0.f2, .int .i64 x1.f1, .int .i64 x1.f2, .int .i64 x1.f3, .bool x1.f4])
          generalize w7.alloc (.cells #[.int .i64 x1.f0.f0, .int .i64 x1.f0.f1, .int .i64 x1.f0.f2, .int .i64 x1.f1, .int .i64 x1.f2, .int .i64 x1.f3, .bool x1.f4] 25) = w8 at HQ8 HA8 HB8 HM8 ⊢
          generalize w7.heap.size = gm at HM8 ⊢
          refine HK.out _ _ ?_
          clear HK K1 HQ7 HA7 HB7
          have m0 : w8.cell? ⟨gm, 0, none⟩ = some (.int .i64 x1.f0.f0) := HM8.out.cell 0
          have m1 : w8.cell? ⟨gm, 1, none⟩ = some (.int .i64 x1.f0.f1) := HM8.out.cell 1
          have m2 : w8.cell? ⟨gm, 2, none⟩ = some (.int .i64 x1.f0.f2) := HM8.out.cell 2
          have m3 : w8.cell? ⟨gm, 3, none⟩ = some (.int .i64 x1.f1) := HM8.out.cell 3
          have m4 : w8.cell? ⟨gm, 4, none⟩ = some (.int .i64 x1.f2) := HM8.out.cell 4
          have m5 : w8.cell? ⟨gm, 5, none⟩ = some (.int .i64 x1.f3) := HM8.out.cell 5
          have m6 : w8.cell? ⟨gm, 6, none⟩ = some (.bool x1.f4) := HM8.out.cell 6
          have u0 : w8.cell? ⟨ga, 0, none⟩ = some (.int .i64 x1.f0.f0) := HA8.out.cell 0
          have u1 : w8.cell? ⟨ga, 1, none⟩ = some (.int .i64 x1.f0.f1) := HA8.out.cell 1
          have u2 : w8.cell? ⟨ga, 2, none⟩ = some (.int .i64 x1.f0.f2) := HA8.out.cell 2
          have u3 : w8.cell? ⟨ga, 3, none⟩ = some (.int .i64 x1.f1) := HA8.out.cell 3
          have u4 : w8.cell? ⟨ga, 4, none⟩ = some (.int .i64 x1.f2) := HA8.out.cell 4
          have u5 : w8.cell? ⟨ga, 5, none⟩ = some (.int .i64 x1.f3) := HA8.out.cell 5
          have u6 : w8.cell? ⟨ga, 6, none⟩ = some (.bool x1.f4) := HA8.out.cell 6
          have v0 : w8.cell? ⟨gb, 0, none⟩ = some (.int .i64 x2.f0.f0) := HB8.out.cell 0
          have v1 : w8.cell? ⟨gb, 1, none⟩ = some (.int .i64 x1.f0.f1) := HB8.out.cell 1
          have v2 : w8.cell? ⟨gb, 2, none⟩ = some (.int .i64 x2.f0.f2) := HB8.out.cell 2
          have v3 : w8.cell? ⟨gb, 3, none⟩ = some (.int .i64 x2.f1) := HB8.out.cell 3
          have v4 : w8.cell? ⟨gb, 4, none⟩ = some (.int .i64 x2.f2) := HB8.out.cell 4
          have v5 : w8.cell? ⟨gb, 5, none⟩ = some (.int .i64 x1.f3) := HB8.out.cell 5
          have v6 : w8.cell? ⟨gb, 6, none⟩ = some (.bool x2.f4) := HB8.out.cell 6
          have n1 := eqM_refl x1
          unfold eqM at n1
          go_wp2_with fail
          have HPb := hide (cs_push_new HQ8.out (⟨⟨x2.f0.f0, x1.f0.f1, x2.f0.f2⟩, x2.f1, x2.f2, x1.f3, x2.f4⟩ : M) HSL.out.2 HSL.out.1)
          unfold cM c25 at HPb
          refine HPb.out.mono ?_
          rintro e w9 ⟨rfl, hq, hkp⟩
          have HQ9 := hide hq
          have HA9 := hide (kpb HA8.out hkp (.inl rfl))
          clear hq hkp HPb
          have u0 : w9.cell? ⟨ga, 0, none⟩ = some (.int .i64 x1.f0.f0) := HA9.out.cell 0
          have u1 : w9.cell? ⟨ga, 1, none⟩ = some (.int .i64 x1.f0.f1) := HA9.out.cell 1
          have u2 : w9.cell? ⟨ga, 2, none⟩ = some (.int .i64 x1.f0.f2) := HA9.out.cell 2
          have u3 : w9.cell? ⟨ga, 3, none⟩ = some (.int .i64 x1.f1) := HA9.out.cell 3
          have u4 : w9.cell? ⟨ga, 4, none⟩ = some (.int .i64 x1.f2) := HA9.out.cell 4
          have u5 : w9.cell? ⟨ga, 5, none⟩ = some (.int .i64 x1.f3) := HA9.out.cell 5
          have u6 : w9.cell? ⟨ga, 6, none⟩ = some (.bool x1.f4) := HA9.out.cell 6
          have HPa := hide (cs_push_old HQ9.out x1 ⟨(⟨⟨x2.f0.f0, x1.f0.f1, x2.f0.f2⟩, x2.f1, x2.f2, x1.f3, x2.f4⟩ : M), (mem_ins _ _ _).2 (.inl rfl), rfl, rfl⟩)
          unfold cM c25 at HPa
          go_wp2_with (go_at_call 10; refine HPa.out.mono ?_; rintro e w10 ⟨rfl, hq, hb⟩)
          go_ret
          exact ⟨rfl, hq.bel⟩)
end Go.Proofs.Ytkhdghlgkljdgaa.ladderTwice
