/- The law's own play and awake. No law is proved here. -/
import Derived.Test.YtkhdghlgkljdgaaLW
import Derived.Test.YtkhdghlgkljdgaaSameL
import Derived.StillTailTactics
import Derived.Deep.RegionHeld3
import Derived.Deep.QuietTactic
import Derived.Deep.RegionLaw
import Derived.Deep.RegionWith
import Derived.BigQuiet
namespace Go.Proofs.Ytkhdghlgkljdgaa.LQ
open Go.Proofs Go.Proofs.Ytkhdghlgkljdgaa.CQ Go.Shelf Go.RowKit Go.Deep Go.Sort Go.Proofs.Ytkhdghlgkljdgaa.SortPure Go.Proofs.Ytkhdghlgkljdgaa.Types Go.Proofs.Ytkhdghlgkljdgaa.Heap Go.Proofs.Ytkhdghlgkljdgaa.Row Go.Proofs.Ytkhdghlgkljdgaa.Ord Go.Proofs.Ytkhdghlgkljdgaa.Sorted Go.Proofs.Ytkhdghlgkljdgaa.Same Go.Proofs.YtkhdghlgkljdgaaW.PrintWords Go.Proofs.YtkhdghlgkljdgaaW.PrintLast Go.Proofs.YtkhdghlgkljdgaaW.PrintMore
set_option linter.unusedVariables false
set_option linter.unusedSimpArgs false
attribute [local go_sem high] eqRun
theorem both_cs {X : Nat → Prop} {f : Cg} {w0 w : World} {g r : Nat} {lq sl : List M} (h : Both X f w0 w g r lq sl) : Cs No w0 w g f.wd lq := by
  obtain ⟨A, c, h1, h2, h3⟩ := h.ref
  exact h2.less (fun x e => e.elim)
set_option maxHeartbeats 8000000 in
set_option maxRecDepth 100000 in
theorem play1 (f : Cg) (g r : Nat) (w0 w : World) (lq sl : List M) (o : Int) (m : M) (hs : St lq sl) (h : Both No f w0 w g r lq sl) (e0 : (o == 0) = false) (e1 : (o == 1) = true) :
    Calls Try.prog 19 #[.pointer (some ⟨g, 0, none⟩), .pointer (some ⟨r, 0, none⟩), .agg #[.int .i64 o, .int .i64 m.f0.f0, .int .i64 m.f0.f1, .int .i64 m.f0.f2, .int .i64 m.f1, .int .i64 m.f2, .int .i64 m.f3, .bool m.f4]] w fun e w' => e = .returned (.bool true) ∧ ∃ lq' sl', St lq' sl' ∧ Both No f w0 w' g r lq' sl' := by
  have HB1 := hide (h.add (.cells #[.int .i64 o, .int .i64 m.f0.f0, .int .i64 m.f0.f1, .int .i64 m.f0.f2, .int .i64 m.f1, .int .i64 m.f2, .int .i64 m.f3, .bool m.f4] 55))
  have HO1 := hide (Blk.new w 55 #[.int .i64 o, .int .i64 m.f0.f0, .int .i64 m.f0.f1, .int .i64 m.f0.f2, .int .i64 m.f1, .int .i64 m.f2, .int .i64 m.f3, .bool m.f4])
  have HP0 : Hid (w0.heap.size ≤ w.heap.size) := hide h.bel.size
  have HS := hide hs
  clear h hs
  obtain ⟨W1, hW1⟩ : ∃ W1, w.alloc (.cells #[.int .i64 o, .int .i64 m.f0.f0, .int .i64 m.f0.f1, .int .i64 m.f0.f2, .int .i64 m.f1, .int .i64 m.f2, .int .i64 m.f3, .bool m.f4] 55) = W1 := ⟨_, rfl⟩
  obtain ⟨go, hgo⟩ : ∃ go, w.heap.size = go := ⟨_, rfl⟩
  rw [hW1] at HB1 HO1
  rw [hgo] at HB1 HO1 HP0
  have HB2 := hide (HB1.out.add (.cells #[.int .i64 0, .int .i64 0, .int .i64 0, .int .i64 0, .int .i64 0, .int .i64 0, .bool false] 25))
  have HO2 := hide (HO1.out.alloc (.cells #[.int .i64 0, .int .i64 0, .int .i64 0, .int .i64 0, .int .i64 0, .int .i64 0, .bool false] 25))
  have HA2 := hide (Blk.new W1 25 #[.int .i64 0, .int .i64 0, .int .i64 0, .int .i64 0, .int .i64 0, .int .i64 0, .bool false])
  have HP1 : Hid (w0.heap.size ≤ W1.heap.size) := hide HB1.out.bel.size
  obtain ⟨W2, hW2⟩ : ∃ W2, W1.alloc (.cells #[.int .i64 0, .int .i64 0, .int .i64 0, .int .i64 0, .int .i64 0, .int .i64 0, .bool false] 25) = W2 := ⟨_, rfl⟩
  have hz1 : W1.heap.size = go + 1 := by rw [← hW1, ← hgo]; exact World.size_alloc _ _
  obtain ⟨ga, hga⟩ : ∃ ga, W1.heap.size = ga := ⟨_, rfl⟩
  rw [hW2] at HB2 HO2 HA2
  rw [hga] at HB2 HA2 HP1
  have HB3 := hide (HB2.out.add (.cells #[.int .i64 0, .int .i64 0, .int .i64 0, .int .i64 0, .int .i64 0, .int .i64 0, .bool false] 25))
  have HO3 := hide (HO2.out.alloc (.cells #[.int .i64 0, .int .i64 0, .int .i64 0, .int .i64 0, .int .i64 0, .int .i64 0, .bool false] 25))
  have HA3 := hide (HA2.out.alloc (.cells #[.int .i64 0, .int .i64 0, .int .i64 0, .int .i64 0, .int .i64 0, .int .i64 0, .bool false] 25))
  have HC3 := hide (Blk.new W2 25 #[.int .i64 0, .int .i64 0, .int .i64 0, .int .i64 0, .int .i64 0, .int .i64 0, .bool false])
  have HP2 : Hid (w0.heap.size ≤ W2.heap.size) := hide HB2.out.bel.size
  have hab : ga ≠ W2.heap.size := by have := HA2.out.lt; omega
  obtain ⟨W3, hW3⟩ : ∃ W3, W2.alloc (.cells #[.int .i64 0, .int .i64 0, .int .i64 0, .int .i64 0, .int .i64 0, .int .i64 0, .bool false] 25) = W3 := ⟨_, rfl⟩
  have hz2 : W2.heap.size = ga + 1 := by rw [← hW2, ← hga]; exact World.size_alloc _ _
  obtain ⟨gb, hgb⟩ : ∃ gb, W2.heap.size = gb := ⟨_, rfl⟩
  rw [hW3] at HB3 HO3 HA3 HC3
  rw [hgb] at HB3 HC3 HP2 hab
  have hga2 : go + 1 = ga := by rw [← hga, hz1]
  have hgb2 : ga + 1 = gb := by rw [← hgb, hz2]
  have hgoa : go ≠ ga := by omega
  have hgob : go ≠ gb := by omega
  have HEQ := hide (And.intro hW1 (And.intro hW2 (And.intro hW3 (And.intro hgo (And.intro hga2 hgb2)))))
  clear HB1 HB2 HO1 HO2 HA2 hz1 hz2 hW1 hW2 hW3 hgo hga2 hgb2 hga hgb
  obtain ⟨z, a, lq', sl', hs', hq, hr⟩ := both_first (f := f) (w0 := w0) (g := g) (r := r) HS.out
  have HS' := hide hs'
  have HQc := hide (hq HB3.out)
  have HRc := hide (fun W hW => @hr (fun x => ((No x ∨ x = go) ∨ x = ga) ∨ x = gb) W hW)
  clear hq hr hs' HB3
  unfold cM c25 at HQc HRc
  go_enter Try.func19, Try.ntmps19
  go_wp2_with fail
  rw [HEQ.out.1, HEQ.out.2.1, HEQ.out.2.2.1, HEQ.out.2.2.2.1, HEQ.out.2.2.2.2.1, HEQ.out.2.2.2.2.2]
  refine HQc.out.mono ?_
  rintro e w4 ⟨rfl, hB4, hk4⟩
  have HO4 := hide ((hk4 go (.inl (.inl (.inr rfl)))).trans HO3.out)
  have HA4 : Hid (Blk w4 ga 25 #[.int .i64 0, .int .i64 0, .int .i64 0, .int .i64 0, .int .i64 0, .int .i64 0, .bool false]) := hide ((hk4 ga (.inl (.inr rfl))).trans HA3.out)
  have HC4 : Hid (Blk w4 gb 25 #[.int .i64 0, .int .i64 0, .int .i64 0, .int .i64 0, .int .i64 0, .int .i64 0, .bool false]) := hide ((hk4 gb (.inr rfl)).trans HC3.out)
  have HO4 : Hid (Blk w4 go 55 #[.int .i64 o, .int .i64 m.f0.f0, .int .i64 m.f0.f1, .int .i64 m.f0.f2, .int .i64 m.f1, .int .i64 m.f2, .int .i64 m.f3, .bool m.f4]) := HO4
  obtain ⟨t1, t2⟩ := both_store7 hB4 (.inl (.inr rfl)) HP1.out default z HA4.out
  have HB5 := hide t1
  have HA5 := hide t2
  have hs5 : Only w4 (w4.setCells ga 0 (c25 z)) (fun b => b = ga) := only_set7 w4 ga z
  have HC5 := hide (HC4.out.only hs5 (fun e => hab e.symm))
  have HO5 := hide (HO4.out.only hs5 (fun e => hgoa e))
  have a0 : w4.cell? ⟨ga, 0, none⟩ = some (.int .i64 0) := HA4.out.cell 0
  have fa0 : w4.frozen? ⟨ga, 0, none⟩ = false := HA4.out.frozen 0
  have a1 : w4.cell? ⟨ga, 1, none⟩ = some (.int .i64 0) := HA4.out.cell 1
  have fa1 : w4.frozen? ⟨ga, 1, none⟩ = false := HA4.out.frozen 1
  have a2 : w4.cell? ⟨ga, 2, none⟩ = some (.int .i64 0) := HA4.out.cell 2
  have fa2 : w4.frozen? ⟨ga, 2, none⟩ = false := HA4.out.frozen 2
  have a3 : w4.cell? ⟨ga, 3, none⟩ = some (.int .i64 0) := HA4.out.cell 3
  have fa3 : w4.frozen? ⟨ga, 3, none⟩ = false := HA4.out.frozen 3
  have a4 : w4.cell? ⟨ga, 4, none⟩ = some (.int .i64 0) := HA4.out.cell 4
  have fa4 : w4.frozen? ⟨ga, 4, none⟩ = false := HA4.out.frozen 4
  have a5 : w4.cell? ⟨ga, 5, none⟩ = some (.int .i64 0) := HA4.out.cell 5
  have fa5 : w4.frozen? ⟨ga, 5, none⟩ = false := HA4.out.frozen 5
  have a6 : w4.cell? ⟨ga, 6, none⟩ = some (.bool false) := HA4.out.cell 6
  have fa6 : w4.frozen? ⟨ga, 6, none⟩ = false := HA4.out.frozen 6
  clear hB4 hk4 t1 t2 hs5 HQc HO3 HA3 HC3 HC4 HO4
  go_wp2_with fail
  have hch : (((((((w4.setCell ⟨ga, 0, none⟩ (.int .i64 z.f0.f0)).setCell ⟨ga, 1, none⟩ (.int .i64 z.f0.f1)).setCell ⟨ga, 2, none⟩ (.int .i64 z.f0.f2)).setCell ⟨ga, 3, none⟩ (.int .i64 z.f1)).setCell ⟨ga, 4, none⟩ (.int .i64 z.f2)).setCell ⟨ga, 5, none⟩ (.int .i64 z.f3)).setCell ⟨ga, 6, none⟩ (.bool z.f4)) = w4.setCells ga 0 (c25 z) := rfl
  rw [hch]
  generalize w4.setCells ga 0 (c25 z) = w5 at HB5 HA5 HC5 HO5 ⊢
  refine (HRc.out _ HB5.out).mono ?_
  rintro e w6 ⟨rfl, hB6, hk6⟩
  have HO6 : Hid (Blk w6 go 55 #[.int .i64 o, .int .i64 m.f0.f0, .int .i64 m.f0.f1, .int .i64 m.f0.f2, .int .i64 m.f1, .int .i64 m.f2, .int .i64 m.f3, .bool m.f4]) := hide ((hk6 go (.inl (.inl (.inr rfl)))).trans HO5.out)
  have HA6 : Hid (Blk w6 ga 25 #[.int .i64 z.f0.f0, .int .i64 z.f0.f1, .int .i64 z.f0.f2, .int .i64 z.f1, .int .i64 z.f2, .int .i64 z.f3, .bool z.f4]) := hide ((hk6 ga (.inl (.inr rfl))).trans HA5.out)
  have HC6 : Hid (Blk w6 gb 25 #[.int .i64 0, .int .i64 0, .int .i64 0, .int .i64 0, .int .i64 0, .int .i64 0, .bool false]) := hide ((hk6 gb (.inr rfl)).trans HC5.out)
  obtain ⟨t1, t2⟩ := both_store7 hB6 (.inr rfl) HP2.out default z HC6.out
  have HB7 := hide t1
  have HC7 : Hid (Blk (w6.setCells gb 0 (c25 z)) gb 25 #[.int .i64 z.f0.f0, .int .i64 z.f0.f1, .int .i64 z.f0.f2, .int .i64 z.f1, .int .i64 z.f2, .int .i64 z.f3, .bool z.f4]) := hide t2
  have hs7 : Only w6 (w6.setCells gb 0 (c25 z)) (fun b => b = gb) := only_set7 w6 gb z
  have HA7 := hide (HA6.out.only hs7 (fun e => hab e))
  have b0 : w6.cell? ⟨gb, 0, none⟩ = some (.int .i64 0) := HC6.out.cell 0
  have fb0 : w6.frozen? ⟨gb, 0, none⟩ = false := HC6.out.frozen 0
  have b1 : w6.cell? ⟨gb, 1, none⟩ = some (.int .i64 0) := HC6.out.cell 1
  have fb1 : w6.frozen? ⟨gb, 1, none⟩ = false := HC6.out.frozen 1
  have b2 : w6.cell? ⟨gb, 2, none⟩ = some (.int .i64 0) := HC6.out.cell 2
  have fb2 : w6.frozen? ⟨gb, 2, none⟩ = false := HC6.out.frozen 2
  have b3 : w6.cell? ⟨gb, 3, none⟩ = some (.int .i64 0) := HC6.out.cell 3
  have fb3 : w6.frozen? ⟨gb, 3, none⟩ = false := HC6.out.frozen 3
  have b4 : w6.cell? ⟨gb, 4, none⟩ = some (.int .i64 0) := HC6.out.cell 4
  have fb4 : w6.frozen? ⟨gb, 4, none⟩ = false := HC6.out.frozen 4
  have b5 : w6.cell? ⟨gb, 5, none⟩ = some (.int .i64 0) := HC6.out.cell 5
  have fb5 : w6.frozen? ⟨gb, 5, none⟩ = false := HC6.out.frozen 5
  have b6 : w6.cell? ⟨gb, 6, none⟩ = some (.bool false) := HC6.out.cell 6
  have fb6 : w6.frozen? ⟨gb, 6, none⟩ = false := HC6.out.frozen 6
  rename_i K1 h1 K2 h2
  have HK := hide h1
  clear h1 hB6 hk6 t1 t2 hs7 HO5 HA5 HC5 HB5 HRc HO6 HA6 HC6
  go_wp2_with fail
  have hch : (((((((w6.setCell ⟨gb, 0, none⟩ (.int .i64 z.f0.f0)).setCell ⟨gb, 1, none⟩ (.int .i64 z.f0.f1)).setCell ⟨gb, 2, none⟩ (.int .i64 z.f0.f2)).setCell ⟨gb, 3, none⟩ (.int .i64 z.f1)).setCell ⟨gb, 4, none⟩ (.int .i64 z.f2)).setCell ⟨gb, 5, none⟩ (.int .i64 z.f3)).setCell ⟨gb, 6, none⟩ (.bool z.f4)) = w6.setCells gb 0 (c25 z) := rfl
  rw [hch]
  generalize w6.setCells gb 0 (c25 z) = w7 at HB7 HC7 HA7 ⊢
  refine HK.out _ _ ?_
  clear HK K1
  have a0 : w7.cell? ⟨ga, 0, none⟩ = some (.int .i64 z.f0.f0) := HA7.out.cell 0
  have a1 : w7.cell? ⟨ga, 1, none⟩ = some (.int .i64 z.f0.f1) := HA7.out.cell 1
  have a2 : w7.cell? ⟨ga, 2, none⟩ = some (.int .i64 z.f0.f2) := HA7.out.cell 2
  have a3 : w7.cell? ⟨ga, 3, none⟩ = some (.int .i64 z.f1) := HA7.out.cell 3
  have a4 : w7.cell? ⟨ga, 4, none⟩ = some (.int .i64 z.f2) := HA7.out.cell 4
  have a5 : w7.cell? ⟨ga, 5, none⟩ = some (.int .i64 z.f3) := HA7.out.cell 5
  have a6 : w7.cell? ⟨ga, 6, none⟩ = some (.bool z.f4) := HA7.out.cell 6
  have b0 : w7.cell? ⟨gb, 0, none⟩ = some (.int .i64 z.f0.f0) := HC7.out.cell 0
  have b1 : w7.cell? ⟨gb, 1, none⟩ = some (.int .i64 z.f0.f1) := HC7.out.cell 1
  have b2 : w7.cell? ⟨gb, 2, none⟩ = some (.int .i64 z.f0.f2) := HC7.out.cell 2
  have b3 : w7.cell? ⟨gb, 3, none⟩ = some (.int .i64 z.f1) := HC7.out.cell 3
  have b4 : w7.cell? ⟨gb, 4, none⟩ = some (.int .i64 z.f2) := HC7.out.cell 4
  have b5 : w7.cell? ⟨gb, 5, none⟩ = some (.int .i64 z.f3) := HC7.out.cell 5
  have b6 : w7.cell? ⟨gb, 6, none⟩ = some (.bool z.f4) := HC7.out.cell 6
  have n1 := eqM_refl z
  unfold eqM at n1
  go_wp2_with fail
  go_ret
  exact ⟨rfl, lq', sl', HS'.out, HB7.out.less (fun x hx => .inl (.inl (.inl hx)))⟩
set_option maxHeartbeats 8000000 in
set_option maxRecDepth 100000 in
theorem play2 (f : Cg) (g r : Nat) (w0 w : World) (lq sl : List M) (o : Int) (m : M) (hs : St lq sl) (h : Both No f w0 w g r lq sl) (e0 : (o == 0) = false) (e1 : (o == 1) = false) (e2 : (o == 2) = true) :
    Calls Try.prog 19 #[.pointer (some ⟨g, 0, none⟩), .pointer (some ⟨r, 0, none⟩), .agg #[.int .i64 o, .int .i64 m.f0.f0, .int .i64 m.f0.f1, .int .i64 m.f0.f2, .int .i64 m.f1, .int .i64 m.f2, .int .i64 m.f3, .bool m.f4]] w fun e w' => e = .returned (.bool true) ∧ ∃ lq' sl', St lq' sl' ∧ Both No f w0 w' g r lq' sl' := by
  have HB1 := hide (h.add (.cells #[.int .i64 o, .int .i64 m.f0.f0, .int .i64 m.f0.f1, .int .i64 m.f0.f2, .int .i64 m.f1, .int .i64 m.f2, .int .i64 m.f3, .bool m.f4] 55))
  have HO1 := hide (Blk.new w 55 #[.int .i64 o, .int .i64 m.f0.f0, .int .i64 m.f0.f1, .int .i64 m.f0.f2, .int .i64 m.f1, .int .i64 m.f2, .int .i64 m.f3, .bool m.f4])
  have HP0 : Hid (w0.heap.size ≤ w.heap.size) := hide h.bel.size
  have HS := hide hs
  clear h hs
  obtain ⟨W1, hW1⟩ : ∃ W1, w.alloc (.cells #[.int .i64 o, .int .i64 m.f0.f0, .int .i64 m.f0.f1, .int .i64 m.f0.f2, .int .i64 m.f1, .int .i64 m.f2, .int .i64 m.f3, .bool m.f4] 55) = W1 := ⟨_, rfl⟩
  obtain ⟨go, hgo⟩ : ∃ go, w.heap.size = go := ⟨_, rfl⟩
  rw [hW1] at HB1 HO1
  rw [hgo] at HB1 HO1 HP0
  have HB2 := hide (HB1.out.add (.cells #[.int .i64 0, .int .i64 0, .int .i64 0, .int .i64 0, .int .i64 0, .int .i64 0, .bool false] 25))
  have HO2 := hide (HO1.out.alloc (.cells #[.int .i64 0, .int .i64 0, .int .i64 0, .int .i64 0, .int .i64 0, .int .i64 0, .bool false] 25))
  have HA2 := hide (Blk.new W1 25 #[.int .i64 0, .int .i64 0, .int .i64 0, .int .i64 0, .int .i64 0, .int .i64 0, .bool false])
  have HP1 : Hid (w0.heap.size ≤ W1.heap.size) := hide HB1.out.bel.size
  obtain ⟨W2, hW2⟩ : ∃ W2, W1.alloc (.cells #[.int .i64 0, .int .i64 0, .int .i64 0, .int .i64 0, .int .i64 0, .int .i64 0, .bool false] 25) = W2 := ⟨_, rfl⟩
  have hz1 : W1.heap.size = go + 1 := by rw [← hW1, ← hgo]; exact World.size_alloc _ _
  obtain ⟨ga, hga⟩ : ∃ ga, W1.heap.size = ga := ⟨_, rfl⟩
  rw [hW2] at HB2 HO2 HA2
  rw [hga] at HB2 HA2 HP1
  have HB3 := hide (HB2.out.add (.cells #[.int .i64 0, .int .i64 0, .int .i64 0, .int .i64 0, .int .i64 0, .int .i64 0, .bool false] 25))
  have HO3 := hide (HO2.out.alloc (.cells #[.int .i64 0, .int .i64 0, .int .i64 0, .int .i64 0, .int .i64 0, .int .i64 0, .bool false] 25))
  have HA3 := hide (HA2.out.alloc (.cells #[.int .i64 0, .int .i64 0, .int .i64 0, .int .i64 0, .int .i64 0, .int .i64 0, .bool false] 25))
  have HC3 := hide (Blk.new W2 25 #[.int .i64 0, .int .i64 0, .int .i64 0, .int .i64 0, .int .i64 0, .int .i64 0, .bool false])
  have HP2 : Hid (w0.heap.size ≤ W2.heap.size) := hide HB2.out.bel.size
  have hab : ga ≠ W2.heap.size := by have := HA2.out.lt; omega
  obtain ⟨W3, hW3⟩ : ∃ W3, W2.alloc (.cells #[.int .i64 0, .int .i64 0, .int .i64 0, .int .i64 0, .int .i64 0, .int .i64 0, .bool false] 25) = W3 := ⟨_, rfl⟩
  have hz2 : W2.heap.size = ga + 1 := by rw [← hW2, ← hga]; exact World.size_alloc _ _
  obtain ⟨gb, hgb⟩ : ∃ gb, W2.heap.size = gb := ⟨_, rfl⟩
  rw [hW3] at HB3 HO3 HA3 HC3
  rw [hgb] at HB3 HC3 HP2 hab
  have hga2 : go + 1 = ga := by rw [← hga, hz1]
  have hgb2 : ga + 1 = gb := by rw [← hgb, hz2]
  have hgoa : go ≠ ga := by omega
  have hgob : go ≠ gb := by omega
  have HEQ := hide (And.intro hW1 (And.intro hW2 (And.intro hW3 (And.intro hgo (And.intro hga2 hgb2)))))
  clear HB1 HB2 HO1 HO2 HA2 hz1 hz2 hW1 hW2 hW3 hgo hga2 hgb2 hga hgb
  obtain ⟨z, a, lq', sl', hs', hq, hr⟩ := both_pop (f := f) (w0 := w0) (g := g) (r := r) HS.out
  have HS' := hide hs'
  have HQc := hide (hq HB3.out)
  have HRc := hide (fun W hW => @hr (fun x => ((No x ∨ x = go) ∨ x = ga) ∨ x = gb) W hW)
  clear hq hr hs' HB3
  unfold cM c25 at HQc HRc
  go_enter Try.func19, Try.ntmps19
  go_wp2_with fail
  rw [HEQ.out.1, HEQ.out.2.1, HEQ.out.2.2.1, HEQ.out.2.2.2.1, HEQ.out.2.2.2.2.1, HEQ.out.2.2.2.2.2]
  refine HQc.out.mono ?_
  rintro e w4 ⟨rfl, hB4, hk4⟩
  have HO4 := hide ((hk4 go (.inl (.inl (.inr rfl)))).trans HO3.out)
  have HA4 : Hid (Blk w4 ga 25 #[.int .i64 0, .int .i64 0, .int .i64 0, .int .i64 0, .int .i64 0, .int .i64 0, .bool false]) := hide ((hk4 ga (.inl (.inr rfl))).trans HA3.out)
  have HC4 : Hid (Blk w4 gb 25 #[.int .i64 0, .int .i64 0, .int .i64 0, .int .i64 0, .int .i64 0, .int .i64 0, .bool false]) := hide ((hk4 gb (.inr rfl)).trans HC3.out)
  have HO4 : Hid (Blk w4 go 55 #[.int .i64 o, .int .i64 m.f0.f0, .int .i64 m.f0.f1, .int .i64 m.f0.f2, .int .i64 m.f1, .int .i64 m.f2, .int .i64 m.f3, .bool m.f4]) := HO4
  obtain ⟨t1, t2⟩ := both_store7 hB4 (.inl (.inr rfl)) HP1.out default z HA4.out
  have HB5 := hide t1
  have HA5 := hide t2
  have hs5 : Only w4 (w4.setCells ga 0 (c25 z)) (fun b => b = ga) := only_set7 w4 ga z
  have HC5 := hide (HC4.out.only hs5 (fun e => hab e.symm))
  have HO5 := hide (HO4.out.only hs5 (fun e => hgoa e))
  have a0 : w4.cell? ⟨ga, 0, none⟩ = some (.int .i64 0) := HA4.out.cell 0
  have fa0 : w4.frozen? ⟨ga, 0, none⟩ = false := HA4.out.frozen 0
  have a1 : w4.cell? ⟨ga, 1, none⟩ = some (.int .i64 0) := HA4.out.cell 1
  have fa1 : w4.frozen? ⟨ga, 1, none⟩ = false := HA4.out.frozen 1
  have a2 : w4.cell? ⟨ga, 2, none⟩ = some (.int .i64 0) := HA4.out.cell 2
  have fa2 : w4.frozen? ⟨ga, 2, none⟩ = false := HA4.out.frozen 2
  have a3 : w4.cell? ⟨ga, 3, none⟩ = some (.int .i64 0) := HA4.out.cell 3
  have fa3 : w4.frozen? ⟨ga, 3, none⟩ = false := HA4.out.frozen 3
  have a4 : w4.cell? ⟨ga, 4, none⟩ = some (.int .i64 0) := HA4.out.cell 4
  have fa4 : w4.frozen? ⟨ga, 4, none⟩ = false := HA4.out.frozen 4
  have a5 : w4.cell? ⟨ga, 5, none⟩ = some (.int .i64 0) := HA4.out.cell 5
  have fa5 : w4.frozen? ⟨ga, 5, none⟩ = false := HA4.out.frozen 5
  have a6 : w4.cell? ⟨ga, 6, none⟩ = some (.bool false) := HA4.out.cell 6
  have fa6 : w4.frozen? ⟨ga, 6, none⟩ = false := HA4.out.frozen 6
  clear hB4 hk4 t1 t2 hs5 HQc HO3 HA3 HC3 HC4 HO4
  go_wp2_with fail
  have hch : (((((((w4.setCell ⟨ga, 0, none⟩ (.int .i64 z.f0.f0)).setCell ⟨ga, 1, none⟩ (.int .i64 z.f0.f1)).setCell ⟨ga, 2, none⟩ (.int .i64 z.f0.f2)).setCell ⟨ga, 3, none⟩ (.int .i64 z.f1)).setCell ⟨ga, 4, none⟩ (.int .i64 z.f2)).setCell ⟨ga, 5, none⟩ (.int .i64 z.f3)).setCell ⟨ga, 6, none⟩ (.bool z.f4)) = w4.setCells ga 0 (c25 z) := rfl
  rw [hch]
  generalize w4.setCells ga 0 (c25 z) = w5 at HB5 HA5 HC5 HO5 ⊢
  refine (HRc.out _ HB5.out).mono ?_
  rintro e w6 ⟨rfl, hB6, hk6⟩
  have HO6 : Hid (Blk w6 go 55 #[.int .i64 o, .int .i64 m.f0.f0, .int .i64 m.f0.f1, .int .i64 m.f0.f2, .int .i64 m.f1, .int .i64 m.f2, .int .i64 m.f3, .bool m.f4]) := hide ((hk6 go (.inl (.inl (.inr rfl)))).trans HO5.out)
  have HA6 : Hid (Blk w6 ga 25 #[.int .i64 z.f0.f0, .int .i64 z.f0.f1, .int .i64 z.f0.f2, .int .i64 z.f1, .int .i64 z.f2, .int .i64 z.f3, .bool z.f4]) := hide ((hk6 ga (.inl (.inr rfl))).trans HA5.out)
  have HC6 : Hid (Blk w6 gb 25 #[.int .i64 0, .int .i64 0, .int .i64 0, .int .i64 0, .int .i64 0, .int .i64 0, .bool false]) := hide ((hk6 gb (.inr rfl)).trans HC5.out)
  obtain ⟨t1, t2⟩ := both_store7 hB6 (.inr rfl) HP2.out default z HC6.out
  have HB7 := hide t1
  have HC7 : Hid (Blk (w6.setCells gb 0 (c25 z)) gb 25 #[.int .i64 z.f0.f0, .int .i64 z.f0.f1, .int .i64 z.f0.f2, .int .i64 z.f1, .int .i64 z.f2, .int .i64 z.f3, .bool z.f4]) := hide t2
  have hs7 : Only w6 (w6.setCells gb 0 (c25 z)) (fun b => b = gb) := only_set7 w6 gb z
  have HA7 := hide (HA6.out.only hs7 (fun e => hab e))
  have b0 : w6.cell? ⟨gb, 0, none⟩ = some (.int .i64 0) := HC6.out.cell 0
  have fb0 : w6.frozen? ⟨gb, 0, none⟩ = false := HC6.out.frozen 0
  have b1 : w6.cell? ⟨gb, 1, none⟩ = some (.int .i64 0) := HC6.out.cell 1
  have fb1 : w6.frozen? ⟨gb, 1, none⟩ = false := HC6.out.frozen 1
  have b2 : w6.cell? ⟨gb, 2, none⟩ = some (.int .i64 0) := HC6.out.cell 2
  have fb2 : w6.frozen? ⟨gb, 2, none⟩ = false := HC6.out.frozen 2
  have b3 : w6.cell? ⟨gb, 3, none⟩ = some (.int .i64 0) := HC6.out.cell 3
  have fb3 : w6.frozen? ⟨gb, 3, none⟩ = false := HC6.out.frozen 3
  have b4 : w6.cell? ⟨gb, 4, none⟩ = some (.int .i64 0) := HC6.out.cell 4
  have fb4 : w6.frozen? ⟨gb, 4, none⟩ = false := HC6.out.frozen 4
  have b5 : w6.cell? ⟨gb, 5, none⟩ = some (.int .i64 0) := HC6.out.cell 5
  have fb5 : w6.frozen? ⟨gb, 5, none⟩ = false := HC6.out.frozen 5
  have b6 : w6.cell? ⟨gb, 6, none⟩ = some (.bool false) := HC6.out.cell 6
  have fb6 : w6.frozen? ⟨gb, 6, none⟩ = false := HC6.out.frozen 6
  rename_i K1 h1 K2 h2
  have HK := hide h1
  clear h1 hB6 hk6 t1 t2 hs7 HO5 HA5 HC5 HB5 HRc HO6 HA6 HC6
  go_wp2_with fail
  have hch : (((((((w6.setCell ⟨gb, 0, none⟩ (.int .i64 z.f0.f0)).setCell ⟨gb, 1, none⟩ (.int .i64 z.f0.f1)).setCell ⟨gb, 2, none⟩ (.int .i64 z.f0.f2)).setCell ⟨gb, 3, none⟩ (.int .i64 z.f1)).setCell ⟨gb, 4, none⟩ (.int .i64 z.f2)).setCell ⟨gb, 5, none⟩ (.int .i64 z.f3)).setCell ⟨gb, 6, none⟩ (.bool z.f4)) = w6.setCells gb 0 (c25 z) := rfl
  rw [hch]
  generalize w6.setCells gb 0 (c25 z) = w7 at HB7 HC7 HA7 ⊢
  refine HK.out _ _ ?_
  clear HK K1
  have a0 : w7.cell? ⟨ga, 0, none⟩ = some (.int .i64 z.f0.f0) := HA7.out.cell 0
  have a1 : w7.cell? ⟨ga, 1, none⟩ = some (.int .i64 z.f0.f1) := HA7.out.cell 1
  have a2 : w7.cell? ⟨ga, 2, none⟩ = some (.int .i64 z.f0.f2) := HA7.out.cell 2
  have a3 : w7.cell? ⟨ga, 3, none⟩ = some (.int .i64 z.f1) := HA7.out.cell 3
  have a4 : w7.cell? ⟨ga, 4, none⟩ = some (.int .i64 z.f2) := HA7.out.cell 4
  have a5 : w7.cell? ⟨ga, 5, none⟩ = some (.int .i64 z.f3) := HA7.out.cell 5
  have a6 : w7.cell? ⟨ga, 6, none⟩ = some (.bool z.f4) := HA7.out.cell 6
  have b0 : w7.cell? ⟨gb, 0, none⟩ = some (.int .i64 z.f0.f0) := HC7.out.cell 0
  have b1 : w7.cell? ⟨gb, 1, none⟩ = some (.int .i64 z.f0.f1) := HC7.out.cell 1
  have b2 : w7.cell? ⟨gb, 2, none⟩ = some (.int .i64 z.f0.f2) := HC7.out.cell 2
  have b3 : w7.cell? ⟨gb, 3, none⟩ = some (.int .i64 z.f1) := HC7.out.cell 3
  have b4 : w7.cell? ⟨gb, 4, none⟩ = some (.int .i64 z.f2) := HC7.out.cell 4
  have b5 : w7.cell? ⟨gb, 5, none⟩ = some (.int .i64 z.f3) := HC7.out.cell 5
  have b6 : w7.cell? ⟨gb, 6, none⟩ = some (.bool z.f4) := HC7.out.cell 6
  have n1 := eqM_refl z
  unfold eqM at n1
  go_wp2_with fail
  go_ret
  exact ⟨rfl, lq', sl', HS'.out, HB7.out.less (fun x hx => .inl (.inl (.inl hx)))⟩
set_option maxHeartbeats 8000000 in
set_option maxRecDepth 100000 in
theorem play3 (f : Cg) (g r : Nat) (w0 w : World) (lq sl : List M) (o : Int) (m : M) (hs : St lq sl) (h : Both No f w0 w g r lq sl) (e0 : (o == 0) = false) (e1 : (o == 1) = false) (e2 : (o == 2) = false) :
    Calls Try.prog 19 #[.pointer (some ⟨g, 0, none⟩), .pointer (some ⟨r, 0, none⟩), .agg #[.int .i64 o, .int .i64 m.f0.f0, .int .i64 m.f0.f1, .int .i64 m.f0.f2, .int .i64 m.f1, .int .i64 m.f2, .int .i64 m.f3, .bool m.f4]] w fun e w' => e = .returned (.bool true) ∧ ∃ lq' sl', St lq' sl' ∧ Both No f w0 w' g r lq' sl' := by
  have HB1 := hide (h.add (.cells #[.int .i64 o, .int .i64 m.f0.f0, .int .i64 m.f0.f1, .int .i64 m.f0.f2, .int .i64 m.f1, .int .i64 m.f2, .int .i64 m.f3, .bool m.f4] 55))
  have HO1 := hide (Blk.new w 55 #[.int .i64 o, .int .i64 m.f0.f0, .int .i64 m.f0.f1, .int .i64 m.f0.f2, .int .i64 m.f1, .int .i64 m.f2, .int .i64 m.f3, .bool m.f4])
  have HP0 : Hid (w0.heap.size ≤ w.heap.size) := hide h.bel.size
  have HS := hide hs
  clear h hs
  obtain ⟨W1, hW1⟩ : ∃ W1, w.alloc (.cells #[.int .i64 o, .int .i64 m.f0.f0, .int .i64 m.f0.f1, .int .i64 m.f0.f2, .int .i64 m.f1, .int .i64 m.f2, .int .i64 m.f3, .bool m.f4] 55) = W1 := ⟨_, rfl⟩
  obtain ⟨go, hgo⟩ : ∃ go, w.heap.size = go := ⟨_, rfl⟩
  rw [hW1] at HB1 HO1
  rw [hgo] at HB1 HO1 HP0
  have HB2 := hide (HB1.out.add (.cells #[.int .i64 0, .int .i64 0, .int .i64 0, .int .i64 0, .int .i64 0, .int .i64 0, .bool false] 25))
  have HO2 := hide (HO1.out.alloc (.cells #[.int .i64 0, .int .i64 0, .int .i64 0, .int .i64 0, .int .i64 0, .int .i64 0, .bool false] 25))
  have HA2 := hide (Blk.new W1 25 #[.int .i64 0, .int .i64 0, .int .i64 0, .int .i64 0, .int .i64 0, .int .i64 0, .bool false])
  have HP1 : Hid (w0.heap.size ≤ W1.heap.size) := hide HB1.out.bel.size
  obtain ⟨W2, hW2⟩ : ∃ W2, W1.alloc (.cells #[.int .i64 0, .int .i64 0, .int .i64 0, .int .i64 0, .int .i64 0, .int .i64 0, .bool false] 25) = W2 := ⟨_, rfl⟩
  have hz1 : W1.heap.size = go + 1 := by rw [← hW1, ← hgo]; exact World.size_alloc _ _
  obtain ⟨ga, hga⟩ : ∃ ga, W1.heap.size = ga := ⟨_, rfl⟩
  rw [hW2] at HB2 HO2 HA2
  rw [hga] at HB2 HA2 HP1
  have HB3 := hide (HB2.out.add (.cells #[.int .i64 0, .int .i64 0, .int .i64 0, .int .i64 0, .int .i64 0, .int .i64 0, .bool false] 25))
  have HO3 := hide (HO2.out.alloc (.cells #[.int .i64 0, .int .i64 0, .int .i64 0, .int .i64 0, .int .i64 0, .int .i64 0, .bool false] 25))
  have HA3 := hide (HA2.out.alloc (.cells #[.int .i64 0, .int .i64 0, .int .i64 0, .int .i64 0, .int .i64 0, .int .i64 0, .bool false] 25))
  have HC3 := hide (Blk.new W2 25 #[.int .i64 0, .int .i64 0, .int .i64 0, .int .i64 0, .int .i64 0, .int .i64 0, .bool false])
  have HP2 : Hid (w0.heap.size ≤ W2.heap.size) := hide HB2.out.bel.size
  have hab : ga ≠ W2.heap.size := by have := HA2.out.lt; omega
  obtain ⟨W3, hW3⟩ : ∃ W3, W2.alloc (.cells #[.int .i64 0, .int .i64 0, .int .i64 0, .int .i64 0, .int .i64 0, .int .i64 0, .bool false] 25) = W3 := ⟨_, rfl⟩
  have hz2 : W2.heap.size = ga + 1 := by rw [← hW2, ← hga]; exact World.size_alloc _ _
  obtain ⟨gb, hgb⟩ : ∃ gb, W2.heap.size = gb := ⟨_, rfl⟩
  rw [hW3] at HB3 HO3 HA3 HC3
  rw [hgb] at HB3 HC3 HP2 hab
  have hga2 : go + 1 = ga := by rw [← hga, hz1]
  have hgb2 : ga + 1 = gb := by rw [← hgb, hz2]
  have hgoa : go ≠ ga := by omega
  have hgob : go ≠ gb := by omega
  have HEQ := hide (And.intro hW1 (And.intro hW2 (And.intro hW3 (And.intro hgo (And.intro hga2 hgb2)))))
  clear HB1 HB2 HO1 HO2 HA2 hz1 hz2 hW1 hW2 hW3 hgo hga2 hgb2 hga hgb
  obtain ⟨z, a, lq', sl', hs', hq, hr⟩ := both_cut (f := f) (w0 := w0) (g := g) (r := r) m.f0.f1 m.f3 HS.out
  have HS' := hide hs'
  have HQc := hide (hq HB3.out)
  have HRc := hide (fun W hW => @hr (fun x => ((No x ∨ x = go) ∨ x = ga) ∨ x = gb) W hW)
  clear hq hr hs' HB3
  unfold cM c25 at HQc HRc
  go_enter Try.func19, Try.ntmps19
  go_wp2_with fail
  rw [HEQ.out.1, HEQ.out.2.1, HEQ.out.2.2.1, HEQ.out.2.2.2.1, HEQ.out.2.2.2.2.1, HEQ.out.2.2.2.2.2]
  refine HQc.out.mono ?_
  rintro e w4 ⟨rfl, hB4, hk4⟩
  have HO4 := hide ((hk4 go (.inl (.inl (.inr rfl)))).trans HO3.out)
  have HA4 : Hid (Blk w4 ga 25 #[.int .i64 0, .int .i64 0, .int .i64 0, .int .i64 0, .int .i64 0, .int .i64 0, .bool false]) := hide ((hk4 ga (.inl (.inr rfl))).trans HA3.out)
  have HC4 : Hid (Blk w4 gb 25 #[.int .i64 0, .int .i64 0, .int .i64 0, .int .i64 0, .int .i64 0, .int .i64 0, .bool false]) := hide ((hk4 gb (.inr rfl)).trans HC3.out)
  have HO4 : Hid (Blk w4 go 55 #[.int .i64 o, .int .i64 m.f0.f0, .int .i64 m.f0.f1, .int .i64 m.f0.f2, .int .i64 m.f1, .int .i64 m.f2, .int .i64 m.f3, .bool m.f4]) := HO4
  obtain ⟨t1, t2⟩ := both_store7 hB4 (.inl (.inr rfl)) HP1.out default z HA4.out
  have HB5 := hide t1
  have HA5 := hide t2
  have hs5 : Only w4 (w4.setCells ga 0 (c25 z)) (fun b => b = ga) := only_set7 w4 ga z
  have HC5 := hide (HC4.out.only hs5 (fun e => hab e.symm))
  have HO5 := hide (HO4.out.only hs5 (fun e => hgoa e))
  have a0 : w4.cell? ⟨ga, 0, none⟩ = some (.int .i64 0) := HA4.out.cell 0
  have fa0 : w4.frozen? ⟨ga, 0, none⟩ = false := HA4.out.frozen 0
  have a1 : w4.cell? ⟨ga, 1, none⟩ = some (.int .i64 0) := HA4.out.cell 1
  have fa1 : w4.frozen? ⟨ga, 1, none⟩ = false := HA4.out.frozen 1
  have a2 : w4.cell? ⟨ga, 2, none⟩ = some (.int .i64 0) := HA4.out.cell 2
  have fa2 : w4.frozen? ⟨ga, 2, none⟩ = false := HA4.out.frozen 2
  have a3 : w4.cell? ⟨ga, 3, none⟩ = some (.int .i64 0) := HA4.out.cell 3
  have fa3 : w4.frozen? ⟨ga, 3, none⟩ = false := HA4.out.frozen 3
  have a4 : w4.cell? ⟨ga, 4, none⟩ = some (.int .i64 0) := HA4.out.cell 4
  have fa4 : w4.frozen? ⟨ga, 4, none⟩ = false := HA4.out.frozen 4
  have a5 : w4.cell? ⟨ga, 5, none⟩ = some (.int .i64 0) := HA4.out.cell 5
  have fa5 : w4.frozen? ⟨ga, 5, none⟩ = false := HA4.out.frozen 5
  have a6 : w4.cell? ⟨ga, 6, none⟩ = some (.bool false) := HA4.out.cell 6
  have fa6 : w4.frozen? ⟨ga, 6, none⟩ = false := HA4.out.frozen 6
  have go2 : w4.cell? ⟨go, 2, none⟩ = some (.int .i64 m.f0.f1) := HO4.out.cell 2
  have go6 : w4.cell? ⟨go, 6, none⟩ = some (.int .i64 m.f3) := HO4.out.cell 6
  clear hB4 hk4 t1 t2 hs5 HQc HO3 HA3 HC3 HC4 HO4
  go_wp2_with fail
  have hch : (((((((w4.setCell ⟨ga, 0, none⟩ (.int .i64 z.f0.f0)).setCell ⟨ga, 1, none⟩ (.int .i64 z.f0.f1)).setCell ⟨ga, 2, none⟩ (.int .i64 z.f0.f2)).setCell ⟨ga, 3, none⟩ (.int .i64 z.f1)).setCell ⟨ga, 4, none⟩ (.int .i64 z.f2)).setCell ⟨ga, 5, none⟩ (.int .i64 z.f3)).setCell ⟨ga, 6, none⟩ (.bool z.f4)) = w4.setCells ga 0 (c25 z) := rfl
  rw [hch]
  generalize w4.setCells ga 0 (c25 z) = w5 at HB5 HA5 HC5 HO5 ⊢
  refine (HRc.out _ HB5.out).mono ?_
  rintro e w6 ⟨rfl, hB6, hk6⟩
  have HO6 : Hid (Blk w6 go 55 #[.int .i64 o, .int .i64 m.f0.f0, .int .i64 m.f0.f1, .int .i64 m.f0.f2, .int .i64 m.f1, .int .i64 m.f2, .int .i64 m.f3, .bool m.f4]) := hide ((hk6 go (.inl (.inl (.inr rfl)))).trans HO5.out)
  have HA6 : Hid (Blk w6 ga 25 #[.int .i64 z.f0.f0, .int .i64 z.f0.f1, .int .i64 z.f0.f2, .int .i64 z.f1, .int .i64 z.f2, .int .i64 z.f3, .bool z.f4]) := hide ((hk6 ga (.inl (.inr rfl))).trans HA5.out)
  have HC6 : Hid (Blk w6 gb 25 #[.int .i64 0, .int .i64 0, .int .i64 0, .int .i64 0, .int .i64 0, .int .i64 0, .bool false]) := hide ((hk6 gb (.inr rfl)).trans HC5.out)
  obtain ⟨t1, t2⟩ := both_store7 hB6 (.inr rfl) HP2.out default z HC6.out
  have HB7 := hide t1
  have HC7 : Hid (Blk (w6.setCells gb 0 (c25 z)) gb 25 #[.int .i64 z.f0.f0, .int .i64 z.f0.f1, .int .i64 z.f0.f2, .int .i64 z.f1, .int .i64 z.f2, .int .i64 z.f3, .bool z.f4]) := hide t2
  have hs7 : Only w6 (w6.setCells gb 0 (c25 z)) (fun b => b = gb) := only_set7 w6 gb z
  have HA7 := hide (HA6.out.only hs7 (fun e => hab e))
  have b0 : w6.cell? ⟨gb, 0, none⟩ = some (.int .i64 0) := HC6.out.cell 0
  have fb0 : w6.frozen? ⟨gb, 0, none⟩ = false := HC6.out.frozen 0
  have b1 : w6.cell? ⟨gb, 1, none⟩ = some (.int .i64 0) := HC6.out.cell 1
  have fb1 : w6.frozen? ⟨gb, 1, none⟩ = false := HC6.out.frozen 1
  have b2 : w6.cell? ⟨gb, 2, none⟩ = some (.int .i64 0) := HC6.out.cell 2
  have fb2 : w6.frozen? ⟨gb, 2, none⟩ = false := HC6.out.frozen 2
  have b3 : w6.cell? ⟨gb, 3, none⟩ = some (.int .i64 0) := HC6.out.cell 3
  have fb3 : w6.frozen? ⟨gb, 3, none⟩ = false := HC6.out.frozen 3
  have b4 : w6.cell? ⟨gb, 4, none⟩ = some (.int .i64 0) := HC6.out.cell 4
  have fb4 : w6.frozen? ⟨gb, 4, none⟩ = false := HC6.out.frozen 4
  have b5 : w6.cell? ⟨gb, 5, none⟩ = some (.int .i64 0) := HC6.out.cell 5
  have fb5 : w6.frozen? ⟨gb, 5, none⟩ = false := HC6.out.frozen 5
  have b6 : w6.cell? ⟨gb, 6, none⟩ = some (.bool false) := HC6.out.cell 6
  have fb6 : w6.frozen? ⟨gb, 6, none⟩ = false := HC6.out.frozen 6
  rename_i K1 h1 K2 h2
  have HK := hide h1
  clear h1 hB6 hk6 t1 t2 hs7 HO5 HA5 HC5 HB5 HRc HO6 HA6 HC6
  go_wp2_with fail
  have hch : (((((((w6.setCell ⟨gb, 0, none⟩ (.int .i64 z.f0.f0)).setCell ⟨gb, 1, none⟩ (.int .i64 z.f0.f1)).setCell ⟨gb, 2, none⟩ (.int .i64 z.f0.f2)).setCell ⟨gb, 3, none⟩ (.int .i64 z.f1)).setCell ⟨gb, 4, none⟩ (.int .i64 z.f2)).setCell ⟨gb, 5, none⟩ (.int .i64 z.f3)).setCell ⟨gb, 6, none⟩ (.bool z.f4)) = w6.setCells gb 0 (c25 z) := rfl
  rw [hch]
  generalize w6.setCells gb 0 (c25 z) = w7 at HB7 HC7 HA7 ⊢
  refine HK.out _ _ ?_
  clear HK K1
  have a0 : w7.cell? ⟨ga, 0, none⟩ = some (.int .i64 z.f0.f0) := HA7.out.cell 0
  have a1 : w7.cell? ⟨ga, 1, none⟩ = some (.int .i64 z.f0.f1) := HA7.out.cell 1
  have a2 : w7.cell? ⟨ga, 2, none⟩ = some (.int .i64 z.f0.f2) := HA7.out.cell 2
  have a3 : w7.cell? ⟨ga, 3, none⟩ = some (.int .i64 z.f1) := HA7.out.cell 3
  have a4 : w7.cell? ⟨ga, 4, none⟩ = some (.int .i64 z.f2) := HA7.out.cell 4
  have a5 : w7.cell? ⟨ga, 5, none⟩ = some (.int .i64 z.f3) := HA7.out.cell 5
  have a6 : w7.cell? ⟨ga, 6, none⟩ = some (.bool z.f4) := HA7.out.cell 6
  have b0 : w7.cell? ⟨gb, 0, none⟩ = some (.int .i64 z.f0.f0) := HC7.out.cell 0
  have b1 : w7.cell? ⟨gb, 1, none⟩ = some (.int .i64 z.f0.f1) := HC7.out.cell 1
  have b2 : w7.cell? ⟨gb, 2, none⟩ = some (.int .i64 z.f0.f2) := HC7.out.cell 2
  have b3 : w7.cell? ⟨gb, 3, none⟩ = some (.int .i64 z.f1) := HC7.out.cell 3
  have b4 : w7.cell? ⟨gb, 4, none⟩ = some (.int .i64 z.f2) := HC7.out.cell 4
  have b5 : w7.cell? ⟨gb, 5, none⟩ = some (.int .i64 z.f3) := HC7.out.cell 5
  have b6 : w7.cell? ⟨gb, 6, none⟩ = some (.bool z.f4) := HC7.out.cell 6
  have n1 := eqM_refl z
  unfold eqM at n1
  go_wp2_with fail
  go_ret
  exact ⟨rfl, lq', sl', HS'.out, HB7.out.less (fun x hx => .inl (.inl (.inl hx)))⟩
set_option maxHeartbeats 8000000 in
set_option maxRecDepth 100000 in
theorem play0 (f : Cg) (g r : Nat) (w0 w : World) (lq sl : List M) (o : Int) (m : M) (hs : St lq sl) (h : Both No f w0 w g r lq sl) (e0 : (o == 0) = true) :
    Calls Try.prog 19 #[.pointer (some ⟨g, 0, none⟩), .pointer (some ⟨r, 0, none⟩), .agg #[.int .i64 o, .int .i64 m.f0.f0, .int .i64 m.f0.f1, .int .i64 m.f0.f2, .int .i64 m.f1, .int .i64 m.f2, .int .i64 m.f3, .bool m.f4]] w fun e w' => e = .returned (.bool true) ∧ ∃ lq' sl', St lq' sl' ∧ Both No f w0 w' g r lq' sl' := by
  have HB1 := hide (h.add (.cells #[.int .i64 o, .int .i64 m.f0.f0, .int .i64 m.f0.f1, .int .i64 m.f0.f2, .int .i64 m.f1, .int .i64 m.f2, .int .i64 m.f3, .bool m.f4] 55))
  have HO1 := hide (Blk.new w 55 #[.int .i64 o, .int .i64 m.f0.f0, .int .i64 m.f0.f1, .int .i64 m.f0.f2, .int .i64 m.f1, .int .i64 m.f2, .int .i64 m.f3, .bool m.f4])
  have HP0 : Hid (w0.heap.size ≤ w.heap.size) := hide h.bel.size
  have HS := hide hs
  clear h hs
  obtain ⟨W1, hW1⟩ : ∃ W1, w.alloc (.cells #[.int .i64 o, .int .i64 m.f0.f0, .int .i64 m.f0.f1, .int .i64 m.f0.f2, .int .i64 m.f1, .int .i64 m.f2, .int .i64 m.f3, .bool m.f4] 55) = W1 := ⟨_, rfl⟩
  obtain ⟨go, hgo⟩ : ∃ go, w.heap.size = go := ⟨_, rfl⟩
  rw [hW1] at HB1 HO1
  rw [hgo] at HB1 HO1 HP0
  have HB2 := hide (HB1.out.add (.cells #[.int .i64 0, .int .i64 0, .int .i64 0, .int .i64 0, .int .i64 0, .int .i64 0, .bool false] 25))
  have HO2 := hide (HO1.out.alloc (.cells #[.int .i64 0, .int .i64 0, .int .i64 0, .int .i64 0, .int .i64 0, .int .i64 0, .bool false] 25))
  have HA2 := hide (Blk.new W1 25 #[.int .i64 0, .int .i64 0, .int .i64 0, .int .i64 0, .int .i64 0, .int .i64 0, .bool false])
  have HP1 : Hid (w0.heap.size ≤ W1.heap.size) := hide HB1.out.bel.size
  obtain ⟨W2, hW2⟩ : ∃ W2, W1.alloc (.cells #[.int .i64 0, .int .i64 0, .int .i64 0, .int .i64 0, .int .i64 0, .int .i64 0, .bool false] 25) = W2 := ⟨_, rfl⟩
  have hz1 : W1.heap.size = go + 1 := by rw [← hW1, ← hgo]; exact World.size_alloc _ _
  obtain ⟨ga, hga⟩ : ∃ ga, W1.heap.size = ga := ⟨_, rfl⟩
  rw [hW2] at HB2 HO2 HA2
  rw [hga] at HB2 HA2 HP1
  have HB3 := hide (HB2.out.add (.cells #[.int .i64 0, .int .i64 0, .int .i64 0, .int .i64 0, .int .i64 0, .int .i64 0, .bool false] 25))
  have HO3 := hide (HO2.out.alloc (.cells #[.int .i64 0, .int .i64 0, .int .i64 0, .int .i64 0, .int .i64 0, .int .i64 0, .bool false] 25))
  have HA3 := hide (HA2.out.alloc (.cells #[.int .i64 0, .int .i64 0, .int .i64 0, .int .i64 0, .int .i64 0, .int .i64 0, .bool false] 25))
  have HC3 := hide (Blk.new W2 25 #[.int .i64 0, .int .i64 0, .int .i64 0, .int .i64 0, .int .i64 0, .int .i64 0, .bool false])
  have HP2 : Hid (w0.heap.size ≤ W2.heap.size) := hide HB2.out.bel.size
  have hab : ga ≠ W2.heap.size := by have := HA2.out.lt; omega
  obtain ⟨W3, hW3⟩ : ∃ W3, W2.alloc (.cells #[.int .i64 0, .int .i64 0, .int .i64 0, .int .i64 0, .int .i64 0, .int .i64 0, .bool false] 25) = W3 := ⟨_, rfl⟩
  have hz2 : W2.heap.size = ga + 1 := by rw [← hW2, ← hga]; exact World.size_alloc _ _
  obtain ⟨gb, hgb⟩ : ∃ gb, W2.heap.size = gb := ⟨_, rfl⟩
  rw [hW3] at HB3 HO3 HA3 HC3
  rw [hgb] at HB3 HC3 HP2 hab
  have hga2 : go + 1 = ga := by rw [← hga, hz1]
  have hgb2 : ga + 1 = gb := by rw [← hgb, hz2]
  have hgoa : go ≠ ga := by omega
  have hgob : go ≠ gb := by omega
  have HEQ := hide (And.intro hW1 (And.intro hW2 (And.intro hW3 (And.intro hgo (And.intro hga2 hgb2)))))
  clear HB1 HB2 HO1 HO2 HA2 hz1 hz2 hW1 hW2 hW3 hgo hga2 hgb2 hga hgb
  obtain ⟨a, lq', sl', hs', hq, hr⟩ := both_push (f := f) (w0 := w0) (g := g) (r := r) m HS.out
  have HS' := hide hs'
  have HQc := hide (hq (HB3.out.below (below_drewN (Below.refl _ _) 1)))
  have HRc := hide (fun W hW => @hr (fun x => ((No x ∨ x = go) ∨ x = ga) ∨ x = gb) W hW)
  clear hq hr hs' HB3
  unfold cM c25 at HQc HRc
  go_enter Try.func19, Try.ntmps19
  go_wp2_with fail
  rw [HEQ.out.1, HEQ.out.2.1, HEQ.out.2.2.1, HEQ.out.2.2.2.1, HEQ.out.2.2.2.2.1, HEQ.out.2.2.2.2.2]
  have y1 : W3.cell? ⟨go, 1, none⟩ = some (.int .i64 m.f0.f0) := HO3.out.cell 1
  have y2 : W3.cell? ⟨go, 2, none⟩ = some (.int .i64 m.f0.f1) := HO3.out.cell 2
  have y3 : W3.cell? ⟨go, 3, none⟩ = some (.int .i64 m.f0.f2) := HO3.out.cell 3
  have y4 : W3.cell? ⟨go, 4, none⟩ = some (.int .i64 m.f1) := HO3.out.cell 4
  have y5 : W3.cell? ⟨go, 5, none⟩ = some (.int .i64 m.f2) := HO3.out.cell 5
  have y6 : W3.cell? ⟨go, 6, none⟩ = some (.int .i64 m.f3) := HO3.out.cell 6
  have y7 : W3.cell? ⟨go, 7, none⟩ = some (.bool m.f4) := HO3.out.cell 7
  have HO3d : Hid (Blk W3.drew go 55 #[.int .i64 o, .int .i64 m.f0.f0, .int .i64 m.f0.f1, .int .i64 m.f0.f2, .int .i64 m.f1, .int .i64 m.f2, .int .i64 m.f3, .bool m.f4]) := hide HO3.out.drew
  clear HEQ HA3 HC3 hab hgoa hgob
  go_region_held3 (fun w' => w'.cell? ⟨go, 1, none⟩ = some (.int .i64 m.f0.f0) ∧ w'.cell? ⟨go, 2, none⟩ = some (.int .i64 m.f0.f1) ∧ w'.cell? ⟨go, 3, none⟩ = some (.int .i64 m.f0.f2) ∧ w'.cell? ⟨go, 4, none⟩ = some (.int .i64 m.f1) ∧ w'.cell? ⟨go, 5, none⟩ = some (.int .i64 m.f2) ∧ w'.cell? ⟨go, 6, none⟩ = some (.int .i64 m.f3) ∧ w'.cell? ⟨go, 7, none⟩ = some (.bool m.f4)) (first | exact ⟨by assumption, by assumption, by assumption, by assumption, by assumption, by assumption, by assumption⟩ | go_keep) (first
    | (go_at_call 10; refine HQc.out.mono ?_; rintro e w4 ⟨rfl, hB4, hk4⟩; have HB4 := hide hB4; have HO4 : Hid (Blk w4 go 55 #[.int .i64 o, .int .i64 m.f0.f0, .int .i64 m.f0.f1, .int .i64 m.f0.f2, .int .i64 m.f1, .int .i64 m.f2, .int .i64 m.f3, .bool m.f4]) := hide ((hk4 go (.inl (.inl (.inr rfl)))).trans HO3d.out); have y1 : w4.cell? ⟨go, 1, none⟩ = some (.int .i64 m.f0.f0) := HO4.out.cell 1; have y2 : w4.cell? ⟨go, 2, none⟩ = some (.int .i64 m.f0.f1) := HO4.out.cell 2; have y3 : w4.cell? ⟨go, 3, none⟩ = some (.int .i64 m.f0.f2) := HO4.out.cell 3; have y4 : w4.cell? ⟨go, 4, none⟩ = some (.int .i64 m.f1) := HO4.out.cell 4; have y5 : w4.cell? ⟨go, 5, none⟩ = some (.int .i64 m.f2) := HO4.out.cell 5; have y6 : w4.cell? ⟨go, 6, none⟩ = some (.int .i64 m.f3) := HO4.out.cell 6; have y7 : w4.cell? ⟨go, 7, none⟩ = some (.bool m.f4) := HO4.out.cell 7; clear hB4 hk4 HQc HO3 HO3d)
    | (go_at_call 30; refine (HRc.out _ HB4.out).mono ?_; rintro e w5 ⟨rfl, hB5, hk5⟩; have HB5 := hide hB5; have HO5 : Hid (Blk w5 go 55 #[.int .i64 o, .int .i64 m.f0.f0, .int .i64 m.f0.f1, .int .i64 m.f0.f2, .int .i64 m.f1, .int .i64 m.f2, .int .i64 m.f3, .bool m.f4]) := hide ((hk5 go (.inl (.inl (.inr rfl)))).trans HO4.out); have y1 : w5.cell? ⟨go, 1, none⟩ = some (.int .i64 m.f0.f0) := HO5.out.cell 1; have y2 : w5.cell? ⟨go, 2, none⟩ = some (.int .i64 m.f0.f1) := HO5.out.cell 2; have y3 : w5.cell? ⟨go, 3, none⟩ = some (.int .i64 m.f0.f2) := HO5.out.cell 3; have y4 : w5.cell? ⟨go, 4, none⟩ = some (.int .i64 m.f1) := HO5.out.cell 4; have y5 : w5.cell? ⟨go, 5, none⟩ = some (.int .i64 m.f2) := HO5.out.cell 5; have y6 : w5.cell? ⟨go, 6, none⟩ = some (.int .i64 m.f3) := HO5.out.cell 6; have y7 : w5.cell? ⟨go, 7, none⟩ = some (.bool m.f4) := HO5.out.cell 7; clear hB5 hk5 HRc HO4))
  all_goals (
    go_wp2_with fail
    go_ret
    exact ⟨rfl, lq', sl', HS'.out, HB5.out.less (fun x hx => .inl (.inl (.inl hx)))⟩)
theorem play_call (f : Cg) (g r : Nat) (w0 w : World) (lq sl : List M) (o : Int) (m : M) (hs : St lq sl) (h : Both No f w0 w g r lq sl) :
    Calls Try.prog 19 #[.pointer (some ⟨g, 0, none⟩), .pointer (some ⟨r, 0, none⟩), .agg #[.int .i64 o, .int .i64 m.f0.f0, .int .i64 m.f0.f1, .int .i64 m.f0.f2, .int .i64 m.f1, .int .i64 m.f2, .int .i64 m.f3, .bool m.f4]] w fun e w' => e = .returned (.bool true) ∧ ∃ lq' sl', St lq' sl' ∧ Both No f w0 w' g r lq' sl' := by
  cases e0 : (o == 0)
  · cases e1 : (o == 1)
    · cases e2 : (o == 2)
      · exact play3 f g r w0 w lq sl o m hs h e0 e1 e2
      · exact play2 f g r w0 w lq sl o m hs h e0 e1 e2
    · exact play1 f g r w0 w lq sl o m hs h e0 e1
  · exact play0 f g r w0 w lq sl o m hs h e0
end Go.Proofs.Ytkhdghlgkljdgaa.LQ
