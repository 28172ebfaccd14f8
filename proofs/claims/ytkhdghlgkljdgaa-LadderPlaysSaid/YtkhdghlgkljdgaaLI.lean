/- The ladder's Pop. No law is proved here. -/
import Derived.Test.YtkhdghlgkljdgaaLH
namespace Go.Proofs.Ytkhdghlgkljdgaa.LQ
open Go.Proofs Go.Proofs.Ytkhdghlgkljdgaa.CQ Go.Proofs.Ytkhdghlgkljdgaa.Ref02 Go.Shelf Go.RowKit Go.Deep Go.Sort Go.Proofs.Ytkhdghlgkljdgaa.SortPure Go.Proofs.Ytkhdghlgkljdgaa.Types Go.Proofs.Ytkhdghlgkljdgaa.Heap Go.Proofs.Ytkhdghlgkljdgaa.Row Go.Proofs.Ytkhdghlgkljdgaa.Ord Go.Proofs.Ytkhdghlgkljdgaa.Sorted Go.Proofs.YtkhdghlgkljdgaaW.PrintWords Go.Proofs.YtkhdghlgkljdgaaW.PrintLast Go.Proofs.YtkhdghlgkljdgaaW.PrintMore
set_option linter.unusedVariables false
set_option linter.unusedSimpArgs false
set_option maxHeartbeats 8000000 in
set_option maxRecDepth 100000 in
theorem pop_none {w : World} {S : Nat → Prop} {g : Nat} {most : Int} (h : Lq w S g most []) (hN : ∀ x, w.heap.size ≤ x → S x) (hm : most ≠ 0) :
    Calls Try.prog 14 #[.pointer (some ⟨g, 0, none⟩)] w fun e w' => e = .returned (.tuple #[zA, .int .i64 6]) ∧ Lq w' S g most [] ∧ Only w w' S := by
  obtain ⟨W, hW⟩ : ∃ W, w.alloc (.cells #[.int .i64 0, .int .i64 0, .int .i64 0, .int .i64 0, .int .i64 0, .int .i64 0, .bool false] 25) = W := ⟨_, rfl⟩
  obtain ⟨ro, hro⟩ : ∃ ro, w.heap.size = ro := ⟨_, rfl⟩
  have HRO := hide hro
  have HB0 : Hid (Below w.heap.size w W) := hide (by rw [← hW]; exact (Below.refl _ _).alloc (Nat.le_refl _) _)
  have HSW : Hid (W.heap.size = ro + 1) := hide (by rw [← hW, ← hro]; exact World.size_alloc _ _)
  have HO0 : Hid (Blk W ro 25 #[.int .i64 0, .int .i64 0, .int .i64 0, .int .i64 0, .int .i64 0, .int .i64 0, .bool false]) := hide (by rw [← hW, ← hro]; exact Blk.new _ _ _)
  have HN := hide hN
  have HL0 := hide ((h.to (T := fun x => S x ∧ x ≠ ro) (fun x hx hlt => ⟨hx, by omega⟩)).below HB0.out)
  have HF := hide (first_none HL0.out (fun x hx => ⟨HN.out x (by have := HSW.out; omega), by have := HSW.out; omega⟩) hm)
  clear h hN hm
  unfold zA at HF ⊢
  go_enter Try.func14, Try.ntmps14
  go_upto_region 2 with (go_at_call 17; refine HF.out.mono ?_; rintro e w1 ⟨rfl, hx, hO1⟩; have HX := hide hx; have HO1 := hide hO1; clear hx hO1)
  have HR1 := hide (HO0.out.only HO1.out (fun e => e.2 rfl))
  have HR2 := hide (HR1.out.alloc (.cells #[.int .i64 0, .int .i64 0, .int .i64 0, .int .i64 0, .int .i64 0, .int .i64 0, .bool false] 25))
  have HX2 := hide (Blk.new w1 25 #[.int .i64 0, .int .i64 0, .int .i64 0, .int .i64 0, .int .i64 0, .int .i64 0, .bool false])
  have HSX : Hid ((w1.alloc (.cells #[.int .i64 0, .int .i64 0, .int .i64 0, .int .i64 0, .int .i64 0, .int .i64 0, .bool false] 25)).heap.size = w1.heap.size + 1) := hide (World.size_alloc _ _)
  have hrx : ro < w1.heap.size := HR1.out.lt
  obtain ⟨gx, hgx⟩ : ∃ gx, w1.heap.size = gx := ⟨_, rfl⟩
  have HGX := hide hgx
  have HBX := hide ((Below.refl w1.heap.size w1).alloc (Nat.le_refl _) (.cells #[.int .i64 0, .int .i64 0, .int .i64 0, .int .i64 0, .int .i64 0, .int .i64 0, .bool false] 25))
  have hro2 := HRO.out
  have hb0 := HSW.out
  have HRX : Hid (w.heap.size ≤ ro ∧ ro < gx) := hide (by omega)
  have HL2 := hide (HX.out.below HBX.out)
  have HON2 := hide ((only_of_below HB0.out S).step ((HO1.out.step (only_of_below HBX.out (fun _ => False)) (fun x e _ => e.elim))) (fun x e _ => e.1))
  rw [hgx] at HX2 HSX
  obtain ⟨w2, hw2⟩ : ∃ w2, w1.alloc (.cells #[.int .i64 0, .int .i64 0, .int .i64 0, .int .i64 0, .int .i64 0, .int .i64 0, .bool false] 25) = w2 := ⟨_, rfl⟩
  rw [hw2, hgx]
  rw [hw2] at HR2 HX2 HL2 HSX HON2 HBX
  clear hw2 hgx hW hro HF HX HR1 HO1 hrx hro2 hb0
  have r0 : w2.cell? ⟨ro, 0, none⟩ = some (.int .i64 0) := HR2.out.cell 0
  have v0 : w2.frozen? ⟨ro, 0, none⟩ = false := HR2.out.frozen 0
  have r1 : w2.cell? ⟨ro, 1, none⟩ = some (.int .i64 0) := HR2.out.cell 1
  have v1 : w2.frozen? ⟨ro, 1, none⟩ = false := HR2.out.frozen 1
  have r2 : w2.cell? ⟨ro, 2, none⟩ = some (.int .i64 0) := HR2.out.cell 2
  have v2 : w2.frozen? ⟨ro, 2, none⟩ = false := HR2.out.frozen 2
  have r3 : w2.cell? ⟨ro, 3, none⟩ = some (.int .i64 0) := HR2.out.cell 3
  have v3 : w2.frozen? ⟨ro, 3, none⟩ = false := HR2.out.frozen 3
  have r4 : w2.cell? ⟨ro, 4, none⟩ = some (.int .i64 0) := HR2.out.cell 4
  have v4 : w2.frozen? ⟨ro, 4, none⟩ = false := HR2.out.frozen 4
  have r5 : w2.cell? ⟨ro, 5, none⟩ = some (.int .i64 0) := HR2.out.cell 5
  have v5 : w2.frozen? ⟨ro, 5, none⟩ = false := HR2.out.frozen 5
  have r6 : w2.cell? ⟨ro, 6, none⟩ = some (.bool false) := HR2.out.cell 6
  have v6 : w2.frozen? ⟨ro, 6, none⟩ = false := HR2.out.frozen 6
  have p0 : w2.cell? ⟨gx, 0, none⟩ = some (.int .i64 0) := HX2.out.cell 0
  have p1 : w2.cell? ⟨gx, 1, none⟩ = some (.int .i64 0) := HX2.out.cell 1
  have p2 : w2.cell? ⟨gx, 2, none⟩ = some (.int .i64 0) := HX2.out.cell 2
  have p3 : w2.cell? ⟨gx, 3, none⟩ = some (.int .i64 0) := HX2.out.cell 3
  have p4 : w2.cell? ⟨gx, 4, none⟩ = some (.int .i64 0) := HX2.out.cell 4
  have p5 : w2.cell? ⟨gx, 5, none⟩ = some (.int .i64 0) := HX2.out.cell 5
  have p6 : w2.cell? ⟨gx, 6, none⟩ = some (.bool false) := HX2.out.cell 6
  go_wp2_with fail
  have hch : (((((((w2.setCell ⟨ro, 0, none⟩ (.int .i64 0)).setCell ⟨ro, 1, none⟩ (.int .i64 0)).setCell ⟨ro, 2, none⟩ (.int .i64 0)).setCell ⟨ro, 3, none⟩ (.int .i64 0)).setCell ⟨ro, 4, none⟩ (.int .i64 0)).setCell ⟨ro, 5, none⟩ (.int .i64 0)).setCell ⟨ro, 6, none⟩ (.bool false)) = w2.setCells ro 0 (c25 default) := rfl
  rw [hch]
  have hO4 := only_set7 w2 ro default
  have hR4 := set7 default default HR2.out
  refine bodyPost_ret (v := .tuple #[.agg #[.int .i64 0, .int .i64 0, .int .i64 0, .int .i64 0, .int .i64 0, .int .i64 0, .bool false], .int .i64 6]) ?_ rfl ⟨rfl, (HL2.out.only hO4 (fun x hx e => hx.2 e)).to (fun x hx _ => hx.1), ?_⟩
  · refine results_list (rs := [.cell 2 25, .tmp 3]) rfl (by simp) ?_
    exact Vals.cell ro 25 _ (0, 0) _ rfl hR4 Try.underlying25 rfl (by kernel_rfl) (Vals.tmp Vals.nil)
  · exact HON2.out.step hO4 (fun x e hx => by have := HRX.out; omega)
set_option maxHeartbeats 8000000 in
set_option maxRecDepth 100000 in
theorem pop_some {w : World} {S : Nat → Prop} {g : Nat} {most : Int} {z : M} {s : List M} (h : Lq w S g most (z :: s)) (hN : ∀ x, w.heap.size ≤ x → S x) (hm : most ≠ 0) :
    Calls Try.prog 14 #[.pointer (some ⟨g, 0, none⟩)] w fun e w' => e = .returned (.tuple #[.agg (cM z).toArray, .int .i64 0]) ∧ Lq w' S g most s ∧ Only w w' S := by
  obtain ⟨W, hW⟩ : ∃ W, w.alloc (.cells #[.int .i64 0, .int .i64 0, .int .i64 0, .int .i64 0, .int .i64 0, .int .i64 0, .bool false] 25) = W := ⟨_, rfl⟩
  obtain ⟨ro, hro⟩ : ∃ ro, w.heap.size = ro := ⟨_, rfl⟩
  have HRO := hide hro
  have HB0 : Hid (Below w.heap.size w W) := hide (by rw [← hW]; exact (Below.refl _ _).alloc (Nat.le_refl _) _)
  have HSW : Hid (W.heap.size = ro + 1) := hide (by rw [← hW, ← hro]; exact World.size_alloc _ _)
  have HO0 : Hid (Blk W ro 25 #[.int .i64 0, .int .i64 0, .int .i64 0, .int .i64 0, .int .i64 0, .int .i64 0, .bool false]) := hide (by rw [← hW, ← hro]; exact Blk.new _ _ _)
  have HN := hide hN
  have HL0 := hide ((h.to (T := fun x => S x ∧ x ≠ ro) (fun x hx hlt => ⟨hx, by omega⟩)).below HB0.out)
  have HF := hide (first_some HL0.out (fun x hx => ⟨HN.out x (by have := HSW.out; omega), by have := HSW.out; omega⟩) hm)
  clear h hN hm
  unfold cM c25 at HF ⊢
  go_enter Try.func14, Try.ntmps14
  go_upto_region 2 with (go_at_call 17; refine HF.out.mono ?_; rintro e w1 ⟨rfl, hx, hO1⟩; have HX := hide hx; have HO1 := hide hO1; clear hx hO1)
  have HR1 := hide (HO0.out.only HO1.out (fun e => e.2 rfl))
  have HR2 := hide (HR1.out.alloc (.cells #[.int .i64 z.f0.f0, .int .i64 z.f0.f1, .int .i64 z.f0.f2, .int .i64 z.f1, .int .i64 z.f2, .int .i64 z.f3, .bool z.f4] 25))
  have HX2 := hide (Blk.new w1 25 #[.int .i64 z.f0.f0, .int .i64 z.f0.f1, .int .i64 z.f0.f2, .int .i64 z.f1, .int .i64 z.f2, .int .i64 z.f3, .bool z.f4])
  have HSX : Hid ((w1.alloc (.cells #[.int .i64 z.f0.f0, .int .i64 z.f0.f1, .int .i64 z.f0.f2, .int .i64 z.f1, .int .i64 z.f2, .int .i64 z.f3, .bool z.f4] 25)).heap.size = w1.heap.size + 1) := hide (World.size_alloc _ _)
  have hrx : ro < w1.heap.size := HR1.out.lt
  obtain ⟨gx, hgx⟩ : ∃ gx, w1.heap.size = gx := ⟨_, rfl⟩
  have HGX := hide hgx
  have HBX := hide ((Below.refl w1.heap.size w1).alloc (Nat.le_refl _) (.cells #[.int .i64 z.f0.f0, .int .i64 z.f0.f1, .int .i64 z.f0.f2, .int .i64 z.f1, .int .i64 z.f2, .int .i64 z.f3, .bool z.f4] 25))
  have hro2 := HRO.out
  have hb0 := HSW.out
  have HRX : Hid (w.heap.size ≤ ro ∧ ro < gx) := hide (by omega)
  obtain ⟨A, c, b, R, rc, rs, h1, hi1⟩ := HX.out
  obtain ⟨z1, _, _, _⟩ := inv_sizes hi1
  have HI := hide hi1
  have HL2 := hide ((h1.to (T := fun x => S x ∧ x ≠ ro ∧ x ≠ gx) (fun x hx hlt => ⟨hx.1, hx.2, by omega⟩)).below HBX.out)
  have HRM := hide (remove_call HL2.out (fun x hx => ⟨HN.out x (by have := HSX.out; have := HRX.out; omega), by have := HSX.out; have := HRX.out; omega, by have := HSX.out; omega⟩) (by omega) (i := 0) (by simp) (z := z) rfl)
  have HON2 := hide ((only_of_below HB0.out S).step ((HO1.out.step (only_of_below HBX.out (fun _ => False)) (fun x e _ => e.elim))) (fun x e _ => e.1))
  rw [hgx] at HX2 HSX
  obtain ⟨w2, hw2⟩ : ∃ w2, w1.alloc (.cells #[.int .i64 z.f0.f0, .int .i64 z.f0.f1, .int .i64 z.f0.f2, .int .i64 z.f1, .int .i64 z.f2, .int .i64 z.f3, .bool z.f4] 25) = w2 := ⟨_, rfl⟩
  rw [hw2, hgx]
  rw [hw2] at HR2 HX2 HL2 HSX HON2 HBX HRM
  clear hw2 hgx hW hro HF HX HR1 HO1 hrx hro2 hb0 h1 hi1 z1 HBX
  unfold cM c25 at HRM
  go_upto_region 4 with (go_at_call 26; refine HRM.out.mono ?_; rintro e w3 ⟨rfl, hl3, hO3⟩; have HL3' := hide hl3; have HO3 := hide hO3; clear hl3 hO3)
  obtain ⟨A3, c3, h3⟩ := HL3'.out
  have HL3 := hide h3
  have HR3 := hide (HR2.out.only HO3.out (fun e => e.2.1 rfl))
  have HX3 := hide (HX2.out.only HO3.out (fun e => e.2.2 rfl))
  have HON3 := hide (HON2.out.step HO3.out (fun x e _ => e.1))
  have HI3 : Hid (Inv b (rs.map Rg.l) s) := hide (by
    have hi := HI.out
    refine ⟨?_, (srt_cons.1 hi.srt).2, (List.pairwise_cons.1 hi.uq).2, hi.ne, by have := hi.len; simp at this; omega⟩
    have := hi.eq
    rw [List.cons_append] at this
    injection this)
  clear HRM HL3' h3 HR2 HX2 HL2 HON2
  have r0 : w3.cell? ⟨ro, 0, none⟩ = some (.int .i64 0) := HR3.out.cell 0
  have v0 : w3.frozen? ⟨ro, 0, none⟩ = false := HR3.out.frozen 0
  have r1 : w3.cell? ⟨ro, 1, none⟩ = some (.int .i64 0) := HR3.out.cell 1
  have v1 : w3.frozen? ⟨ro, 1, none⟩ = false := HR3.out.frozen 1
  have r2 : w3.cell? ⟨ro, 2, none⟩ = some (.int .i64 0) := HR3.out.cell 2
  have v2 : w3.frozen? ⟨ro, 2, none⟩ = false := HR3.out.frozen 2
  have r3 : w3.cell? ⟨ro, 3, none⟩ = some (.int .i64 0) := HR3.out.cell 3
  have v3 : w3.frozen? ⟨ro, 3, none⟩ = false := HR3.out.frozen 3
  have r4 : w3.cell? ⟨ro, 4, none⟩ = some (.int .i64 0) := HR3.out.cell 4
  have v4 : w3.frozen? ⟨ro, 4, none⟩ = false := HR3.out.frozen 4
  have r5 : w3.cell? ⟨ro, 5, none⟩ = some (.int .i64 0) := HR3.out.cell 5
  have v5 : w3.frozen? ⟨ro, 5, none⟩ = false := HR3.out.frozen 5
  have r6 : w3.cell? ⟨ro, 6, none⟩ = some (.bool false) := HR3.out.cell 6
  have v6 : w3.frozen? ⟨ro, 6, none⟩ = false := HR3.out.frozen 6
  have p0 : w3.cell? ⟨gx, 0, none⟩ = some (.int .i64 z.f0.f0) := HX3.out.cell 0
  have p1 : w3.cell? ⟨gx, 1, none⟩ = some (.int .i64 z.f0.f1) := HX3.out.cell 1
  have p2 : w3.cell? ⟨gx, 2, none⟩ = some (.int .i64 z.f0.f2) := HX3.out.cell 2
  have p3 : w3.cell? ⟨gx, 3, none⟩ = some (.int .i64 z.f1) := HX3.out.cell 3
  have p4 : w3.cell? ⟨gx, 4, none⟩ = some (.int .i64 z.f2) := HX3.out.cell 4
  have p5 : w3.cell? ⟨gx, 5, none⟩ = some (.int .i64 z.f3) := HX3.out.cell 5
  have p6 : w3.cell? ⟨gx, 6, none⟩ = some (.bool z.f4) := HX3.out.cell 6
  go_wp2_with fail
  have hch : (((((((w3.setCell ⟨ro, 0, none⟩ (.int .i64 z.f0.f0)).setCell ⟨ro, 1, none⟩ (.int .i64 z.f0.f1)).setCell ⟨ro, 2, none⟩ (.int .i64 z.f0.f2)).setCell ⟨ro, 3, none⟩ (.int .i64 z.f1)).setCell ⟨ro, 4, none⟩ (.int .i64 z.f2)).setCell ⟨ro, 5, none⟩ (.int .i64 z.f3)).setCell ⟨ro, 6, none⟩ (.bool z.f4)) = w3.setCells ro 0 (c25 z) := rfl
  rw [hch]
  have hO4 := only_set7 w3 ro z
  have hR4 := set7 default z HR3.out
  refine bodyPost_ret (v := .tuple #[.agg #[.int .i64 z.f0.f0, .int .i64 z.f0.f1, .int .i64 z.f0.f2, .int .i64 z.f1, .int .i64 z.f2, .int .i64 z.f3, .bool z.f4], .int .i64 0]) ?_ rfl ⟨rfl, ⟨A3, c3, _, R, rc, rs, (HL3.out.only hO4 (fun x hx e => hx.2.1 e)).to (fun x hx _ => hx.1), HI3.out⟩, ?_⟩
  · refine results_list (rs := [.cell 2 25, .tmp 3]) rfl (by simp) ?_
    exact Vals.cell ro 25 _ (0, 0) _ rfl hR4 Try.underlying25 rfl (by kernel_rfl) (Vals.tmp Vals.nil)
  · exact HON3.out.step hO4 (fun x e hx => by have := HRX.out; omega)
end Go.Proofs.Ytkhdghlgkljdgaa.LQ
