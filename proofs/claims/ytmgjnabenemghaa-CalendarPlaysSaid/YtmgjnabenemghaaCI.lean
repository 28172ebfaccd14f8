/- The calendar's Pop. No law is proved here. -/
import Derived.Test.YtmgjnabenemghaaCH
namespace Go.Proofs.Ytmgjnabenemghaa.CQ
open Go.Proofs Go.Shelf Go.RowKit Go.Deep Go.Sort Go.Maps Go.Proofs.Ytmgjnabenemghaa.SortPure Go.Proofs.Ytmgjnabenemghaa.Types Go.Proofs.Ytmgjnabenemghaa.Heap Go.Proofs.Ytmgjnabenemghaa.Row Go.Proofs.Ytmgjnabenemghaa.Ord Go.Proofs.Ytmgjnabenemghaa.Sorted Go.Proofs.YtmgjnabenemghaaW.PrintWords Go.Proofs.YtmgjnabenemghaaW.PrintLast Go.Proofs.YtmgjnabenemghaaW.PrintMore
set_option linter.unusedVariables false
set_option linter.unusedSimpArgs false
theorem filter_head {z : M} {s : List M} (h : Uq (z :: s)) : (z :: s).filter (oth z.f0.f1 z.f3) = s := by
  rw [List.filter_cons, if_neg (by rw [oth_false.2 ⟨rfl, rfl⟩]; simp)]
  exact filter_oth_none (fun m hm => (List.pairwise_cons.1 h).1 m hm)
set_option maxHeartbeats 8000000 in
set_option maxRecDepth 100000 in
theorem pop_none {w : World} {P : Nat → Prop} {g b : Nat} {wd : Int} (h : CAt w P g b wd []) :
    Calls Try.prog 16 #[.pointer (some ⟨g, 0, none⟩)] w fun e w' => e = .returned (.tuple #[zA, .int .i64 6]) ∧ Below w.heap.size w w' := by
  unfold zA
  have HB := hide ((Below.refl w.heap.size w).alloc (Nat.le_refl _) (.cells #[.int .i64 0, .int .i64 0, .int .i64 0, .int .i64 0, .int .i64 0, .int .i64 0, .bool false] 25))
  have HR := hide (Blk.new w 25 #[.int .i64 0, .int .i64 0, .int .i64 0, .int .i64 0, .int .i64 0, .int .i64 0, .bool false])
  have HF := hide (first_none (h.below HB.out))
  unfold zA at HF
  clear h
  obtain ⟨ro, hro⟩ : ∃ ro, w.heap.size = ro := ⟨_, rfl⟩
  obtain ⟨W0, hW0⟩ : ∃ W0, w.alloc (.cells #[.int .i64 0, .int .i64 0, .int .i64 0, .int .i64 0, .int .i64 0, .int .i64 0, .bool false] 25) = W0 := ⟨_, rfl⟩
  have HRO := hide hro
  rw [hro, hW0] at HR
  rw [hW0] at HB HF
  go_enter Try.func16, Try.ntmps16
  go_wp2_with fail
  refine HF.out.mono ?_
  rintro e w2 ⟨rfl, hb⟩
  have HB2 := hide (below_step HB.out hb)
  have HR2 := hide (HR.out.below' hb)
  have hro2 : ro < w2.heap.size := HR2.out.lt
  clear hb HB HF HR hW0
  have hrom : ro ≠ w2.heap.size := by omega
  rename_i K1 h1 K2 h2
  have HK := hide h1
  clear h1
  go_wp2_with fail
  have HB3 := hide (HB2.out.alloc HB2.out.size (.cells #[.int .i64 0, .int .i64 0, .int .i64 0, .int .i64 0, .int .i64 0, .int .i64 0, .bool false] 25))
  have HR3 := hide (HR2.out.alloc (.cells #[.int .i64 0, .int .i64 0, .int .i64 0, .int .i64 0, .int .i64 0, .int .i64 0, .bool false] 25))
  have HM3 := hide (Blk.new w2 25 #[.int .i64 0, .int .i64 0, .int .i64 0, .int .i64 0, .int .i64 0, .int .i64 0, .bool false])
  generalize w2.alloc (.cells #[.int .i64 0, .int .i64 0, .int .i64 0, .int .i64 0, .int .i64 0, .int .i64 0, .bool false] 25) = w3 at HB3 HR3 HM3 ⊢
  generalize w2.heap.size = gm at HM3 hrom ⊢
  refine HK.out _ _ ?_
  clear HK K1 HB2 HR2 hro2
  have r0 : w3.cell? ⟨ro, 0, none⟩ = some (.int .i64 0) := HR3.out.cell 0
  have v0 : w3.frozen? ⟨ro, 0, none⟩ = false := HR3.out.frozen 0
  have r1 : w3.cell? ⟨ro, 1, none⟩ = some (.int .i64 0) := HR3.out.cell 1
  have v1 : w3.frozen? ⟨ro, 1, none⟩ = false := HR3.out.frozen 1
  have r2 : w3.cell? ⟨ro, 2, none⟩ = some (.int .i64 0) := HR3.out.cell 2
  have v2 : w3.frozen? ⟨ro, 2, none⟩ = false := HR3.out.frozen 2
  have r3 : w3.cell? ⟨ro, 3, none⟩ = some (.int .i64 0) := HR3.out.cell 3
  have v3 : w3.frozen? ⟨ro, 3, none⟩ = false := HR3.out.frozen 3
  have r4 : w3.cell? ⟨ro, 4, none⟩ = some (.int .i64 0) := HR3.out.cell 4
  have v4 : w3.frozen? ⟨ro, 4, none⟩ = false := HR3.out.frozen 4
  have r5 : w3.cell? ⟨ro, 5, none⟩ = some (.int .i64 0) := HR3.out.cell 5
  have v5 : w3.frozen? ⟨ro, 5, none⟩ = false := HR3.out.frozen 5
  have r6 : w3.cell? ⟨ro, 6, none⟩ = some (.bool false) := HR3.out.cell 6
  have v6 : w3.frozen? ⟨ro, 6, none⟩ = false := HR3.out.frozen 6
  have m0 : w3.cell? ⟨gm, 0, none⟩ = some (.int .i64 0) := HM3.out.cell 0
  have m1 : w3.cell? ⟨gm, 1, none⟩ = some (.int .i64 0) := HM3.out.cell 1
  have m2 : w3.cell? ⟨gm, 2, none⟩ = some (.int .i64 0) := HM3.out.cell 2
  have m3 : w3.cell? ⟨gm, 3, none⟩ = some (.int .i64 0) := HM3.out.cell 3
  have m4 : w3.cell? ⟨gm, 4, none⟩ = some (.int .i64 0) := HM3.out.cell 4
  have m5 : w3.cell? ⟨gm, 5, none⟩ = some (.int .i64 0) := HM3.out.cell 5
  have m6 : w3.cell? ⟨gm, 6, none⟩ = some (.bool false) := HM3.out.cell 6
  go_wp2_with fail
  have hch : (((((((w3.setCell ⟨ro, 0, none⟩ (.int .i64 0)).setCell ⟨ro, 1, none⟩ (.int .i64 0)).setCell ⟨ro, 2, none⟩ (.int .i64 0)).setCell ⟨ro, 3, none⟩ (.int .i64 0)).setCell ⟨ro, 4, none⟩ (.int .i64 0)).setCell ⟨ro, 5, none⟩ (.int .i64 0)).setCell ⟨ro, 6, none⟩ (.bool false)) = w3.setCells ro 0 (c25 default) := rfl
  rw [hch]
  have hR4 := set7 default default HR3.out
  have hB4 : Below w.heap.size w (w3.setCells ro 0 (c25 default)) := HB3.out.trans ((only_set7 w3 ro default).below HB3.out.size (fun i e => by rw [HRO.out, e]; exact Nat.le_refl _))
  refine bodyPost_ret (v := .tuple #[.agg #[.int .i64 0, .int .i64 0, .int .i64 0, .int .i64 0, .int .i64 0, .int .i64 0, .bool false], .int .i64 6]) ?_ rfl ⟨rfl, hB4⟩
  refine results_list (rs := [.cell 2 25, .tmp 3]) rfl (by simp) ?_
  exact Vals.cell ro 25 _ (0, 0) _ rfl hR4 Try.underlying25 rfl (by kernel_rfl) (Vals.tmp Vals.nil)
set_option maxHeartbeats 8000000 in
set_option maxRecDepth 100000 in
theorem pop_some {w : World} {P : Nat → Prop} {g b : Nat} {wd : Int} {z : M} {s : List M} (h : CAt w P g b wd (z :: s)) (hP : ∀ x, w.heap.size ≤ x → P x) :
    Calls Try.prog 16 #[.pointer (some ⟨g, 0, none⟩)] w fun e w' => e = .returned (.tuple #[.agg (cM z).toArray, .int .i64 0]) ∧ CAt w' P g b wd s ∧ Only w w' (fun x => x = g ∨ x = b) := by
  have HB := hide ((Below.refl w.heap.size w).alloc (Nat.le_refl _) (.cells #[.int .i64 0, .int .i64 0, .int .i64 0, .int .i64 0, .int .i64 0, .int .i64 0, .bool false] 25))
  have HR := hide (Blk.new w 25 #[.int .i64 0, .int .i64 0, .int .i64 0, .int .i64 0, .int .i64 0, .int .i64 0, .bool false])
  have HF := hide (first_some (h.below HB.out))
  unfold cM c25 at HF
  have HH := hide h
  have HP := hide hP
  clear h hP
  obtain ⟨ro, hro⟩ : ∃ ro, w.heap.size = ro := ⟨_, rfl⟩
  obtain ⟨W0, hW0⟩ : ∃ W0, w.alloc (.cells #[.int .i64 0, .int .i64 0, .int .i64 0, .int .i64 0, .int .i64 0, .int .i64 0, .bool false] 25) = W0 := ⟨_, rfl⟩
  have HRO := hide hro
  rw [hro, hW0] at HR
  rw [hW0] at HB HF
  go_enter Try.func16, Try.ntmps16
  go_wp2_with fail
  refine HF.out.mono ?_
  rintro e w2 ⟨rfl, hb⟩
  have HB2 := hide (below_step HB.out hb)
  have HR2 := hide (HR.out.below' hb)
  have hro2 : ro < w2.heap.size := HR2.out.lt
  clear hb HB HF HR hW0
  have hrom : ro ≠ w2.heap.size := by omega
  have HB3 := hide (HB2.out.alloc HB2.out.size (.cells #[.int .i64 z.f0.f0, .int .i64 z.f0.f1, .int .i64 z.f0.f2, .int .i64 z.f1, .int .i64 z.f2, .int .i64 z.f3, .bool z.f4] 25))
  have HR3 := hide (HR2.out.alloc (.cells #[.int .i64 z.f0.f0, .int .i64 z.f0.f1, .int .i64 z.f0.f2, .int .i64 z.f1, .int .i64 z.f2, .int .i64 z.f3, .bool z.f4] 25))
  have HM3 := hide (Blk.new w2 25 #[.int .i64 z.f0.f0, .int .i64 z.f0.f1, .int .i64 z.f0.f2, .int .i64 z.f1, .int .i64 z.f2, .int .i64 z.f3, .bool z.f4])
  have HGL : Hid (w.heap.size ≤ w2.heap.size) := hide HB2.out.size
  obtain ⟨w3, hw3⟩ : ∃ w3, w2.alloc (.cells #[.int .i64 z.f0.f0, .int .i64 z.f0.f1, .int .i64 z.f0.f2, .int .i64 z.f1, .int .i64 z.f2, .int .i64 z.f3, .bool z.f4] 25) = w3 := ⟨_, rfl⟩
  obtain ⟨gm, hgm⟩ : ∃ gm, w2.heap.size = gm := ⟨_, rfl⟩
  rw [hw3] at HB3 HR3 HM3
  rw [hgm] at HM3 hrom HGL
  have HFD := hide (first_day_call (HH.out.below HB3.out))
  clear HB2 HR2 hro2
  go_wp2_with fail
  refine HFD.out.mono ?_
  rintro e w4 ⟨rfl, hb⟩
  have HB4 := hide (below_step HB3.out hb)
  have HR4 := hide (HR3.out.below' hb)
  have HM4 := hide (HM3.out.below' hb)
  clear hb HFD HB3 HR3 HM3
  have hpos : 0 < (row wd (z :: s) (z.f0.f0 / wd)).length := by rw [first_row]; simp
  have HT := hide (take_call (HH.out.apart HB4.out) (fun x hx => ⟨HP.out x (Nat.le_trans HB4.out.size hx), by omega⟩) (wfI_day HH.out.wd1 (HH.out.tm z List.mem_cons_self)) (k := 0) hpos (z := z) (by simp only [first_row, List.getElem_cons_zero]))
  rw [filter_head HH.out.uq] at HT
  have HRM : Hid (w.heap.size ≤ ro ∧ ro < w4.heap.size ∧ w.heap.size ≤ gm ∧ gm < w4.heap.size) := hide ⟨Nat.le_of_eq HRO.out, HR4.out.lt, HGL.out, HM4.out.lt⟩
  have HLT := hide HH.out.lt
  have HPR : Hid (P ro ∧ P gm) := hide ⟨HP.out _ HRM.out.1, HP.out _ HRM.out.2.2.1⟩
  clear hpos
  go_wp2_with fail
  refine HT.out.mono ?_
  rintro e w5 ⟨rfl, hc, hO⟩
  have HC5 := hide hc
  have HR5 := hide (HR4.out.only hO (fun e => by rcases e with e | e; exact HLT.out.2.1 (e ▸ HPR.out.1); exact HLT.out.1 (e ▸ HPR.out.1)))
  have HM5 := hide (HM4.out.only hO (fun e => by rcases e with e | e; exact HLT.out.2.1 (e ▸ HPR.out.2); exact HLT.out.1 (e ▸ HPR.out.2)))
  have HN5 := hide ((only_of_below HB4.out (fun x => x = g ∨ x = b)).trans hO)
  clear hc hO HT HR4 HM4
  have r0 : w5.cell? ⟨ro, 0, none⟩ = some (.int .i64 0) := HR5.out.cell 0
  have v0 : w5.frozen? ⟨ro, 0, none⟩ = false := HR5.out.frozen 0
  have r1 : w5.cell? ⟨ro, 1, none⟩ = some (.int .i64 0) := HR5.out.cell 1
  have v1 : w5.frozen? ⟨ro, 1, none⟩ = false := HR5.out.frozen 1
  have r2 : w5.cell? ⟨ro, 2, none⟩ = some (.int .i64 0) := HR5.out.cell 2
  have v2 : w5.frozen? ⟨ro, 2, none⟩ = false := HR5.out.frozen 2
  have r3 : w5.cell? ⟨ro, 3, none⟩ = some (.int .i64 0) := HR5.out.cell 3
  have v3 : w5.frozen? ⟨ro, 3, none⟩ = false := HR5.out.frozen 3
  have r4 : w5.cell? ⟨ro, 4, none⟩ = some (.int .i64 0) := HR5.out.cell 4
  have v4 : w5.frozen? ⟨ro, 4, none⟩ = false := HR5.out.frozen 4
  have r5 : w5.cell? ⟨ro, 5, none⟩ = some (.int .i64 0) := HR5.out.cell 5
  have v5 : w5.frozen? ⟨ro, 5, none⟩ = false := HR5.out.frozen 5
  have r6 : w5.cell? ⟨ro, 6, none⟩ = some (.bool false) := HR5.out.cell 6
  have v6 : w5.frozen? ⟨ro, 6, none⟩ = false := HR5.out.frozen 6
  have m0 : w5.cell? ⟨gm, 0, none⟩ = some (.int .i64 z.f0.f0) := HM5.out.cell 0
  have m1 : w5.cell? ⟨gm, 1, none⟩ = some (.int .i64 z.f0.f1) := HM5.out.cell 1
  have m2 : w5.cell? ⟨gm, 2, none⟩ = some (.int .i64 z.f0.f2) := HM5.out.cell 2
  have m3 : w5.cell? ⟨gm, 3, none⟩ = some (.int .i64 z.f1) := HM5.out.cell 3
  have m4 : w5.cell? ⟨gm, 4, none⟩ = some (.int .i64 z.f2) := HM5.out.cell 4
  have m5 : w5.cell? ⟨gm, 5, none⟩ = some (.int .i64 z.f3) := HM5.out.cell 5
  have m6 : w5.cell? ⟨gm, 6, none⟩ = some (.bool z.f4) := HM5.out.cell 6
  go_wp2_with fail
  have hch : (((((((w5.setCell ⟨ro, 0, none⟩ (.int .i64 z.f0.f0)).setCell ⟨ro, 1, none⟩ (.int .i64 z.f0.f1)).setCell ⟨ro, 2, none⟩ (.int .i64 z.f0.f2)).setCell ⟨ro, 3, none⟩ (.int .i64 z.f1)).setCell ⟨ro, 4, none⟩ (.int .i64 z.f2)).setCell ⟨ro, 5, none⟩ (.int .i64 z.f3)).setCell ⟨ro, 6, none⟩ (.bool z.f4)) = w5.setCells ro 0 (c25 z) := rfl
  rw [hch]
  have hO4 := only_set7 w5 ro z
  have hR4 := set7 default z HR5.out
  refine bodyPost_ret (v := .tuple #[.agg #[.int .i64 z.f0.f0, .int .i64 z.f0.f1, .int .i64 z.f0.f2, .int .i64 z.f1, .int .i64 z.f2, .int .i64 z.f3, .bool z.f4], .int .i64 0]) ?_ rfl ⟨rfl, (HC5.out.only hO4 (fun e => HLT.out.2.1 (e ▸ HPR.out.1)) (fun e => HLT.out.1 (e ▸ HPR.out.1)) (fun x hx e => hx.2 (e ▸ ⟨HRM.out.1, HRM.out.2.1⟩))).to (fun x hx => hx.1) HLT.out.1 HLT.out.2.1, HN5.out.step hO4 (fun x e hx => by subst e; have := HRO.out; omega)⟩
  refine results_list (rs := [.cell 2 25, .tmp 3]) rfl (by simp) ?_
  exact Vals.cell ro 25 _ (0, 0) _ rfl hR4 Try.underlying25 rfl (by kernel_rfl) (Vals.tmp Vals.nil)
section
variable {X : Nat → Prop} {w0 w w' : World} {g b : Nat} {wd : Int}
theorem cs_first_none (h : Cs X w0 w g b wd []) : Calls Try.prog 17 #[.pointer (some ⟨g, 0, none⟩)] w fun e w' => e = .returned (.tuple #[zA, .int .i64 6]) ∧ Cs X w0 w' g b wd [] ∧ Kp X w w' := by
  refine (first_none h.at_).mono ?_
  rintro e w' ⟨rfl, hb⟩
  exact ⟨rfl, h.below hb, h.kp hb⟩
theorem cs_first_some {z : M} {s : List M} (h : Cs X w0 w g b wd (z :: s)) : Calls Try.prog 17 #[.pointer (some ⟨g, 0, none⟩)] w fun e w' => e = .returned (.tuple #[.agg (cM z).toArray, .int .i64 0]) ∧ Cs X w0 w' g b wd (z :: s) ∧ Kp X w w' := by
  refine (first_some h.at_).mono ?_
  rintro e w' ⟨rfl, hb⟩
  exact ⟨rfl, h.below hb, h.kp hb⟩
theorem cs_pop_none (h : Cs X w0 w g b wd []) : Calls Try.prog 16 #[.pointer (some ⟨g, 0, none⟩)] w fun e w' => e = .returned (.tuple #[zA, .int .i64 6]) ∧ Cs X w0 w' g b wd [] ∧ Kp X w w' := by
  refine (pop_none h.at_).mono ?_
  rintro e w' ⟨rfl, hb⟩
  exact ⟨rfl, h.below hb, h.kp hb⟩
theorem cs_pop_some {z : M} {s : List M} (h : Cs X w0 w g b wd (z :: s)) : Calls Try.prog 16 #[.pointer (some ⟨g, 0, none⟩)] w fun e w' => e = .returned (.tuple #[.agg (cM z).toArray, .int .i64 0]) ∧ Cs X w0 w' g b wd s ∧ Kp X w w' := by
  refine (pop_some h.at_ h.new).mono ?_
  rintro e w' ⟨rfl, ha, hO⟩
  exact ⟨rfl, h.step hO ha, h.kpo hO⟩
end
end Go.Proofs.Ytmgjnabenemghaa.CQ
