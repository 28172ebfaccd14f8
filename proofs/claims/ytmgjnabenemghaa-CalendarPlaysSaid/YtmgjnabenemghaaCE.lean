/- The calendar's Cut. No law is proved here. -/
import Derived.Test.YtmgjnabenemghaaCD
namespace Go.Proofs.Ytmgjnabenemghaa.CQ
open Go.Proofs Go.Shelf Go.RowKit Go.Deep Go.Sort Go.Maps Go.Proofs.Ytmgjnabenemghaa.SortPure Go.Proofs.Ytmgjnabenemghaa.Types Go.Proofs.Ytmgjnabenemghaa.Heap Go.Proofs.Ytmgjnabenemghaa.Row Go.Proofs.Ytmgjnabenemghaa.Ord Go.Proofs.Ytmgjnabenemghaa.Sorted Go.Proofs.YtmgjnabenemghaaW.PrintWords Go.Proofs.YtmgjnabenemghaaW.PrintLast Go.Proofs.YtmgjnabenemghaaW.PrintMore
set_option linter.unusedVariables false
set_option linter.unusedSimpArgs false
def zA : Value := .agg #[.int .i64 0, .int .i64 0, .int .i64 0, .int .i64 0, .int .i64 0, .int .i64 0, .bool false]
theorem zA_eq : zA = .agg (cM (default : M)).toArray := rfl
/-- The caller's own new block is no row's. -/
theorem CAt.apart {w w' : World} {P : Nat → Prop} {g b : Nat} {wd : Int} {sl : List M} (h : CAt w P g b wd sl) (hb : Below w.heap.size w w') : CAt w' (fun x => P x ∧ ¬ (w.heap.size ≤ x ∧ x < w'.heap.size)) g b wd sl := by
  have h' := h.below hb
  exact ⟨h'.blk, Days.to (Days.below (Days.old h.days) hb) (fun x hx => ⟨hx.1, by omega⟩), ⟨fun q => h.lt.1 q.1, fun q => h.lt.2.1 q.1, h.lt.2.2⟩, h.wd1, h.wfw, h.tm, h.srt, h.uq, h.len⟩
theorem CAt.to {w : World} {P P' : Nat → Prop} {g b : Nat} {wd : Int} {sl : List M} (h : CAt w P g b wd sl) (hP : ∀ x, P x → P' x) (hb : ¬ P' b) (hg : ¬ P' g) : CAt w P' g b wd sl :=
  ⟨h.blk, Days.to h.days hP, ⟨hb, hg, h.lt.2.2⟩, h.wd1, h.wfw, h.tm, h.srt, h.uq, h.len⟩
theorem ans7 {w w1 : World} (z : M) {cs : M} (hR : Blk w1 w.heap.size 25 (cM cs).toArray) (hb : Below w.heap.size w w1) : Blk (w1.setCells w.heap.size 0 (c25 z)) w.heap.size 25 (cM z).toArray ∧ Below w.heap.size w (w1.setCells w.heap.size 0 (c25 z)) :=
  ⟨set7 cs z hR, hb.trans ((only_set7 w1 w.heap.size z).below hb.size (fun i e => Nat.le_of_eq e.symm))⟩
set_option maxHeartbeats 8000000 in
set_option maxRecDepth 100000 in
theorem cut_none {w : World} {P : Nat → Prop} {g b : Nat} {wd : Int} {sl : List M} (h : CAt w P g b wd sl) (x y : Int) (hn : ∀ m ∈ sl, ¬ isOf x y m) :
    Calls Try.prog 12 #[.pointer (some ⟨g, 0, none⟩), .int .i64 x, .int .i64 y] w fun e w' => e = .returned (.tuple #[zA, .int .i64 6]) ∧ Below w.heap.size w w' := by
  unfold zA
  have HB := hide ((Below.refl w.heap.size w).alloc (Nat.le_refl _) (.cells #[.int .i64 0, .int .i64 0, .int .i64 0, .int .i64 0, .int .i64 0, .int .i64 0, .bool false] 25))
  have HR := hide (Blk.new w 25 #[.int .i64 0, .int .i64 0, .int .i64 0, .int .i64 0, .int .i64 0, .int .i64 0, .bool false])
  have h1 := h.below HB.out
  have HN := hide (none_call h1.c1)
  have HF := hide ((find_call x y h1).mono (R' := fun e w' => e = .returned (.tuple #[.int .i64 0, .int .i64 0, .bool false]) ∧ Below (w.alloc (.cells #[.int .i64 0, .int .i64 0, .int .i64 0, .int .i64 0, .int .i64 0, .int .i64 0, .bool false] 25)).heap.size (w.alloc (.cells #[.int .i64 0, .int .i64 0, .int .i64 0, .int .i64 0, .int .i64 0, .int .i64 0, .bool false] 25)) w') (fun e w' hh => ⟨by
    rcases hh.1 with ⟨e, _⟩ | ⟨d, k, hk, _, _, q⟩
    · exact e
    · exact absurd q (hn _ (mem_row.1 (List.getElem_mem hk)).1), hh.2⟩))
  clear h h1 hn
  go_enter Try.func12, Try.ntmps12
  go_wp2_with (first
    | (go_at_call 20; refine HN.out.mono ?_; rintro e w1 ⟨rfl, rfl⟩))
  refine HF.out.mono ?_
  rintro e w2 ⟨rfl, hb⟩
  have HB2 := hide (below_step HB.out hb)
  have HR2 := hide (HR.out.below' hb)
  clear hb HB HF HR HN
  have r0 : w2.cell? ⟨w.heap.size, 0, none⟩ = some (.int .i64 0) := HR2.out.cell 0
  have v0 : w2.frozen? ⟨w.heap.size, 0, none⟩ = false := HR2.out.frozen 0
  have r1 : w2.cell? ⟨w.heap.size, 1, none⟩ = some (.int .i64 0) := HR2.out.cell 1
  have v1 : w2.frozen? ⟨w.heap.size, 1, none⟩ = false := HR2.out.frozen 1
  have r2 : w2.cell? ⟨w.heap.size, 2, none⟩ = some (.int .i64 0) := HR2.out.cell 2
  have v2 : w2.frozen? ⟨w.heap.size, 2, none⟩ = false := HR2.out.frozen 2
  have r3 : w2.cell? ⟨w.heap.size, 3, none⟩ = some (.int .i64 0) := HR2.out.cell 3
  have v3 : w2.frozen? ⟨w.heap.size, 3, none⟩ = false := HR2.out.frozen 3
  have r4 : w2.cell? ⟨w.heap.size, 4, none⟩ = some (.int .i64 0) := HR2.out.cell 4
  have v4 : w2.frozen? ⟨w.heap.size, 4, none⟩ = false := HR2.out.frozen 4
  have r5 : w2.cell? ⟨w.heap.size, 5, none⟩ = some (.int .i64 0) := HR2.out.cell 5
  have v5 : w2.frozen? ⟨w.heap.size, 5, none⟩ = false := HR2.out.frozen 5
  have r6 : w2.cell? ⟨w.heap.size, 6, none⟩ = some (.bool false) := HR2.out.cell 6
  have v6 : w2.frozen? ⟨w.heap.size, 6, none⟩ = false := HR2.out.frozen 6
  go_wp2_with fail
  have hch : (((((((w2.setCell ⟨w.heap.size, 0, none⟩ (.int .i64 0)).setCell ⟨w.heap.size, 1, none⟩ (.int .i64 0)).setCell ⟨w.heap.size, 2, none⟩ (.int .i64 0)).setCell ⟨w.heap.size, 3, none⟩ (.int .i64 0)).setCell ⟨w.heap.size, 4, none⟩ (.int .i64 0)).setCell ⟨w.heap.size, 5, none⟩ (.int .i64 0)).setCell ⟨w.heap.size, 6, none⟩ (.bool false)) = w2.setCells w.heap.size 0 (c25 default) := rfl
  rw [hch]
  obtain ⟨e1, e2⟩ := ans7 (cs := default) default HR2.out HB2.out
  refine bodyPost_ret (v := .tuple #[.agg #[.int .i64 0, .int .i64 0, .int .i64 0, .int .i64 0, .int .i64 0, .int .i64 0, .bool false], .int .i64 6]) ?_ rfl ⟨rfl, e2⟩
  refine results_list (rs := [.cell 6 25, .tmp 7]) rfl (by simp) ?_
  exact Vals.cell w.heap.size 25 _ (0, 0) _ rfl e1 Try.underlying25 rfl (by kernel_rfl) (Vals.tmp Vals.nil)
set_option maxHeartbeats 8000000 in
set_option maxRecDepth 100000 in
theorem cut_some {w : World} {P : Nat → Prop} {g b : Nat} {wd : Int} {sl : List M} (h : CAt w P g b wd sl) (hP : ∀ x, w.heap.size ≤ x → P x) {z : M} (hz : z ∈ sl) :
    Calls Try.prog 12 #[.pointer (some ⟨g, 0, none⟩), .int .i64 z.f0.f1, .int .i64 z.f3] w fun e w' => e = .returned (.tuple #[.agg (cM z).toArray, .int .i64 0]) ∧ CAt w' P g b wd (sl.filter (oth z.f0.f1 z.f3)) ∧ Only w w' (fun x => x = g ∨ x = b) := by
  have HB := hide ((Below.refl w.heap.size w).alloc (Nat.le_refl _) (.cells #[.int .i64 0, .int .i64 0, .int .i64 0, .int .i64 0, .int .i64 0, .int .i64 0, .bool false] 25))
  have HR := hide (Blk.new w 25 #[.int .i64 0, .int .i64 0, .int .i64 0, .int .i64 0, .int .i64 0, .int .i64 0, .bool false])
  have h1 := h.apart HB.out
  have HN := hide (none_call h1.c1)
  have HUQ := hide h.uq
  have HZM := hide hz
  have HF := hide ((find_call z.f0.f1 z.f3 h1).mono (R' := fun e w' => (∃ d : Int, ∃ k : Nat, ∃ hk : k < (row wd sl d).length, wfI d ∧ e = .returned (.tuple #[.int .i64 d, .int .i64 k, .bool true]) ∧ (row wd sl d)[k] = z) ∧ Below (w.alloc (.cells #[.int .i64 0, .int .i64 0, .int .i64 0, .int .i64 0, .int .i64 0, .int .i64 0, .bool false] 25)).heap.size (w.alloc (.cells #[.int .i64 0, .int .i64 0, .int .i64 0, .int .i64 0, .int .i64 0, .int .i64 0, .bool false] 25)) w') (fun e w' hh => ⟨by
    rcases hh.1 with ⟨_, q⟩ | ⟨d, k, hk, hd, e, q⟩
    · exact absurd ⟨rfl, rfl⟩ (q z HZM.out)
    · exact ⟨d, k, hk, hd, e, (HUQ.out.eq (mem_row.1 (List.getElem_mem hk)).1 HZM.out ⟨q.1.symm, q.2.symm⟩)⟩, hh.2⟩))
  have HLT := hide h.lt
  have HP := hide hP
  have HA := hide h1
  have HSZ : Hid ((w.alloc (.cells #[.int .i64 0, .int .i64 0, .int .i64 0, .int .i64 0, .int .i64 0, .int .i64 0, .bool false] 25)).heap.size = w.heap.size + 1) := hide (World.size_alloc _ _)
  have HON := hide ((Only.refl w (fun x => x = g ∨ x = b)).alloc (.cells #[.int .i64 0, .int .i64 0, .int .i64 0, .int .i64 0, .int .i64 0, .int .i64 0, .bool false] 25))
  clear h h1 hz hP
  obtain ⟨W0, hW0⟩ : ∃ W0, w.alloc (.cells #[.int .i64 0, .int .i64 0, .int .i64 0, .int .i64 0, .int .i64 0, .int .i64 0, .bool false] 25) = W0 := ⟨_, rfl⟩
  obtain ⟨ro, hro⟩ : ∃ ro, w.heap.size = ro := ⟨_, rfl⟩
  rw [hW0] at HB HR HN HF HA HSZ HON
  rw [hro] at HR HA HP HSZ
  go_enter Try.func12, Try.ntmps12
  go_wp2_with (first
    | (go_at_call 20; refine HN.out.mono ?_; rintro e w1 ⟨rfl, rfl⟩))
  refine HF.out.mono ?_
  rintro e w2 ⟨⟨d, k, hk, hd, rfl, hq⟩, hb⟩
  have HT := hide (take_call (P := fun x => P x ∧ x ≠ ro) ((HA.out.below hb).to (fun x hx => ⟨hx.1, by have := hx.2; have := HSZ.out; omega⟩) (fun q => HLT.out.1 q.1) (fun q => HLT.out.2.1 q.1)) (fun x hx => ⟨HP.out x (by have := hb.size; have := HSZ.out; omega), by have := hb.size; have := HSZ.out; omega⟩) hd hk hq)
  have HR2 := hide (HR.out.below' hb)
  have HON2 := hide (HON.out.step (only_of_below hb (fun _ => False)) (fun x e _ => e.elim))
  have HPG : Hid (P ro) := hide (HP.out ro (Nat.le_refl _))
  clear hb HB HF HR HN HA hk hd hq HON
  unfold cM c25 at HT
  go_wp2_with fail
  refine HT.out.mono ?_
  rintro e w3 ⟨rfl, hc, hO⟩
  have HC3 := hide hc
  have HR3 := hide (HR2.out.only hO (fun e => by rcases e with e | e; exact HLT.out.2.1 (e ▸ HPG.out); exact HLT.out.1 (e ▸ HPG.out)))
  have HON3 := hide (HON2.out.step hO (fun x e _ => e))
  clear hc hO HT HR2 HON2
  have r0 : w3.cell? ⟨ro, 0, none⟩ = some (.int .i64 0) := HR3.out.cell 0
  have v0 : w3.frozen? ⟨ro, 0, none⟩ = false := HR3.out.frozen 0
  have r1 : w3.cell? ⟨ro, 1, none⟩ = some (.int .i64 0) := HR3.out.cell 1
  have v1 : w3.frozen? ⟨ro, 1, none⟩ = false := HR3.out.frozen 1
  have r2 : w3.cell? ⟨ro, 2, none⟩ = some (.int .i64 0) := HR3.out.cell 2
  have v2 : w3.frozen? ⟨ro, 2, none⟩ = false := HR3.out.frozen 2
  have r3 : w3.cell? ⟨ro, 3, none⟩ = some (.int .i64 0) := HR3.out.cell 3
  have v3 : w3.frozen? ⟨ro, 3, none⟩ = false := HR3.out.frozen 3
  have r4 : w3.cell? ⟨ro, 4, none⟩ = some (.int .i64 0) := HR3.out.cell 4
  have v4 : w3.frozen? ⟨ro, 4, none⟩ = false := HR3.out.frozen 4
  have r5 : w3.cell? ⟨ro, 5, none⟩ = some (.int .i64 0) := HR3.out.cell 5
  have v5 : w3.frozen? ⟨ro, 5, none⟩ = false := HR3.out.frozen 5
  have r6 : w3.cell? ⟨ro, 6, none⟩ = some (.bool false) := HR3.out.cell 6
  have v6 : w3.frozen? ⟨ro, 6, none⟩ = false := HR3.out.frozen 6
  go_wp2_with fail
  have hch : (((((((w3.setCell ⟨ro, 0, none⟩ (.int .i64 z.f0.f0)).setCell ⟨ro, 1, none⟩ (.int .i64 z.f0.f1)).setCell ⟨ro, 2, none⟩ (.int .i64 z.f0.f2)).setCell ⟨ro, 3, none⟩ (.int .i64 z.f1)).setCell ⟨ro, 4, none⟩ (.int .i64 z.f2)).setCell ⟨ro, 5, none⟩ (.int .i64 z.f3)).setCell ⟨ro, 6, none⟩ (.bool z.f4)) = w3.setCells ro 0 (c25 z) := rfl
  rw [hch]
  have hO4 := only_set7 w3 ro z
  have hR4 := set7 default z HR3.out
  refine bodyPost_ret (v := .tuple #[.agg #[.int .i64 z.f0.f0, .int .i64 z.f0.f1, .int .i64 z.f0.f2, .int .i64 z.f1, .int .i64 z.f2, .int .i64 z.f3, .bool z.f4], .int .i64 0]) ?_ rfl ⟨rfl, (HC3.out.only hO4 (fun e => HLT.out.2.1 (e ▸ HPG.out)) (fun e => HLT.out.1 (e ▸ HPG.out)) (fun x hx e => hx.2 e)).to (fun x hx => hx.1) HLT.out.1 HLT.out.2.1, HON3.out.step hO4 (fun x e hx => by subst e; rw [hro] at hx; omega)⟩
  refine results_list (rs := [.cell 6 25, .tmp 7]) rfl (by simp) ?_
  exact Vals.cell ro 25 _ (0, 0) _ rfl hR4 Try.underlying25 rfl (by kernel_rfl) (Vals.tmp Vals.nil)
end Go.Proofs.Ytmgjnabenemghaa.CQ
