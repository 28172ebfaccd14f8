/- The heap stays a heap; Pop. No law is proved here. -/
import Derived.Test.YtipgigbnfdgfmaaHE
namespace Go.Proofs.Ytipgigbnfdgfmaa.HQ
open Go.Proofs Go.Shelf Go.RowKit Go.Deep Go.Sort Go.Proofs.Ytipgigbnfdgfmaa.SortPure Go.Proofs.Ytipgigbnfdgfmaa.Types Go.Proofs.Ytipgigbnfdgfmaa.Heap Go.Proofs.Ytipgigbnfdgfmaa.Row Go.Proofs.Ytipgigbnfdgfmaa.Ord Go.Proofs.Ytipgigbnfdgfmaa.Sorted Go.Proofs.Ytipgigbnfdgfmaa.HU Go.Proofs.YtipgigbnfdgfmaaW.PrintWords Go.Proofs.YtipgigbnfdgfmaaW.PrintLast Go.Proofs.YtipgigbnfdgfmaaW.PrintMore
set_option linter.unusedVariables false
set_option linter.unusedSimpArgs false
def Hq (l : List M) : Prop := Hp befM l.toArray
theorem hq_nil : Hq [] := fun k hk hs => by simp at hs
theorem get_app_l {l : List M} {m : M} {k : Nat} (hk : k < l.length) : (l ++ [m]).toArray[k]! = l.toArray[k]! := by
  rw [getElem!_pos (l ++ [m]).toArray k (by simp; omega), getElem!_pos l.toArray k (by simpa using hk)]
  simp [List.getElem_append_left hk]
theorem hq_push {l : List M} (h : Hq l) (m : M) : Hq (pushL l m) := by
  unfold Hq pushL
  rw [Array.toArray_toList]
  refine up_heap weakM l.length _ (by simp) (fun k hk hks hne => ?_) (fun k hk hks he => ?_)
  · have hkl : k < l.length := by simp at hks; omega
    rw [get_app_l hkl, get_app_l (by omega)]
    exact h k hk (by simpa using hkl)
  · simp at hks; omega
theorem get_set_take {l : List M} {i n : Nat} {y : M} (hn : n < l.length) {k : Nat} (hk : k < n) : ((l.set i y).take n).toArray[k]! = if k = i then y else l.toArray[k]! := by
  have h1 : k < ((l.set i y).take n).toArray.size := by simp; omega
  rw [getElem!_pos _ k h1]
  simp only [List.getElem_toArray, List.getElem_take, List.getElem_set]
  by_cases e : k = i
  · rw [if_pos e.symm, if_pos e]
  · rw [if_neg (fun q => e q.symm), if_neg e, getElem!_pos l.toArray k (by simp; omega)]
    simp
theorem hq_cut {l : List M} (h : Hq l) (i : Nat) (hi : i < l.length) : Hq (cutL l i) := by
  obtain ⟨n, hn⟩ : ∃ n, l.length - 1 = n := ⟨_, rfl⟩
  have hnl : n < l.length := by omega
  unfold Hq cutL
  rw [hn]
  have hsz : ((l.set i (l[n]?.getD default)).take n).toArray.size = n := by simp; omega
  have hg := fun k (hk : k < n) => get_set_take (l := l) (i := i) (y := l[n]?.getD default) hnl hk
  obtain ⟨d, hd⟩ : ∃ d, ((l.set i (l[n]?.getD default)).take n).toArray = d := ⟨_, rfl⟩
  have hd2 : ((l.set i (l[n]?.getD default)).take n) = d.toList := by rw [← hd]
  rw [hd] at hsz hg
  have hh : ∀ k, 0 < k → k < n → befM l.toArray[k]! l.toArray[(k - 1) / 2]! = false := fun k hk hks => h k hk (by simp; omega)
  split
  · rename_i hin
    rw [Array.toArray_toList, hd]
    obtain ⟨q1, q2⟩ := down_heap weakM i (d.size - i) i d rfl (by omega) (Nat.le_refl _) (fun k hk hks hki hkp => by
      rw [hg k (by omega), hg ((k - 1) / 2) (by omega), if_neg hki, if_neg hkp]
      exact hh k hk (by omega)) (fun e => absurd rfl e) (fun hi0 k hk hks hkp => by
      rw [hg k (by omega), hg ((i - 1) / 2) (by omega), if_neg (by omega), if_neg (by omega)]
      have a := hh k hk (by omega)
      rw [hkp] at a
      exact weakM.tr _ _ _ a (hh i hi0 (by omega))) (fun e => absurd rfl e)
    have hs2 : (downA befM d i).size = n := by rw [size_downA befM _ _ _ rfl, hsz]
    refine up_heap weakM i _ (by omega) (fun k hk hks hki => q1 k hk hks hki) (fun k hk hks hkp hi0 => q2 hi0 k hk hks hkp)
  · rename_i hin
    rw [hd]
    intro k hk hks
    rw [hg k (by omega), hg ((k - 1) / 2) (by omega), if_neg (by omega), if_neg (by omega)]
    exact hh k hk (by omega)
theorem hq_first {l : List M} (h : Hq l) (hl : 0 < l.length) : ∀ x ∈ l, befM x l[0] = false := by
  intro x hx
  obtain ⟨k, hk, rfl⟩ := List.getElem_of_mem hx
  have := heap_first weakM h k (by simpa using hk)
  rw [getElem!_pos l.toArray k (by simpa using hk), getElem!_pos l.toArray 0 (by simpa using hl)] at this
  simpa using this
/-- Alike in the order: of one number. -/
theorem alike_uid {x y : M} (h1 : befM x y = false) (h2 : befM y x = false) : x.f0 = y.f0 ∧ x.f3 = y.f3 := by
  have a : ¬ befM x y = true := by rw [h1]; simp
  have b : ¬ befM y x = true := by rw [h2]; simp
  rw [befM_iff] at a b
  obtain ⟨⟨x0, x1, x2⟩, x3, x4, x5, x6⟩ := x
  obtain ⟨⟨y0, y1, y2⟩, y3, y4, y5, y6⟩ := y
  simp only at a b
  have e0 : x0 = y0 := by omega
  have e1 : x1 = y1 := by omega
  have e2 : x2 = y2 := by omega
  have e3 : x5 = y5 := by omega
  exact ⟨by rw [e0, e1, e2], e3⟩
set_option maxHeartbeats 4000000 in
set_option maxRecDepth 100000 in
theorem pop_some (w : World) (base g : Nat) (A : Option Addr) (c : Nat) (z : M) (l : List M) (h : QAt w base g (.slice A (z :: l).length c) (z :: l)) (hl : (z :: l).length ≤ 16384) :
    Calls Try.prog 13 #[.pointer (some ⟨g, 0, none⟩)] w fun e w' => e = .returned (.tuple #[.agg #[.int .i64 z.f0.f0, .int .i64 z.f0.f1, .int .i64 z.f0.f2, .int .i64 z.f1, .int .i64 z.f2, .int .i64 z.f3, .bool z.f4], .int .i64 0]) ∧ QAt w' base g (.slice A (cutL (z :: l) 0).length c) (cutL (z :: l) 0) ∧ Only w w' (fun b => b = g ∨ (Value.slice A (z :: l).length c).ownBlock = some b) := by
  have HB := hide ((Below.refl w.heap.size w).alloc (Nat.le_refl _) (.cells #[.int .i64 0, .int .i64 0, .int .i64 0, .int .i64 0, .int .i64 0, .int .i64 0, .bool false] 25))
  have HQ1 := hide (h.alloc (.cells #[.int .i64 0, .int .i64 0, .int .i64 0, .int .i64 0, .int .i64 0, .int .i64 0, .bool false] 25))
  have HR := hide (Blk.new w 25 #[.int .i64 0, .int .i64 0, .int .i64 0, .int .i64 0, .int .i64 0, .int .i64 0, .bool false])
  have HGR : Hid (w.heap.size ≠ g ∧ (Value.slice A (z :: l).length c).ownBlock ≠ some w.heap.size) := hide ⟨by have := h.blk.lt; omega, fun e => by have := (h.own.blk _ e).2; omega⟩
  have HF := hide (first_some _ base g A c z l HQ1.out hl)
  have HL := hide hl
  clear h hl
  go_enter Try.func13, Try.ntmps13
  go_wp2_with fail
  refine HF.out.mono ?_
  rintro e w2 ⟨rfl, hb⟩
  have HB2 := hide (below_step HB.out hb)
  have HQ2 := hide (HQ1.out.below hb)
  have HR2 := hide (HR.out.below' hb)
  clear HF HB HQ1 HR hb
  rename_i K1 h1 K2 h2
  have HK := hide h1
  clear h1
  go_wp2_with fail
  have HB3 := hide (HB2.out.alloc HB2.out.size (.cells #[.int .i64 z.f0.f0, .int .i64 z.f0.f1, .int .i64 z.f0.f2, .int .i64 z.f1, .int .i64 z.f2, .int .i64 z.f3, .bool z.f4] 25))
  have HQ3 := hide (HQ2.out.alloc (.cells #[.int .i64 z.f0.f0, .int .i64 z.f0.f1, .int .i64 z.f0.f2, .int .i64 z.f1, .int .i64 z.f2, .int .i64 z.f3, .bool z.f4] 25))
  have HR3 := hide (HR2.out.alloc (.cells #[.int .i64 z.f0.f0, .int .i64 z.f0.f1, .int .i64 z.f0.f2, .int .i64 z.f1, .int .i64 z.f2, .int .i64 z.f3, .bool z.f4] 25))
  have HX3 := hide (Blk.new w2 25 #[.int .i64 z.f0.f0, .int .i64 z.f0.f1, .int .i64 z.f0.f2, .int .i64 z.f1, .int .i64 z.f2, .int .i64 z.f3, .bool z.f4])
  have HGX : Hid (w2.heap.size ≠ g ∧ (Value.slice A (z :: l).length c).ownBlock ≠ some w2.heap.size ∧ w2.heap.size ≠ w.heap.size) := hide ⟨by have := HQ2.out.blk.lt; omega, fun e => by have := (HQ2.out.own.blk _ e).2; omega, by have := HR2.out.lt; omega⟩
  generalize (w2.alloc (.cells #[.int .i64 z.f0.f0, .int .i64 z.f0.f1, .int .i64 z.f0.f2, .int .i64 z.f1, .int .i64 z.f2, .int .i64 z.f3, .bool z.f4] 25)) = w3 at HB3 HQ3 HR3 HX3 ⊢
  generalize w2.heap.size = gx at HX3 HGX ⊢
  refine HK.out _ _ ?_
  clear HK K1 HB2 HQ2 HR2
  have HCut := hide (cut_call w3 base g A c (z :: l) 0 HQ3.out (by simp) HL.out)
  rw [show (z :: l)[0]?.getD default = z from rfl] at HCut
  unfold cM c25 at HCut
  have HO3 : Hid (Only w w3 (fun b => b = g ∨ (Value.slice A (z :: l).length c).ownBlock = some b)) := hide (only_of_below HB3.out _)
  go_wp2_with fail
  refine HCut.out.mono ?_
  rintro e w4 ⟨rfl, hq, ho⟩
  have HQ4 := hide hq
  have HR4 := hide (HR3.out.only ho (fun e => by rcases e with e | e; exact HGR.out.1 e; exact HGR.out.2 e))
  have HX4 := hide (HX3.out.only ho (fun e => by rcases e with e | e; exact HGX.out.1 e; exact HGX.out.2.1 e))
  have HO4 := hide (HO3.out.trans ho)
  clear hq ho HCut HQ3 HR3 HX3 HB3 HO3
  have r0 : w4.cell? ⟨w.heap.size, 0, none⟩ = some (.int .i64 0) := HR4.out.cell 0
  have v0 : w4.frozen? ⟨w.heap.size, 0, none⟩ = false := HR4.out.frozen 0
  have r1 : w4.cell? ⟨w.heap.size, 1, none⟩ = some (.int .i64 0) := HR4.out.cell 1
  have v1 : w4.frozen? ⟨w.heap.size, 1, none⟩ = false := HR4.out.frozen 1
  have r2 : w4.cell? ⟨w.heap.size, 2, none⟩ = some (.int .i64 0) := HR4.out.cell 2
  have v2 : w4.frozen? ⟨w.heap.size, 2, none⟩ = false := HR4.out.frozen 2
  have r3 : w4.cell? ⟨w.heap.size, 3, none⟩ = some (.int .i64 0) := HR4.out.cell 3
  have v3 : w4.frozen? ⟨w.heap.size, 3, none⟩ = false := HR4.out.frozen 3
  have r4 : w4.cell? ⟨w.heap.size, 4, none⟩ = some (.int .i64 0) := HR4.out.cell 4
  have v4 : w4.frozen? ⟨w.heap.size, 4, none⟩ = false := HR4.out.frozen 4
  have r5 : w4.cell? ⟨w.heap.size, 5, none⟩ = some (.int .i64 0) := HR4.out.cell 5
  have v5 : w4.frozen? ⟨w.heap.size, 5, none⟩ = false := HR4.out.frozen 5
  have r6 : w4.cell? ⟨w.heap.size, 6, none⟩ = some (.bool false) := HR4.out.cell 6
  have v6 : w4.frozen? ⟨w.heap.size, 6, none⟩ = false := HR4.out.frozen 6
  have x0 : w4.cell? ⟨gx, 0, none⟩ = some (.int .i64 z.f0.f0) := HX4.out.cell 0
  have x1 : w4.cell? ⟨gx, 1, none⟩ = some (.int .i64 z.f0.f1) := HX4.out.cell 1
  have x2 : w4.cell? ⟨gx, 2, none⟩ = some (.int .i64 z.f0.f2) := HX4.out.cell 2
  have x3 : w4.cell? ⟨gx, 3, none⟩ = some (.int .i64 z.f1) := HX4.out.cell 3
  have x4 : w4.cell? ⟨gx, 4, none⟩ = some (.int .i64 z.f2) := HX4.out.cell 4
  have x5 : w4.cell? ⟨gx, 5, none⟩ = some (.int .i64 z.f3) := HX4.out.cell 5
  have x6 : w4.cell? ⟨gx, 6, none⟩ = some (.bool z.f4) := HX4.out.cell 6
  go_wp2_with fail
  have hch : (((((((w4.setCell ⟨w.heap.size, 0, none⟩ (.int .i64 z.f0.f0)).setCell ⟨w.heap.size, 1, none⟩ (.int .i64 z.f0.f1)).setCell ⟨w.heap.size, 2, none⟩ (.int .i64 z.f0.f2)).setCell ⟨w.heap.size, 3, none⟩ (.int .i64 z.f1)).setCell ⟨w.heap.size, 4, none⟩ (.int .i64 z.f2)).setCell ⟨w.heap.size, 5, none⟩ (.int .i64 z.f3)).setCell ⟨w.heap.size, 6, none⟩ (.bool z.f4)) = w4.setCells w.heap.size 0 (c25 z) := rfl
  rw [hch]
  obtain ⟨e1, e2, e3⟩ := fin7 z HQ4.out HR4.out HO4.out (fun e => HGR.out.1 e.symm) (by have := HGR.out.2; cases A <;> exact this) (Nat.le_refl _)
  refine bodyPost_ret (v := .tuple #[.agg #[.int .i64 z.f0.f0, .int .i64 z.f0.f1, .int .i64 z.f0.f2, .int .i64 z.f1, .int .i64 z.f2, .int .i64 z.f3, .bool z.f4], .int .i64 0]) ?_ rfl ⟨rfl, e1, e3⟩
  refine results_list (rs := [.cell 2 25, .tmp 3]) rfl (by simp) ?_
  exact Vals.cell w.heap.size 25 _ (0, 0) _ rfl e2 Try.underlying25 rfl (by kernel_rfl) (Vals.tmp Vals.nil)
set_option maxHeartbeats 4000000 in
set_option maxRecDepth 100000 in
theorem pop_none (w : World) (base g : Nat) (A : Option Addr) (c : Nat) (h : QAt w base g (.slice A 0 c) []) :
    Calls Try.prog 13 #[.pointer (some ⟨g, 0, none⟩)] w fun e w' => e = .returned (.tuple #[zA, .int .i64 6]) ∧ Below w.heap.size w w' := by
  unfold zA
  have HB := hide ((Below.refl w.heap.size w).alloc (Nat.le_refl _) (.cells #[.int .i64 0, .int .i64 0, .int .i64 0, .int .i64 0, .int .i64 0, .int .i64 0, .bool false] 25))
  have HQ1 := hide (h.alloc (.cells #[.int .i64 0, .int .i64 0, .int .i64 0, .int .i64 0, .int .i64 0, .int .i64 0, .bool false] 25))
  have HR := hide (Blk.new w 25 #[.int .i64 0, .int .i64 0, .int .i64 0, .int .i64 0, .int .i64 0, .int .i64 0, .bool false])
  have HF := hide (first_none _ base g A c HQ1.out)
  clear h
  unfold zA at HF
  go_enter Try.func13, Try.ntmps13
  go_wp2_with fail
  refine HF.out.mono ?_
  rintro e w2 ⟨rfl, hb⟩
  have HB2 := hide (below_step HB.out hb)
  have HR2 := hide (HR.out.below' hb)
  clear HF HB HQ1 HR hb
  rename_i K1 h1 K2 h2
  have HK := hide h1
  clear h1
  go_wp2_with fail
  have HB3 := hide (HB2.out.alloc HB2.out.size (.cells #[.int .i64 0, .int .i64 0, .int .i64 0, .int .i64 0, .int .i64 0, .int .i64 0, .bool false] 25))
  have HR3 := hide (HR2.out.alloc (.cells #[.int .i64 0, .int .i64 0, .int .i64 0, .int .i64 0, .int .i64 0, .int .i64 0, .bool false] 25))
  have HX3 := hide (Blk.new w2 25 #[.int .i64 0, .int .i64 0, .int .i64 0, .int .i64 0, .int .i64 0, .int .i64 0, .bool false])
  generalize (w2.alloc (.cells #[.int .i64 0, .int .i64 0, .int .i64 0, .int .i64 0, .int .i64 0, .int .i64 0, .bool false] 25)) = w3 at HB3 HR3 HX3 ⊢
  generalize w2.heap.size = gx at HX3 ⊢
  refine HK.out _ _ ?_
  clear HK K1 HB2 HR2
  have r0 : w3.cell? ⟨w.heap.size, 0, none⟩ = some (.int .i64 0) := HR3.out.cell 0
  have v0 : w3.frozen? ⟨w.heap.size, 0, none⟩ = false := HR3.out.frozen 0
  have r1 : w3.cell? ⟨w.heap.size, 1, none⟩ = some (.int .i64 0) := HR3.out.cell 1
  have v1 : w3.frozen? ⟨w.heap.size, 1, none⟩ = false := HR3.out.frozen 1
  have r2 : w3.cell? ⟨w.heap.size, 2, none⟩ = some (.int .i64 0) := HR3.out.cell 2
  have v2 : w3.frozen? ⟨w.heap.size, 2, none⟩ = false := HR3.out.frozen 2
  have r3 : w3.cell? ⟨w.heap.size, 3, none⟩ = some (.int .i64 0) := HR3.out.cell 3
  have v3 : w3.frozen? ⟨w.heap.size, 3, none⟩ = false := HR3.out.frozen 3
  have r4 : w3.cell? ⟨w.heap.size, 4, none⟩ = some (.int .i64 0) := HR3.out.cell 4
  have v4 : w3.frozen? ⟨w.heap.size, 4, none⟩ = false := HR3.out.frozen 4
  have r5 : w3.cell? ⟨w.heap.size, 5, none⟩ = some (.int .i64 0) := HR3.out.cell 5
  have v5 : w3.frozen? ⟨w.heap.size, 5, none⟩ = false := HR3.out.frozen 5
  have r6 : w3.cell? ⟨w.heap.size, 6, none⟩ = some (.bool false) := HR3.out.cell 6
  have v6 : w3.frozen? ⟨w.heap.size, 6, none⟩ = false := HR3.out.frozen 6
  have x0 : w3.cell? ⟨gx, 0, none⟩ = some (.int .i64 0) := HX3.out.cell 0
  have x1 : w3.cell? ⟨gx, 1, none⟩ = some (.int .i64 0) := HX3.out.cell 1
  have x2 : w3.cell? ⟨gx, 2, none⟩ = some (.int .i64 0) := HX3.out.cell 2
  have x3 : w3.cell? ⟨gx, 3, none⟩ = some (.int .i64 0) := HX3.out.cell 3
  have x4 : w3.cell? ⟨gx, 4, none⟩ = some (.int .i64 0) := HX3.out.cell 4
  have x5 : w3.cell? ⟨gx, 5, none⟩ = some (.int .i64 0) := HX3.out.cell 5
  have x6 : w3.cell? ⟨gx, 6, none⟩ = some (.bool false) := HX3.out.cell 6
  go_wp2_with fail
  have hch : (((((((w3.setCell ⟨w.heap.size, 0, none⟩ (.int .i64 0)).setCell ⟨w.heap.size, 1, none⟩ (.int .i64 0)).setCell ⟨w.heap.size, 2, none⟩ (.int .i64 0)).setCell ⟨w.heap.size, 3, none⟩ (.int .i64 0)).setCell ⟨w.heap.size, 4, none⟩ (.int .i64 0)).setCell ⟨w.heap.size, 5, none⟩ (.int .i64 0)).setCell ⟨w.heap.size, 6, none⟩ (.bool false)) = w3.setCells w.heap.size 0 (c25 default) := rfl
  rw [hch]
  obtain ⟨e1, e2⟩ := ans7 default HR3.out HB3.out (Nat.le_refl _)
  refine bodyPost_ret (v := .tuple #[.agg #[.int .i64 0, .int .i64 0, .int .i64 0, .int .i64 0, .int .i64 0, .int .i64 0, .bool false], .int .i64 6]) ?_ rfl ⟨rfl, e2⟩
  refine results_list (rs := [.cell 2 25, .tmp 3]) rfl (by simp) ?_
  exact Vals.cell w.heap.size 25 _ (0, 0) _ rfl e1 Try.underlying25 rfl (by kernel_rfl) (Vals.tmp Vals.nil)
section
variable {F g : Nat} {w0 w w' : World} {l : List M}
theorem qs_pop_none (h : Qs F w0 w g []) : Calls Try.prog 13 #[.pointer (some ⟨g, 0, none⟩)] w fun e w' => e = .returned (.tuple #[zA, .int .i64 6]) ∧ Qs F w0 w' g [] ∧ Below w.heap.size w w' := by
  obtain ⟨A, c, q⟩ := h.at_
  refine (pop_none w F g A c q).mono ?_
  rintro e w' ⟨rfl, hb⟩
  exact ⟨rfl, h.below hb, hb⟩
theorem qs_pop_some (z : M) (h : Qs F w0 w g (z :: l)) (hl : (z :: l).length ≤ 16384) : Calls Try.prog 13 #[.pointer (some ⟨g, 0, none⟩)] w fun e w' => e = .returned (.tuple #[.agg (cM z).toArray, .int .i64 0]) ∧ Qs F w0 w' g (cutL (z :: l) 0) ∧ Only w w' (fun b => b = g ∨ F ≤ b) := by
  obtain ⟨A, c, q⟩ := h.at_
  refine (pop_some w F g A c z l q hl).mono ?_
  rintro e w' ⟨rfl, hq, ho⟩
  exact ⟨rfl, qs_of h (fun b hb => (q.own.blk b hb).1) hq ho⟩
theorem qs_first_none (h : Qs F w0 w g []) : Calls Try.prog 16 #[.pointer (some ⟨g, 0, none⟩)] w fun e w' => e = .returned (.tuple #[zA, .int .i64 6]) ∧ Qs F w0 w' g [] ∧ Below w.heap.size w w' := by
  obtain ⟨A, c, q⟩ := h.at_
  refine (first_none w F g A c q).mono ?_
  rintro e w' ⟨rfl, hb⟩
  exact ⟨rfl, h.below hb, hb⟩
theorem qs_first_some (z : M) (h : Qs F w0 w g (z :: l)) (hl : (z :: l).length ≤ 16384) : Calls Try.prog 16 #[.pointer (some ⟨g, 0, none⟩)] w fun e w' => e = .returned (.tuple #[.agg (cM z).toArray, .int .i64 0]) ∧ Qs F w0 w' g (z :: l) ∧ Below w.heap.size w w' := by
  obtain ⟨A, c, q⟩ := h.at_
  refine (first_some w F g A c z l q hl).mono ?_
  rintro e w' ⟨rfl, hb⟩
  exact ⟨rfl, h.below hb, hb⟩
/-- All: a new row, in order. -/
theorem qs_all (h : Qs F w0 w g l) (hl : l.length ≤ 16384) : Calls Try.prog 15 #[.pointer (some ⟨g, 0, none⟩)] w (Made w (SortPure.isort befM l)) := by
  obtain ⟨A, c, q⟩ := h.at_
  obtain ⟨A2, c2, hv2, hc, hC, _⟩ := q.own.reads flatM rfl k25_mk
  cases hv2
  have HN := hide (none_call g _ w q.blk)
  have c0 := q.c0
  have HS := hide (sorted_call A c l hc (by omega) w hC)
  clear hC h
  go_enter Try.func15, Try.ntmps15
  go_wp2_with (first
    | (go_at_call 21; refine HN.out.mono ?_; rintro e w' ⟨rfl, rfl⟩)
    | (go_at_call 12; refine HS.out.mono ?_; rintro e w2 ⟨v, rfl, ho, hb⟩))
  go_ret
  exact ⟨v, rfl, ho, hb⟩
end
end Go.Proofs.Ytipgigbnfdgfmaa.HQ
