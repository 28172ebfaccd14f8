/- The calendar's take. No law is proved here. -/
import Derived.Test.YtmgjnabenemghaaCC
namespace Go.Proofs.Ytmgjnabenemghaa.CQ
open Go.Proofs Go.Shelf Go.RowKit Go.Deep Go.Sort Go.Maps Go.Proofs.Ytmgjnabenemghaa.SortPure Go.Proofs.Ytmgjnabenemghaa.Types Go.Proofs.Ytmgjnabenemghaa.Heap Go.Proofs.Ytmgjnabenemghaa.Row Go.Proofs.Ytmgjnabenemghaa.Ord Go.Proofs.Ytmgjnabenemghaa.Sorted Go.Proofs.YtmgjnabenemghaaW.PrintWords Go.Proofs.YtmgjnabenemghaaW.PrintLast Go.Proofs.YtmgjnabenemghaaW.PrintMore
set_option linter.unusedVariables false
set_option linter.unusedSimpArgs false
/-- The list without one of day d. -/
theorem cut_list {wd : Int} {sl : List M} (hs : Srt befM sl) (hu : Uq sl) {d : Int} {k : Nat} (hk : k < (row wd sl d).length) {z : M} (hz : (row wd sl d)[k] = z) :
    row wd (sl.filter (oth z.f0.f1 z.f3)) d = (row wd sl d).eraseIdx k ∧ (∀ d', d' ≠ d → row wd (sl.filter (oth z.f0.f1 z.f3)) d' = row wd sl d') ∧ (sl.filter (oth z.f0.f1 z.f3)).length + 1 = sl.length := by
  have hm : z ∈ row wd sl d := by rw [← hz]; exact List.getElem_mem hk
  obtain ⟨h1, h2⟩ := mem_row.1 hm
  refine ⟨?_, fun d' hd' => ?_, ?_⟩
  · rw [row_oth]
    exact (erase_filter (row_uq hu d) hk (by rw [hz]; exact ⟨rfl, rfl⟩)).symm
  · rw [row_oth]
    refine filter_oth_none (fun m hm q => hd' ?_)
    obtain ⟨q1, q2⟩ := mem_row.1 hm
    have e : z = m := hu.eq h1 q1 ⟨q.1, q.2⟩
    rw [← q2, ← e, h2]
  · obtain ⟨j, hj, e⟩ := List.getElem_of_mem h1
    rw [← erase_filter hu hj (by rw [e]; exact ⟨rfl, rfl⟩), List.length_eraseIdx, if_pos hj]
    omega
theorem CAt.cutd {w : World} {P : Nat → Prop} {g b : Nat} {wd : Int} {sl : List M} (h : CAt w P g b wd sl) {w' : World} {x y : Int} (hb : Blk w' g tC #[.int .i64 wd, .map (some b), .int .i64 ((sl.filter (oth x y)).length : Nat)]) (hd : Days w' P b wd (sl.filter (oth x y))) : CAt w' P g b wd (sl.filter (oth x y)) :=
  ⟨hb, hd, h.lt, h.wd1, h.wfw, fun m hm => h.tm m (List.mem_filter.1 hm).1, List.Pairwise.filter _ h.srt, List.Pairwise.filter _ h.uq, Nat.le_trans (List.length_filter_le _ _) h.len⟩
theorem only_set7 (w : World) (go : Nat) (z : M) : Only w (w.setCells go 0 (c25 z)) (fun b => b = go) := by
  unfold c25
  simp only [World.setCells]
  exact ((((((((Only.refl w (fun b => b = go)).setCell (p := ⟨go, 0, none⟩) (.inl rfl) (.int .i64 z.f0.f0)).setCell (p := ⟨go, 1, none⟩) (.inl rfl) (.int .i64 z.f0.f1)).setCell (p := ⟨go, 2, none⟩) (.inl rfl) (.int .i64 z.f0.f2)).setCell (p := ⟨go, 3, none⟩) (.inl rfl) (.int .i64 z.f1)).setCell (p := ⟨go, 4, none⟩) (.inl rfl) (.int .i64 z.f2)).setCell (p := ⟨go, 5, none⟩) (.inl rfl) (.int .i64 z.f3)).setCell (p := ⟨go, 6, none⟩) (.inl rfl) (.bool z.f4))
theorem set7 {w : World} {go : Nat} (z z' : M) (hO : Blk w go 25 (cM z).toArray) : Blk (w.setCells go 0 (c25 z')) go 25 (cM z').toArray := by
  unfold c25
  simp only [World.setCells, Nat.reduceAdd, Nat.zero_add]
  have hO' : Blk w go 25 #[.int .i64 z.f0.f0, .int .i64 z.f0.f1, .int .i64 z.f0.f2, .int .i64 z.f1, .int .i64 z.f2, .int .i64 z.f3, .bool z.f4] := hO
  have := ((((((hO'.set_ 0 (.int .i64 z'.f0.f0)).set_ 1 (.int .i64 z'.f0.f1)).set_ 2 (.int .i64 z'.f0.f2)).set_ 3 (.int .i64 z'.f1)).set_ 4 (.int .i64 z'.f2)).set_ 5 (.int .i64 z'.f3)).set_ 6 (.bool z'.f4)
  simp only [List.setIfInBounds_toArray, List.set_cons_zero, List.set_cons_succ] at this
  exact (show Blk _ go 25 #[.int .i64 z'.f0.f0, .int .i64 z'.f0.f1, .int .i64 z'.f0.f2, .int .i64 z'.f1, .int .i64 z'.f2, .int .i64 z'.f3, .bool z'.f4] from this)
set_option maxHeartbeats 8000000 in
set_option maxRecDepth 100000 in
theorem take_call {w : World} {P : Nat → Prop} {g b : Nat} {wd : Int} {sl : List M} (h : CAt w P g b wd sl) (hP : ∀ x, w.heap.size ≤ x → P x) {d : Int} (hd : wfI d) {k : Nat} (hk : k < (row wd sl d).length) {z : M} (hz : (row wd sl d)[k] = z) :
    Calls Try.prog 25 #[.pointer (some ⟨g, 0, none⟩), .int .i64 d, .int .i64 k] w fun e w' => e = .returned (.agg (cM z).toArray) ∧ CAt w' P g b wd (sl.filter (oth z.f0.f1 z.f3)) ∧ Only w w' (fun x => x = g ∨ x = b) := by
  obtain ⟨r1, r2, r3⟩ := cut_list h.srt h.uq hk hz
  obtain ⟨sl', hsl⟩ : ∃ sl', sl.filter (oth z.f0.f1 z.f3) = sl' := ⟨_, rfl⟩
  have HCUT : Hid (∀ w' : World, Blk w' g tC #[.int .i64 wd, .map (some b), .int .i64 (sl'.length : Nat)] → Days w' P b wd sl' → CAt w' P g b wd sl') := hide (by intro w' h1 h2; subst hsl; exact CAt.cutd h h1 h2)
  rw [hsl] at r1 r2 r3 ⊢
  have hb0 : Below w.heap.size w (w.alloc (.cells #[.int .i64 0, .int .i64 0, .int .i64 0, .int .i64 0, .int .i64 0, .int .i64 0, .bool false] 25)) := (Below.refl w.heap.size w).alloc (Nat.le_refl _) _
  have HO0 := hide (Blk.new w 25 #[.int .i64 0, .int .i64 0, .int .i64 0, .int .i64 0, .int .i64 0, .int .i64 0, .bool false])
  have HG0 := hide (h.blk.below' hb0)
  have HD0 := hide (Days.below (Days.old h.days) hb0)
  have HN0 := hide ((Only.refl w (fun x => x = g ∨ x = b)).alloc (.cells #[.int .i64 0, .int .i64 0, .int .i64 0, .int .i64 0, .int .i64 0, .int .i64 0, .bool false] 25))
  obtain ⟨W0, hW0⟩ : ∃ W0, w.alloc (.cells #[.int .i64 0, .int .i64 0, .int .i64 0, .int .i64 0, .int .i64 0, .int .i64 0, .bool false] 25) = W0 := ⟨_, rfl⟩
  rw [hW0] at HO0 HG0 HD0 HN0
  have hz0 : W0.heap.size = w.heap.size + 1 := by rw [← hW0]; exact World.size_alloc _ _
  obtain ⟨ro, hro⟩ : ∃ ro, w.heap.size = ro := ⟨_, rfl⟩
  rw [hro] at HO0 hP hz0 HD0
  obtain ⟨A, c, hlook, hcap, hC, hF⟩ := Days.look HD0.out hd
  have hlen := h.len
  have hll := row_le wd sl d
  obtain ⟨l, hl⟩ : ∃ l, row wd sl d = l := ⟨_, rfl⟩
  simp only [hl] at r1 hlook hcap hC hk hz hll
  obtain ⟨ad, rfl, q0, q1, q2, q3, q4, q5, q6⟩ := at_S25 hC hk
  rw [hz] at q0 q1 q2 q3 q4 q5 q6
  have hF := hF ad rfl
  have c10 : W0.cell? ⟨g, 1, none⟩ = some (.map (some b)) := HG0.out.cell 1
  have hb1 : Below W0.heap.size W0 (W0.alloc (.cells #[.int .i64 z.f0.f0, .int .i64 z.f0.f1, .int .i64 z.f0.f2, .int .i64 z.f1, .int .i64 z.f2, .int .i64 z.f3, .bool z.f4] 25)) := (Below.refl W0.heap.size W0).alloc (Nat.le_refl _) _
  have HM1 := hide (Blk.new W0 25 #[.int .i64 z.f0.f0, .int .i64 z.f0.f1, .int .i64 z.f0.f2, .int .i64 z.f1, .int .i64 z.f2, .int .i64 z.f3, .bool z.f4])
  have HO1 := hide (HO0.out.alloc (.cells #[.int .i64 z.f0.f0, .int .i64 z.f0.f1, .int .i64 z.f0.f2, .int .i64 z.f1, .int .i64 z.f2, .int .i64 z.f3, .bool z.f4] 25))
  have HG1 := hide (HG0.out.below' hb1)
  have HD1 := hide (Days.below HD0.out hb1)
  have HN1 := hide (HN0.out.alloc (.cells #[.int .i64 z.f0.f0, .int .i64 z.f0.f1, .int .i64 z.f0.f2, .int .i64 z.f1, .int .i64 z.f2, .int .i64 z.f3, .bool z.f4] 25))
  have HC1 := hide (C_below hC hb1)
  obtain ⟨W1, hW1⟩ : ∃ W1, W0.alloc (.cells #[.int .i64 z.f0.f0, .int .i64 z.f0.f1, .int .i64 z.f0.f2, .int .i64 z.f1, .int .i64 z.f2, .int .i64 z.f3, .bool z.f4] 25) = W1 := ⟨_, rfl⟩
  obtain ⟨gm, hgm⟩ : ∃ gm, W0.heap.size = gm := ⟨_, rfl⟩
  rw [hW1] at HM1 HO1 HG1 HD1 HN1 HC1
  rw [hgm] at HM1 hz0
  clear hb0 hb1 HO0 HG0 HD0 HN0
  have hlt := h.lt
  have c1 : W1.cell? ⟨g, 1, none⟩ = some (.map (some b)) := HG1.out.cell 1
  have c2 : W1.cell? ⟨g, 2, none⟩ = some (.int .i64 (sl.length : Nat)) := HG1.out.cell 2
  have fz : W1.frozen? ⟨g, 2, none⟩ = false := HG1.out.frozen 2
  have hpr : P ro := hP ro (Nat.le_refl _)
  have hpg : P gm := hP gm (by omega)
  have hgm2 : g ≠ gm := fun e => hlt.2.1 (e ▸ hpg)
  have hgo : g ≠ ro := fun e => hlt.2.1 (e ▸ hpr)
  have HM2 := hide (HM1.out.far (p := ⟨g, 2, none⟩) (fun e => hgm2 e.symm) (.int .i64 (sl'.length : Nat)))
  have HO2 := hide (HO1.out.far (p := ⟨g, 2, none⟩) (fun e => hgo e.symm) (.int .i64 (sl'.length : Nat)))
  have HG2 : Hid (Blk (W1.setCell ⟨g, 2, none⟩ (.int .i64 (sl'.length : Nat))) g tC #[.int .i64 wd, .map (some b), .int .i64 (sl'.length : Nat)]) := hide (HG1.out.set_ 2 (.int .i64 (sl'.length : Nat)))
  have hOs : Only W1 (W1.setCell ⟨g, 2, none⟩ (.int .i64 (sl'.length : Nat))) (fun x => x = g) := (Only.refl W1 (fun x => x = g)).setCell (p := ⟨g, 2, none⟩) (.inl rfl) _
  have HD2 := hide (Days.only HD1.out hOs (fun e => hlt.2.2 e) (fun x hx e => hlt.2.1 (e ▸ hx.1)))
  have HN2 := hide (HN1.out.setCell (p := ⟨g, 2, none⟩) (.inl (.inl rfl)) (.int .i64 (sl'.length : Nat)))
  have HC2 := hide (C_only HC1.out hOs (fun a ha _ e => by cases ha; exact hlt.2.1 (e ▸ hF.1)))
  obtain ⟨W2, hW2⟩ : ∃ W2, W1.setCell ⟨g, 2, none⟩ (.int .i64 (sl'.length : Nat)) = W2 := ⟨_, rfl⟩
  rw [hW2] at HM2 HO2 HG2 HD2 HN2 HC2
  clear hOs HM1 HO1 HG1 HD1 HN1 HC1
  have k1 : W2.cell? ⟨g, 1, none⟩ = some (.map (some b)) := HG2.out.cell 1
  have b1 : (k : Int) < (l.length : Int) := by omega
  have hl14 : (l.length : Int) ≤ 16384 := by omega
  have hwr : wrap64 ((sl.length : Int) - 1) = (sl'.length : Int) := by rw [IntWalk.wrap64_in _ (by omega)]; omega
  have hwr2 : IntKind.i64.wrap ((sl.length : Int) - 1) = (sl'.length : Int) := by rw [i64_w]; exact hwr
  have HF := hide hF
  have HLT := hide hlt
  have HPP := hide hP
  have HPG := hide (And.intro hpr hpg)
  have HR1 := hide r1
  have HR2 := hide r2
  have HK := hide hk
  have HCP := hide hcap
  have HDW := hide hd
  have HLL := hide hll
  have HLE := hide hlen
  have HGO := hide (And.intro hgo (And.intro hgm2 hz0))
  clear h hF hlt hP hpr hpg r1 r2 r3 hk hcap hd hll hlen hgo hgm2 hz0 hz hl hsl hC
  by_cases h1 : l.length = 1
  · have e1 : ((l.length : Int) == 1) = true := by rw [h1]; rfl
    have e2 : (l.length == 1) = true := by rw [h1]; rfl
    obtain ⟨W3, hdel, hd3, hO3⟩ := Days.delete HD2.out (fun q => HLT.out.1 q.1) HDW.out (sl' := sl') (by rw [HR1.out, List.eq_nil_iff_length_eq_zero, List.length_eraseIdx, if_pos HK.out]; omega) HR2.out 0
    have HD3 : Hid (Days W3 (fun x => P x ∧ x ≠ ro) b wd sl') := hide (Days.to hd3 (fun x hx => ⟨hx.1, Nat.ne_of_lt hx.2⟩))
    have HM3 := hide (HM2.out.only hO3 (fun e => HLT.out.1 (e ▸ HPG.out.2)))
    have HO3 := hide (HO2.out.only hO3 (fun e => HLT.out.1 (e ▸ HPG.out.1)))
    have HG3 := hide (HG2.out.only hO3 (fun e => HLT.out.2.2 e.symm))
    have HN3 := hide (HN2.out.step hO3 (fun x e _ => .inr e))
    clear hd3 hO3 HD2 HM2 HO2 HG2 HN2 HC2
    go_enter Try.func25, Try.ntmps25
    have m0 : W3.cell? ⟨gm, 0, none⟩ = some (.int .i64 z.f0.f0) := HM3.out.cell 0
    have m1 : W3.cell? ⟨gm, 1, none⟩ = some (.int .i64 z.f0.f1) := HM3.out.cell 1
    have m2 : W3.cell? ⟨gm, 2, none⟩ = some (.int .i64 z.f0.f2) := HM3.out.cell 2
    have m3 : W3.cell? ⟨gm, 3, none⟩ = some (.int .i64 z.f1) := HM3.out.cell 3
    have m4 : W3.cell? ⟨gm, 4, none⟩ = some (.int .i64 z.f2) := HM3.out.cell 4
    have m5 : W3.cell? ⟨gm, 5, none⟩ = some (.int .i64 z.f3) := HM3.out.cell 5
    have m6 : W3.cell? ⟨gm, 6, none⟩ = some (.bool z.f4) := HM3.out.cell 6
    have o0 : W3.cell? ⟨ro, 0, none⟩ = some (.int .i64 0) := HO3.out.cell 0
    have fo0 : W3.frozen? ⟨ro, 0, none⟩ = false := HO3.out.frozen 0
    have o1 : W3.cell? ⟨ro, 1, none⟩ = some (.int .i64 0) := HO3.out.cell 1
    have fo1 : W3.frozen? ⟨ro, 1, none⟩ = false := HO3.out.frozen 1
    have o2 : W3.cell? ⟨ro, 2, none⟩ = some (.int .i64 0) := HO3.out.cell 2
    have fo2 : W3.frozen? ⟨ro, 2, none⟩ = false := HO3.out.frozen 2
    have o3 : W3.cell? ⟨ro, 3, none⟩ = some (.int .i64 0) := HO3.out.cell 3
    have fo3 : W3.frozen? ⟨ro, 3, none⟩ = false := HO3.out.frozen 3
    have o4 : W3.cell? ⟨ro, 4, none⟩ = some (.int .i64 0) := HO3.out.cell 4
    have fo4 : W3.frozen? ⟨ro, 4, none⟩ = false := HO3.out.frozen 4
    have o5 : W3.cell? ⟨ro, 5, none⟩ = some (.int .i64 0) := HO3.out.cell 5
    have fo5 : W3.frozen? ⟨ro, 5, none⟩ = false := HO3.out.frozen 5
    have o6 : W3.cell? ⟨ro, 6, none⟩ = some (.bool false) := HO3.out.cell 6
    have fo6 : W3.frozen? ⟨ro, 6, none⟩ = false := HO3.out.frozen 6
    go_wp2_with fail
    have hch : (((((((W3.setCell ⟨ro, 0, none⟩ (.int .i64 z.f0.f0)).setCell ⟨ro, 1, none⟩ (.int .i64 z.f0.f1)).setCell ⟨ro, 2, none⟩ (.int .i64 z.f0.f2)).setCell ⟨ro, 3, none⟩ (.int .i64 z.f1)).setCell ⟨ro, 4, none⟩ (.int .i64 z.f2)).setCell ⟨ro, 5, none⟩ (.int .i64 z.f3)).setCell ⟨ro, 6, none⟩ (.bool z.f4)) = W3.setCells ro 0 (c25 z) := rfl
    rw [hch]
    have hO4 := only_set7 W3 ro z
    have hR4 := set7 default z HO3.out
    refine bodyPost_ret (v := .agg #[.int .i64 z.f0.f0, .int .i64 z.f0.f1, .int .i64 z.f0.f2, .int .i64 z.f1, .int .i64 z.f2, .int .i64 z.f3, .bool z.f4]) ?_ rfl ⟨rfl, HCUT.out _ (HG3.out.only hO4 (fun e => HGO.out.1 e)) (Days.to (Days.only HD3.out hO4 (fun e => HLT.out.1 (e ▸ HPG.out.1)) (fun x hx e => hx.2 e)) (fun x hx => hx.1)), HN3.out.step hO4 (fun x e hx => by subst e; rw [hro] at hx; omega)⟩
    exact results_cell_row rfl _ _ ro 25 _ (0, 0) _ rfl hR4 Try.underlying25 rfl (by kernel_rfl)
  · have e1 : ((l.length : Int) == 1) = false := by rw [beq_eq_false_iff_ne]; omega
    have e2 : (l.length == 1) = false := by rw [beq_eq_false_iff_ne]; exact h1
    obtain ⟨j1, hj1⟩ : ∃ j1, k + 1 = j1 := ⟨_, rfl⟩
    have hcap := HCP.out
    have d1 : (k : Int) ≤ (c : Int) := by have := HK.out; omega
    have d2 : (j1 : Int) ≤ (l.length : Int) := by have := HK.out; omega
    have d3 : (l.length : Int) ≤ (c : Int) := by omega
    have d5 : (k : Int) ≤ (l.length : Int) := by have := HK.out; omega
    have hj2 : j1 ≤ l.length := by have := HK.out; omega
    have T0 := C_drop (C_below HC2.out (below_drewN (Below.refl W2.heap.size W2) 1)) rfl (m := j1) hj2 hcap (c := c)
    have hjc : j1 ≠ l.length → c ≠ j1 := by omega
    have hjp : j1 ≠ l.length → 0 < l.length - j1 := by omega
    have HJ := hide (And.intro hj2 (And.intro hjc hjp))
    have HJ1 := hide hj1
    have hnm : k + (l.length - j1) = l.length - 1 := by omega
    have FADR : Hid (∀ a, some ad = some a → P a.block ∧ a.block ≠ ro) := hide (fun a e => by cases e; have h1 := HF.out; exact ⟨h1.1, Nat.ne_of_lt h1.2⟩)
    have HLK : Hid (j1 = l.length → (l.eraseIdx k).length = k) := hide (fun q => by rw [List.length_eraseIdx, if_pos HK.out]; have := HK.out; omega)
    have HNM2 : Hid (k + (l.length - j1) ≤ 1048576) := hide (by omega)
    have HE : Hid (l.take k ++ l.drop j1 = l.eraseIdx k) := hide (by rw [List.eraseIdx_eq_take_drop_succ, hj1])
    have HNE : Hid (l.eraseIdx k ≠ []) := hide (fun q => by
      have := congrArg List.length q
      rw [List.length_eraseIdx, if_pos HK.out] at this
      simp only [List.length_nil] at this
      have := HK.out
      omega)
    clear hj2 hjc hjp hj1 hnm
    have wr64 : wrap64 ((k : Int) + 1) = (j1 : Int) := by rw [IntWalk.wrap64_in _ (by omega)]; have := HJ1.out; omega
    have wr : IntKind.i64.wrap ((k : Int) + 1) = (j1 : Int) := by rw [i64_w]; exact wr64
    have hz2 : W2.heap.size = gm + 1 := by rw [← hW2, show (W1.setCell ⟨g, 2, none⟩ (.int .i64 (sl'.length : Nat))).heap.size = W1.heap.size from by simp [World.setCell], ← hW1, World.size_alloc, hgm]
    have HZ2 := hide hz2
    clear hz2
    have k1d : W2.drew.cell? ⟨g, 1, none⟩ = some (.map (some b)) := k1
    have S1 := hide (C_take (C_below HC2.out (below_drewN (Below.refl _ _) 1)) (m := k) (Nat.le_of_lt HK.out))
    have PUT : Hid (∀ (w4 : World) (A4 : Option Addr) (c4 : Nat), Kd.C kM w4 A4 (l.eraseIdx k).length (l.eraseIdx k) → (l.eraseIdx k).length ≤ c4 → (∀ a, A4 = some a → P a.block ∧ a.block ≠ ro) → Below W2.drew.heap.size W2.drew w4 → ∃ w5, (Instr.mapUpdate tMap (.map (some b)) (.int .i64 d) (.slice A4 (l.eraseIdx k).length c4)).run Try.prog w4 = .ok () w5 ∧ w4.cell? ⟨g, 1, none⟩ = some (.map (some b)) ∧ w5.cell? ⟨g, 1, none⟩ = some (.map (some b)) ∧ Hid (Days w5 (fun x => P x ∧ x ≠ ro) b wd sl' ∧ Blk w5 gm 25 #[.int .i64 z.f0.f0, .int .i64 z.f0.f1, .int .i64 z.f0.f2, .int .i64 z.f1, .int .i64 z.f2, .int .i64 z.f3, .bool z.f4] ∧ Blk w5 ro 25 #[.int .i64 0, .int .i64 0, .int .i64 0, .int .i64 0, .int .i64 0, .int .i64 0, .bool false] ∧ Blk w5 g tC #[.int .i64 wd, .map (some b), .int .i64 (sl'.length : Nat)] ∧ Only w w5 (fun x => x = g ∨ x = b))) := hide (fun w4 A4 c4 hC4 hc4 hA4 hb4 => by
      have h1 := HGO.out
      have h2 := HLT.out
      have h5 := HZ2.out
      have hsz : W2.drew.heap.size = gm + 1 := HZ2.out
      have hb5 : Below W2.heap.size W2 w4 := below_step (below_drewN (Below.refl W2.heap.size W2) 1) hb4
      obtain ⟨w5, hup, hd5, hO5⟩ := Days.update (P := (fun x => P x ∧ x ≠ ro)) (Days.to (Days.below HD2.out hb5) (fun x hx => ⟨hx.1, Nat.ne_of_lt hx.2⟩)) (fun q => HLT.out.1 q.1) HLE.out HDW.out hC4 hc4 hA4 HNE.out HR1.out HR2.out
      refine ⟨w5, hup, (HG2.out.below' hb5).cell 1, ((HG2.out.below' hb5).only hO5 (fun e => h2.2.2 e.symm)).cell 1, hide ⟨hd5, (HM2.out.below' hb5).only hO5 (fun e => HLT.out.1 (e ▸ HPG.out.2)), (HO2.out.below' hb5).only hO5 (fun e => HLT.out.1 (e ▸ HPG.out.1)), (HG2.out.below' hb5).only hO5 (fun e => h2.2.2 e.symm), ?_⟩⟩
      exact (HN2.out.step (only_of_below hb5 (fun _ => False)) (fun x e _ => e.elim)).step hO5 (fun x e _ => .inr e))
    have FAR : Hid (∀ A4 : Option Addr, (∀ a, A4 = some a → W2.drew.heap.size ≤ a.block) → ∀ a, A4 = some a → P a.block ∧ a.block ≠ ro) := hide (by
      intro A4 h a e
      have h1 := h a e
      have h2 := HGO.out
      have hsz : W2.drew.heap.size = gm + 1 := HZ2.out
      exact ⟨HPP.out _ (by omega), by omega⟩)
    clear HD2 HM2 HO2 HG2 HN2
    by_cases hjl : j1 = l.length
    · have hlk : (l.eraseIdx k).length = k := HLK.out hjl
      have het : l.take k = l.eraseIdx k := by rw [← HE.out, hjl, List.drop_length, List.append_nil]
      have HT : Hid (Kd.C kM W2.drew (some ad) (l.eraseIdx k).length (l.eraseIdx k)) := hide (by rw [hlk, ← het]; exact S1.out)
      obtain ⟨w5, hup, k4, k5, H5⟩ := PUT.out W2.drew (some ad) k HT.out (by rw [hlk]; exact Nat.le_refl _) FADR.out (Below.refl _ _)
      rw [hlk] at hup
      have hz0 : l.length - j1 = 0 := by rw [hjl]; exact Nat.sub_self _
      have hi0 : (l.length : Int) - (j1 : Int) = 0 := by rw [hjl]; exact Int.sub_self _
      clear hlk het HT PUT FAR T0
      by_cases hcj : c = j1
      · go_enter Try.func25, Try.ntmps25
        go_wp2_with fail
        obtain ⟨i0, hi0', hz0', hz1', hz2'⟩ := info_parts infoM
        go_region_held3 (fun w' => w'.cell? ⟨g, 1, none⟩ = some (.map (some b))) (first | exact (by assumption) | go_keep) (first
          | (refine step_append_zero rfl (.tmp 42) (.tmp 46) 26 rfl 25 i0 Try.underlying26 hi0' (some ad) k k rfl (fun e => by cases e) (Nat.le_refl _) _ _ rfl ?_))
        all_goals (
          obtain ⟨hd5, HM3', HO3', HG3', HN3'⟩ := H5.out
          have HD3 := hide hd5
          have HM3 := hide HM3'
          have HO3 := hide HO3'
          have HG3 := hide HG3'
          have HN3 := hide HN3'
          clear hd5 HM3' HO3' HG3' HN3' H5 k4 k5 hup S1 wr wr64 hwr hwr2
          have m0 : w5.cell? ⟨gm, 0, none⟩ = some (.int .i64 z.f0.f0) := HM3.out.cell 0
          have m1 : w5.cell? ⟨gm, 1, none⟩ = some (.int .i64 z.f0.f1) := HM3.out.cell 1
          have m2 : w5.cell? ⟨gm, 2, none⟩ = some (.int .i64 z.f0.f2) := HM3.out.cell 2
          have m3 : w5.cell? ⟨gm, 3, none⟩ = some (.int .i64 z.f1) := HM3.out.cell 3
          have m4 : w5.cell? ⟨gm, 4, none⟩ = some (.int .i64 z.f2) := HM3.out.cell 4
          have m5 : w5.cell? ⟨gm, 5, none⟩ = some (.int .i64 z.f3) := HM3.out.cell 5
          have m6 : w5.cell? ⟨gm, 6, none⟩ = some (.bool z.f4) := HM3.out.cell 6
          have o0 : w5.cell? ⟨ro, 0, none⟩ = some (.int .i64 0) := HO3.out.cell 0
          have fo0 : w5.frozen? ⟨ro, 0, none⟩ = false := HO3.out.frozen 0
          have o1 : w5.cell? ⟨ro, 1, none⟩ = some (.int .i64 0) := HO3.out.cell 1
          have fo1 : w5.frozen? ⟨ro, 1, none⟩ = false := HO3.out.frozen 1
          have o2 : w5.cell? ⟨ro, 2, none⟩ = some (.int .i64 0) := HO3.out.cell 2
          have fo2 : w5.frozen? ⟨ro, 2, none⟩ = false := HO3.out.frozen 2
          have o3 : w5.cell? ⟨ro, 3, none⟩ = some (.int .i64 0) := HO3.out.cell 3
          have fo3 : w5.frozen? ⟨ro, 3, none⟩ = false := HO3.out.frozen 3
          have o4 : w5.cell? ⟨ro, 4, none⟩ = some (.int .i64 0) := HO3.out.cell 4
          have fo4 : w5.frozen? ⟨ro, 4, none⟩ = false := HO3.out.frozen 4
          have o5 : w5.cell? ⟨ro, 5, none⟩ = some (.int .i64 0) := HO3.out.cell 5
          have fo5 : w5.frozen? ⟨ro, 5, none⟩ = false := HO3.out.frozen 5
          have o6 : w5.cell? ⟨ro, 6, none⟩ = some (.bool false) := HO3.out.cell 6
          have fo6 : w5.frozen? ⟨ro, 6, none⟩ = false := HO3.out.frozen 6
          go_wp2_with fail
          have hch : (((((((w5.setCell ⟨ro, 0, none⟩ (.int .i64 z.f0.f0)).setCell ⟨ro, 1, none⟩ (.int .i64 z.f0.f1)).setCell ⟨ro, 2, none⟩ (.int .i64 z.f0.f2)).setCell ⟨ro, 3, none⟩ (.int .i64 z.f1)).setCell ⟨ro, 4, none⟩ (.int .i64 z.f2)).setCell ⟨ro, 5, none⟩ (.int .i64 z.f3)).setCell ⟨ro, 6, none⟩ (.bool z.f4)) = w5.setCells ro 0 (c25 z) := rfl
          rw [hch]
          have hO4 := only_set7 w5 ro z
          have hR4 := set7 default z HO3.out
          refine bodyPost_ret (v := .agg #[.int .i64 z.f0.f0, .int .i64 z.f0.f1, .int .i64 z.f0.f2, .int .i64 z.f1, .int .i64 z.f2, .int .i64 z.f3, .bool z.f4]) ?_ rfl ⟨rfl, HCUT.out _ (HG3.out.only hO4 (fun e => HGO.out.1 e)) (Days.to (Days.only HD3.out hO4 (fun e => HLT.out.1 (e ▸ HPG.out.1)) (fun x hx e => hx.2 e)) (fun x hx => hx.1)), HN3.out.step hO4 (fun x e hx => by subst e; rw [hro] at hx; omega)⟩
          exact results_cell_row rfl _ _ ro 25 _ (0, 0) _ rfl hR4 Try.underlying25 rfl (by kernel_rfl))
      · go_enter Try.func25, Try.ntmps25
        go_wp2_with fail
        obtain ⟨i0, hi0', hz0', hz1', hz2'⟩ := info_parts infoM
        go_region_held3 (fun w' => w'.cell? ⟨g, 1, none⟩ = some (.map (some b))) (first | exact (by assumption) | go_keep) (first
          | (refine step_append_zero rfl (.tmp 42) (.tmp 46) 26 rfl 25 i0 Try.underlying26 hi0' (some ad) k k rfl (fun e => by cases e) (Nat.le_refl _) _ _ rfl ?_))
        all_goals (
          obtain ⟨hd5, HM3', HO3', HG3', HN3'⟩ := H5.out
          have HD3 := hide hd5
          have HM3 := hide HM3'
          have HO3 := hide HO3'
          have HG3 := hide HG3'
          have HN3 := hide HN3'
          clear hd5 HM3' HO3' HG3' HN3' H5 k4 k5 hup S1 wr wr64 hwr hwr2
          have m0 : w5.cell? ⟨gm, 0, none⟩ = some (.int .i64 z.f0.f0) := HM3.out.cell 0
          have m1 : w5.cell? ⟨gm, 1, none⟩ = some (.int .i64 z.f0.f1) := HM3.out.cell 1
          have m2 : w5.cell? ⟨gm, 2, none⟩ = some (.int .i64 z.f0.f2) := HM3.out.cell 2
          have m3 : w5.cell? ⟨gm, 3, none⟩ = some (.int .i64 z.f1) := HM3.out.cell 3
          have m4 : w5.cell? ⟨gm, 4, none⟩ = some (.int .i64 z.f2) := HM3.out.cell 4
          have m5 : w5.cell? ⟨gm, 5, none⟩ = some (.int .i64 z.f3) := HM3.out.cell 5
          have m6 : w5.cell? ⟨gm, 6, none⟩ = some (.bool z.f4) := HM3.out.cell 6
          have o0 : w5.cell? ⟨ro, 0, none⟩ = some (.int .i64 0) := HO3.out.cell 0
          have fo0 : w5.frozen? ⟨ro, 0, none⟩ = false := HO3.out.frozen 0
          have o1 : w5.cell? ⟨ro, 1, none⟩ = some (.int .i64 0) := HO3.out.cell 1
          have fo1 : w5.frozen? ⟨ro, 1, none⟩ = false := HO3.out.frozen 1
          have o2 : w5.cell? ⟨ro, 2, none⟩ = some (.int .i64 0) := HO3.out.cell 2
          have fo2 : w5.frozen? ⟨ro, 2, none⟩ = false := HO3.out.frozen 2
          have o3 : w5.cell? ⟨ro, 3, none⟩ = some (.int .i64 0) := HO3.out.cell 3
          have fo3 : w5.frozen? ⟨ro, 3, none⟩ = false := HO3.out.frozen 3
          have o4 : w5.cell? ⟨ro, 4, none⟩ = some (.int .i64 0) := HO3.out.cell 4
          have fo4 : w5.frozen? ⟨ro, 4, none⟩ = false := HO3.out.frozen 4
          have o5 : w5.cell? ⟨ro, 5, none⟩ = some (.int .i64 0) := HO3.out.cell 5
          have fo5 : w5.frozen? ⟨ro, 5, none⟩ = false := HO3.out.frozen 5
          have o6 : w5.cell? ⟨ro, 6, none⟩ = some (.bool false) := HO3.out.cell 6
          have fo6 : w5.frozen? ⟨ro, 6, none⟩ = false := HO3.out.frozen 6
          go_wp2_with fail
          have hch : (((((((w5.setCell ⟨ro, 0, none⟩ (.int .i64 z.f0.f0)).setCell ⟨ro, 1, none⟩ (.int .i64 z.f0.f1)).setCell ⟨ro, 2, none⟩ (.int .i64 z.f0.f2)).setCell ⟨ro, 3, none⟩ (.int .i64 z.f1)).setCell ⟨ro, 4, none⟩ (.int .i64 z.f2)).setCell ⟨ro, 5, none⟩ (.int .i64 z.f3)).setCell ⟨ro, 6, none⟩ (.bool z.f4)) = w5.setCells ro 0 (c25 z) := rfl
          rw [hch]
          have hO4 := only_set7 w5 ro z
          have hR4 := set7 default z HO3.out
          refine bodyPost_ret (v := .agg #[.int .i64 z.f0.f0, .int .i64 z.f0.f1, .int .i64 z.f0.f2, .int .i64 z.f1, .int .i64 z.f2, .int .i64 z.f3, .bool z.f4]) ?_ rfl ⟨rfl, HCUT.out _ (HG3.out.only hO4 (fun e => HGO.out.1 e)) (Days.to (Days.only HD3.out hO4 (fun e => HLT.out.1 (e ▸ HPG.out.1)) (fun x hx e => hx.2 e)) (fun x hx => hx.1)), HN3.out.step hO4 (fun x e hx => by subst e; rw [hro] at hx; omega)⟩
          exact results_cell_row rfl _ _ ro 25 _ (0, 0) _ rfl hR4 Try.underlying25 rfl (by kernel_rfl))
    · have hne : c ≠ j1 := HJ.out.2.1 hjl
      rw [if_neg hne] at T0
      have T2 := hide T0
      clear T0
      go_enter Try.func25, Try.ntmps25
      go_wp2_with fail
      go_region_held3 (fun w' => w'.cell? ⟨g, 1, none⟩ = some (.map (some b))) (first | exact (by assumption) | go_keep) (first
        | (refine step_append_cut flatM rfl k25_open k25_mk rfl (.tmp 42) (.tmp 46) 26 rfl zM 56 Try.underlying26 infoM rfl (some ad) k (l.take k) rfl S1.out (ad.add (j1 * 7)) (l.length - j1) _ (l.drop j1) rfl T2.out (HJ.out.2.2 hjl) HNM2.out (by decide) (fun e => by cases e) (l.eraseIdx k) HE.out ?_; intro A4 c4 w4 hC4 hc4 hA4 hb4; obtain ⟨w5, hup, k4, k5, H5⟩ := (PUT.out w4 A4 c4 hC4 hc4 (FAR.out A4 hA4) hb4); clear hC4 hc4 hA4 hb4))
      all_goals (
        obtain ⟨hd5, HM3', HO3', HG3', HN3'⟩ := H5.out
        have HD3 := hide hd5
        have HM3 := hide HM3'
        have HO3 := hide HO3'
        have HG3 := hide HG3'
        have HN3 := hide HN3'
        clear hd5 HM3' HO3' HG3' HN3' H5 k4 k5 hup S1 T2 PUT FAR wr wr64 hwr hwr2
        have m0 : w5.cell? ⟨gm, 0, none⟩ = some (.int .i64 z.f0.f0) := HM3.out.cell 0
        have m1 : w5.cell? ⟨gm, 1, none⟩ = some (.int .i64 z.f0.f1) := HM3.out.cell 1
        have m2 : w5.cell? ⟨gm, 2, none⟩ = some (.int .i64 z.f0.f2) := HM3.out.cell 2
        have m3 : w5.cell? ⟨gm, 3, none⟩ = some (.int .i64 z.f1) := HM3.out.cell 3
        have m4 : w5.cell? ⟨gm, 4, none⟩ = some (.int .i64 z.f2) := HM3.out.cell 4
        have m5 : w5.cell? ⟨gm, 5, none⟩ = some (.int .i64 z.f3) := HM3.out.cell 5
        have m6 : w5.cell? ⟨gm, 6, none⟩ = some (.bool z.f4) := HM3.out.cell 6
        have o0 : w5.cell? ⟨ro, 0, none⟩ = some (.int .i64 0) := HO3.out.cell 0
        have fo0 : w5.frozen? ⟨ro, 0, none⟩ = false := HO3.out.frozen 0
        have o1 : w5.cell? ⟨ro, 1, none⟩ = some (.int .i64 0) := HO3.out.cell 1
        have fo1 : w5.frozen? ⟨ro, 1, none⟩ = false := HO3.out.frozen 1
        have o2 : w5.cell? ⟨ro, 2, none⟩ = some (.int .i64 0) := HO3.out.cell 2
        have fo2 : w5.frozen? ⟨ro, 2, none⟩ = false := HO3.out.frozen 2
        have o3 : w5.cell? ⟨ro, 3, none⟩ = some (.int .i64 0) := HO3.out.cell 3
        have fo3 : w5.frozen? ⟨ro, 3, none⟩ = false := HO3.out.frozen 3
        have o4 : w5.cell? ⟨ro, 4, none⟩ = some (.int .i64 0) := HO3.out.cell 4
        have fo4 : w5.frozen? ⟨ro, 4, none⟩ = false := HO3.out.frozen 4
        have o5 : w5.cell? ⟨ro, 5, none⟩ = some (.int .i64 0) := HO3.out.cell 5
        have fo5 : w5.frozen? ⟨ro, 5, none⟩ = false := HO3.out.frozen 5
        have o6 : w5.cell? ⟨ro, 6, none⟩ = some (.bool false) := HO3.out.cell 6
        have fo6 : w5.frozen? ⟨ro, 6, none⟩ = false := HO3.out.frozen 6
        go_wp2_with fail
        have hch : (((((((w5.setCell ⟨ro, 0, none⟩ (.int .i64 z.f0.f0)).setCell ⟨ro, 1, none⟩ (.int .i64 z.f0.f1)).setCell ⟨ro, 2, none⟩ (.int .i64 z.f0.f2)).setCell ⟨ro, 3, none⟩ (.int .i64 z.f1)).setCell ⟨ro, 4, none⟩ (.int .i64 z.f2)).setCell ⟨ro, 5, none⟩ (.int .i64 z.f3)).setCell ⟨ro, 6, none⟩ (.bool z.f4)) = w5.setCells ro 0 (c25 z) := rfl
        rw [hch]
        have hO4 := only_set7 w5 ro z
        have hR4 := set7 default z HO3.out
        refine bodyPost_ret (v := .agg #[.int .i64 z.f0.f0, .int .i64 z.f0.f1, .int .i64 z.f0.f2, .int .i64 z.f1, .int .i64 z.f2, .int .i64 z.f3, .bool z.f4]) ?_ rfl ⟨rfl, HCUT.out _ (HG3.out.only hO4 (fun e => HGO.out.1 e)) (Days.to (Days.only HD3.out hO4 (fun e => HLT.out.1 (e ▸ HPG.out.1)) (fun x hx e => hx.2 e)) (fun x hx => hx.1)), HN3.out.step hO4 (fun x e hx => by subst e; rw [hro] at hx; omega)⟩
        exact results_cell_row rfl _ _ ro 25 _ (0, 0) _ rfl hR4 Try.underlying25 rfl (by kernel_rfl))
end Go.Proofs.Ytmgjnabenemghaa.CQ
