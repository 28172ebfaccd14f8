/- The reference's Cut. No law is proved here. -/
import Derived.Test.YtkhdghlgkljdgaaLT
namespace Go.Proofs.Ytkhdghlgkljdgaa.LQ
open Go.Proofs Go.Proofs.Ytkhdghlgkljdgaa.CQ Go.Shelf Go.RowKit Go.Deep Go.Sort Go.Proofs.Ytkhdghlgkljdgaa.SortPure Go.Proofs.Ytkhdghlgkljdgaa.Types Go.Proofs.Ytkhdghlgkljdgaa.Heap Go.Proofs.Ytkhdghlgkljdgaa.Row Go.Proofs.Ytkhdghlgkljdgaa.Ord Go.Proofs.Ytkhdghlgkljdgaa.Sorted Go.Proofs.YtkhdghlgkljdgaaW.PrintWords Go.Proofs.YtkhdghlgkljdgaaW.PrintLast Go.Proofs.YtkhdghlgkljdgaaW.PrintMore
set_option linter.unusedVariables false
set_option linter.unusedSimpArgs false
set_option maxHeartbeats 4000000 in
set_option maxRecDepth 100000 in
theorem rcut_none (w : World) (F r : Nat) (A : Option Addr) (c : Nat) (sl : List M) (x y : Int) (h : RAt w F r A c sl) (hl : sl.length ≤ 16384) (hn : ∀ m ∈ sl, ¬ isOf x y m) :
    Calls Try.prog 33 #[.pointer (some ⟨r, 0, none⟩), .int .i64 x, .int .i64 y] w fun e w' => e = .returned (.tuple #[zA, .int .i64 6]) ∧ Below w.heap.size w w' := by
  unfold zA
  have HB := hide ((Below.refl w.heap.size w).alloc (Nat.le_refl _) (.cells #[.int .i64 0, .int .i64 0, .int .i64 0, .int .i64 0, .int .i64 0, .int .i64 0, .bool false] 25))
  have HR := hide (Blk.new w 25 #[.int .i64 0, .int .i64 0, .int .i64 0, .int .i64 0, .int .i64 0, .int .i64 0, .bool false])
  have HF := hide ((rfind_call _ F r A c sl x y (h.below HB.out) hl).mono (R' := fun e w' => e = .returned (.int .i64 (-1)) ∧ Below (w.alloc (.cells #[.int .i64 0, .int .i64 0, .int .i64 0, .int .i64 0, .int .i64 0, .int .i64 0, .bool false] 25)).heap.size (w.alloc (.cells #[.int .i64 0, .int .i64 0, .int .i64 0, .int .i64 0, .int .i64 0, .int .i64 0, .bool false] 25)) w') (fun e w' hh => ⟨by
    rcases hh.1 with ⟨e, _⟩ | ⟨k, hk, _, q⟩
    · exact e
    · exact absurd q (hn _ (List.getElem_mem hk)), hh.2⟩))
  clear h hn hl
  go_enter Try.func33, Try.ntmps33
  go_wp2_with fail
  refine HF.out.mono ?_
  rintro e w2 ⟨rfl, hb⟩
  have HB2 := hide (below_step HB.out hb)
  have HR2 := hide (HR.out.below' hb)
  clear hb HB HF HR
  have r0 : w2.cell? ⟨w.heap.size, 0, none⟩ = some (.int .i64 0) := HR2.out.cell 0
  have v0 : w2.frozen? ⟨w.heap.size, 0, none⟩ = false := HR2.out.frozen 0
  have r1 : w2.cell? ⟨w.heap.size, 1, none⟩ = some (.int .i64 0) := HR2.out.cell 1
  have v1 : w2.frozen? ⟨w.heap.size, 1, none⟩ = false := HR2.out.frozen 1
  have r2 : w2.cell? ⟨w.heap.size, 2, none⟩ = some (.int .i64 0) := HR2.out.cell 2
  have v2 : w2.frozen? ⟨w.heap.size, 2, none⟩ = false := HR2.out.frozen 2
  have r3 : w2.cell? ⟨w.heap.size, 3, none⟩ = some (.int .i64 0) := HR2.out.cell 3
  have v3 : w2.frozen? ⟨w.heap.size, 3, none⟩ = false := HR2.out.frozen 3
  have r4 : w2.cell? ⟨w.heap.size, 4, none⟩ = some (.int .i64 0) := HR2.out.cell 4
  have v4 : w2.frozen? ⟨w.heap.size, 4, none⟩ = false := HR2.out.frozen 4
  have r5 : w2.cell? ⟨w.heap.size, 5, none⟩ = some (.int .i64 0) := HR2.out.cell 5
  have v5 : w2.frozen? ⟨w.heap.size, 5, none⟩ = false := HR2.out.frozen 5
  have r6 : w2.cell? ⟨w.heap.size, 6, none⟩ = some (.bool false) := HR2.out.cell 6
  have v6 : w2.frozen? ⟨w.heap.size, 6, none⟩ = false := HR2.out.frozen 6
  go_wp2_with fail
  have hch : (((((((w2.setCell ⟨w.heap.size, 0, none⟩ (.int .i64 0)).setCell ⟨w.heap.size, 1, none⟩ (.int .i64 0)).setCell ⟨w.heap.size, 2, none⟩ (.int .i64 0)).setCell ⟨w.heap.size, 3, none⟩ (.int .i64 0)).setCell ⟨w.heap.size, 4, none⟩ (.int .i64 0)).setCell ⟨w.heap.size, 5, none⟩ (.int .i64 0)).setCell ⟨w.heap.size, 6, none⟩ (.bool false)) = w2.setCells w.heap.size 0 (c25 default) := rfl
  rw [hch]
  obtain ⟨e1, e2⟩ := ans7 (cs := default) default HR2.out HB2.out
  refine bodyPost_ret (v := .tuple #[.agg #[.int .i64 0, .int .i64 0, .int .i64 0, .int .i64 0, .int .i64 0, .int .i64 0, .bool false], .int .i64 6]) ?_ rfl ⟨rfl, e2⟩
  refine results_list (rs := [.cell 6 25, .tmp 7]) rfl (by simp) ?_
  exact Vals.cell w.heap.size 25 _ (0, 0) _ rfl e1 Try.underlying25 rfl (by kernel_rfl) (Vals.tmp Vals.nil)
set_option maxHeartbeats 4000000 in
set_option maxRecDepth 100000 in
theorem rcut_some (w : World) (F r : Nat) (A : Option Addr) (c : Nat) (sl : List M) (x y : Int) (h : RAt w F r A c sl) (hl : sl.length ≤ 16384) (hF : r < F) (hFs : F ≤ w.heap.size) (hn : ∃ m ∈ sl, isOf x y m) :
    Calls Try.prog 33 #[.pointer (some ⟨r, 0, none⟩), .int .i64 x, .int .i64 y] w fun e w' => ∃ k : Nat, ∃ hk : k < sl.length, isOf x y sl[k] ∧ e = .returned (.tuple #[.agg (cM sl[k]).toArray, .int .i64 0]) ∧ (∃ A' c', RAt w' F r A' c' (sl.eraseIdx k) ∧ ∀ ad, A' = some ad → 0 < (sl.eraseIdx k).length → w.heap.size ≤ ad.block) ∧ Only w w' (fun b => b = r) := by
  have HB := hide ((Below.refl w.heap.size w).alloc (Nat.le_refl _) (.cells #[.int .i64 0, .int .i64 0, .int .i64 0, .int .i64 0, .int .i64 0, .int .i64 0, .bool false] 25))
  have HR := hide (Blk.new w 25 #[.int .i64 0, .int .i64 0, .int .i64 0, .int .i64 0, .int .i64 0, .int .i64 0, .bool false])
  have HQ1 := hide (h.below HB.out)
  have HF := hide ((rfind_call _ F r A c sl x y (h.below HB.out) hl).mono (R' := fun e w' => (∃ k : Nat, ∃ hk : k < sl.length, e = .returned (.int .i64 k) ∧ isOf x y sl[k]) ∧ Below (w.alloc (.cells #[.int .i64 0, .int .i64 0, .int .i64 0, .int .i64 0, .int .i64 0, .int .i64 0, .bool false] 25)).heap.size (w.alloc (.cells #[.int .i64 0, .int .i64 0, .int .i64 0, .int .i64 0, .int .i64 0, .int .i64 0, .bool false] 25)) w') (fun e w' hh => ⟨by
    rcases hh.1 with ⟨_, q⟩ | q
    · obtain ⟨m, hm, hq⟩ := hn
      exact absurd hq (q m hm)
    · exact q, hh.2⟩))
  have HL := hide hl
  have HFF := hide hF
  have HFs := hide hFs
  have HH := hide h
  have hrg : w.heap.size ≠ r := by have := h.blk.lt; omega
  clear h hn hl hF hFs
  go_enter Try.func33, Try.ntmps33
  go_wp2_with fail
  refine HF.out.mono ?_
  rintro e w2 ⟨⟨k, hk, rfl, hq⟩, hb⟩
  have HB2 := hide (below_step HB.out hb)
  have HR2 := hide (HR.out.below' hb)
  have HQ2 := hide (HQ1.out.below hb)
  have HIs := hide hq
  clear hb HB HF HR HQ1 hq
  have HK := hide hk
  have hk0 : ¬ (k : Int) < 0 := by omega
  have hk1 : (k : Int) < (sl.length : Int) := by omega
  obtain ⟨ad, rfl, p0, p1, p2, p3, p4, p5, p6⟩ := at_S25 HQ2.out.row hk
  obtain ⟨z, hz⟩ : ∃ z, z = sl[k] := ⟨_, rfl⟩
  have HZ := hide hz
  have q0 : w2.cell? (ad.add (k * 7)) = some (.int .i64 z.f0.f0) := by rw [hz]; exact p0
  have q1 : w2.cell? ⟨(ad.add (k * 7)).block, (ad.add (k * 7)).off + 1, none⟩ = some (.int .i64 z.f0.f1) := by rw [hz]; exact p1
  have q2 : w2.cell? ⟨(ad.add (k * 7)).block, (ad.add (k * 7)).off + 2, none⟩ = some (.int .i64 z.f0.f2) := by rw [hz]; exact p2
  have q3 : w2.cell? ⟨(ad.add (k * 7)).block, (ad.add (k * 7)).off + 3, none⟩ = some (.int .i64 z.f1) := by rw [hz]; exact p3
  have q4 : w2.cell? ⟨(ad.add (k * 7)).block, (ad.add (k * 7)).off + 4, none⟩ = some (.int .i64 z.f2) := by rw [hz]; exact p4
  have q5 : w2.cell? ⟨(ad.add (k * 7)).block, (ad.add (k * 7)).off + 5, none⟩ = some (.int .i64 z.f3) := by rw [hz]; exact p5
  have q6 : w2.cell? ⟨(ad.add (k * 7)).block, (ad.add (k * 7)).off + 6, none⟩ = some (.bool z.f4) := by rw [hz]; exact p6
  clear hz p0 p1 p2 p3 p4 p5 p6
  have c0 : w2.cell? ⟨r, 0, none⟩ = some (.slice (some ad) sl.length c) := HQ2.out.blk.cell 0
  have HB3 := hide (HB2.out.alloc HB2.out.size (.cells #[.int .i64 z.f0.f0, .int .i64 z.f0.f1, .int .i64 z.f0.f2, .int .i64 z.f1, .int .i64 z.f2, .int .i64 z.f3, .bool z.f4] 25))
  have HQ3 := hide (HQ2.out.below ((Below.refl _ _).alloc (Nat.le_refl _) (.cells #[.int .i64 z.f0.f0, .int .i64 z.f0.f1, .int .i64 z.f0.f2, .int .i64 z.f1, .int .i64 z.f2, .int .i64 z.f3, .bool z.f4] 25)))
  have HR3 := hide (HR2.out.alloc (.cells #[.int .i64 z.f0.f0, .int .i64 z.f0.f1, .int .i64 z.f0.f2, .int .i64 z.f1, .int .i64 z.f2, .int .i64 z.f3, .bool z.f4] 25))
  have HX3 := hide (Blk.new w2 25 #[.int .i64 z.f0.f0, .int .i64 z.f0.f1, .int .i64 z.f0.f2, .int .i64 z.f1, .int .i64 z.f2, .int .i64 z.f3, .bool z.f4])
  have hxr : w2.heap.size ≠ r := by have := HQ2.out.blk.lt; omega
  obtain ⟨W, hW⟩ : ∃ W, w2.alloc (.cells #[.int .i64 z.f0.f0, .int .i64 z.f0.f1, .int .i64 z.f0.f2, .int .i64 z.f1, .int .i64 z.f2, .int .i64 z.f3, .bool z.f4] 25) = W := ⟨_, rfl⟩
  obtain ⟨gx, hgx⟩ : ∃ gx, w2.heap.size = gx := ⟨_, rfl⟩
  rw [hW] at HB3 HQ3 HR3 HX3
  rw [hgx] at HX3 hxr
  obtain ⟨g, hg⟩ : ∃ g, w.heap.size = g := ⟨_, rfl⟩
  have HG := hide hg
  rw [hg] at HR3 hrg ⊢
  clear hg HR2
  have E1 : Hid (OwnM (W.alloc (.cells #[] 25)) W.heap.size (.slice (some ⟨W.heap.size, 0, none⟩) 0 0) []) := hide (Own.empty W _ _ (Nat.le_refl _))
  have BW1 : Hid (Below W.heap.size W (W.alloc (.cells #[] 25))) := hide ((Below.refl W.heap.size W).alloc (Nat.le_refl _) _)
  have S1 := hide (C_take (C_below HQ3.out.row BW1.out) (m := k) (Nat.le_of_lt HK.out))
  have c0e : (W.alloc (.cells #[] 25)).cell? ⟨r, 0, none⟩ = some (.slice (some ad) sl.length c) := (HQ3.out.below BW1.out).blk.cell 0
  obtain ⟨j1, hj1⟩ : ∃ j1, k + 1 = j1 := ⟨_, rfl⟩
  have HCap := hide HQ3.out.cap
  have d1 : (k : Int) ≤ (c : Int) := by have := HK.out; have := HCap.out; omega
  have d2 : (j1 : Int) ≤ (sl.length : Int) := by have := HK.out; omega
  have d3 : (sl.length : Int) ≤ (c : Int) := by have := HCap.out; omega
  have d5 : (k : Int) ≤ (sl.length : Int) := by have := HK.out; omega
  have wr64 : wrap64 ((k : Int) + 1) = (j1 : Int) := by
    have h0 : wrap64 ((k : Int) + 1) = (k : Int) + 1 := by have := HL.out; have := HK.out; unfold wrap64; omega
    rw [h0]
    omega
  have wr : IntKind.i64.wrap ((k : Int) + 1) = (j1 : Int) := by rw [i64_w]; exact wr64
  by_cases hkc : c = j1
  · have hdr : sl.drop j1 = [] := List.drop_of_length_le (by omega)
    have hz0 : sl.length - j1 = 0 := by omega
    have HE : Hid (([] : List M) ++ sl.take k ++ [] = sl.eraseIdx k) := hide (by rw [List.append_nil, List.nil_append, List.eraseIdx_eq_take_drop_succ, hj1, hdr, List.append_nil])
    have T2 : Hid (Kd.C k25 W (some ad) 0 ([] : List M)) := hide ⟨rfl, by omega, fun h => absurd h (by omega)⟩
    clear hdr
    go_wp2_with (first
      | ((with_reducible refine gate_builtin (b := .append) (xs := #[.tmp 25, .tmp 31]) rfl ?_); at_builtin; refine wp_append flatM rfl k25_open rfl (.tmp 25) (.tmp 31) 26 rfl zM 56 Try.underlying26 infoM rfl _ rfl E1.out _ _ _ (sl.take k) rfl S1.out (by omega) ?aL ?aB ?_; (case aL => have := HL.out; have := HK.out; first | (simp; done) | (simp; omega)); (case aB => exact BW1.out.size); intro v1 w4 ho hg; have E2 := hide ho; have BW2 := hide (BW1.out.grown hg BW1.out.size (fun b hb => (E1.out.blk b hb).1)); have c0f : w4.cell? ⟨r, 0, none⟩ = some (.slice (some ad) sl.length c) := (HQ3.out.below BW2.out).blk.cell 0; clear ho hg E1 S1)
      | ((with_reducible refine gate_builtin (b := .append) (xs := #[.tmp 34, .tmp 41]) rfl ?_); at_builtin; refine wp_append flatM rfl k25_open rfl (.tmp 34) (.tmp 41) 26 rfl zM 56 Try.underlying26 infoM rfl _ rfl E2.out _ _ _ [] rfl (C_below T2.out BW2.out) (by omega) ?cL ?cB ?_; (case cL => have := HL.out; have := HK.out; first | (simp; done) | (simp; omega)); (case cB => exact BW2.out.size); intro v2 w5 ho hg; rw [HE.out] at ho; obtain ⟨A4, c4, hv4, _, _⟩ := ho.slice; subst hv4; have E4 := hide ho; have BW4 := hide (BW2.out.grown hg BW2.out.size (fun b hb => (E2.out.blk b hb).1)); have c0g : w5.cell? ⟨r, 0, none⟩ = some (.slice (some ad) sl.length c) := (HQ3.out.below BW4.out).blk.cell 0; have f0g : w5.frozen? ⟨r, 0, none⟩ = false := (HQ3.out.below BW4.out).blk.frozen 0; have x0 : w5.cell? ⟨gx, 0, none⟩ = some (.int .i64 z.f0.f0) := (HX3.out.below' BW4.out).cell 0; have x1 : w5.cell? ⟨gx, 1, none⟩ = some (.int .i64 z.f0.f1) := (HX3.out.below' BW4.out).cell 1; have x2 : w5.cell? ⟨gx, 2, none⟩ = some (.int .i64 z.f0.f2) := (HX3.out.below' BW4.out).cell 2; have x3 : w5.cell? ⟨gx, 3, none⟩ = some (.int .i64 z.f1) := (HX3.out.below' BW4.out).cell 3; have x4 : w5.cell? ⟨gx, 4, none⟩ = some (.int .i64 z.f2) := (HX3.out.below' BW4.out).cell 4; have x5 : w5.cell? ⟨gx, 5, none⟩ = some (.int .i64 z.f3) := (HX3.out.below' BW4.out).cell 5; have x6 : w5.cell? ⟨gx, 6, none⟩ = some (.bool z.f4) := (HX3.out.below' BW4.out).cell 6; have r0 : w5.cell? ⟨g, 0, none⟩ = some (.int .i64 0) := (HR3.out.below' BW4.out).cell 0; have v0 : w5.frozen? ⟨g, 0, none⟩ = false := (HR3.out.below' BW4.out).frozen 0; have r1 : w5.cell? ⟨g, 1, none⟩ = some (.int .i64 0) := (HR3.out.below' BW4.out).cell 1; have v1 : w5.frozen? ⟨g, 1, none⟩ = false := (HR3.out.below' BW4.out).frozen 1; have r2 : w5.cell? ⟨g, 2, none⟩ = some (.int .i64 0) := (HR3.out.below' BW4.out).cell 2; have v2 : w5.frozen? ⟨g, 2, none⟩ = false := (HR3.out.below' BW4.out).frozen 2; have r3 : w5.cell? ⟨g, 3, none⟩ = some (.int .i64 0) := (HR3.out.below' BW4.out).cell 3; have v3 : w5.frozen? ⟨g, 3, none⟩ = false := (HR3.out.below' BW4.out).frozen 3; have r4 : w5.cell? ⟨g, 4, none⟩ = some (.int .i64 0) := (HR3.out.below' BW4.out).cell 4; have v4 : w5.frozen? ⟨g, 4, none⟩ = false := (HR3.out.below' BW4.out).frozen 4; have r5 : w5.cell? ⟨g, 5, none⟩ = some (.int .i64 0) := (HR3.out.below' BW4.out).cell 5; have v5 : w5.frozen? ⟨g, 5, none⟩ = false := (HR3.out.below' BW4.out).frozen 5; have r6 : w5.cell? ⟨g, 6, none⟩ = some (.bool false) := (HR3.out.below' BW4.out).cell 6; have v6 : w5.frozen? ⟨g, 6, none⟩ = false := (HR3.out.below' BW4.out).frozen 6; clear ho hg E2))
    have hg := HG.out
    have hgl := HR3.out.lt
    have hFz := HFs.out
    have hFr := HFF.out
    have hsz := HB3.out.size
    have hB5 := below_step HB3.out BW4.out
    have hown : ∀ b, (Value.slice A4 (sl.eraseIdx k).length c4).ownBlock = some b → W.heap.size ≤ b := fun b hb => (E4.out.blk b hb).1
    have hO4 : Only w (w5.setCell ⟨r, 0, none⟩ (.slice A4 (sl.eraseIdx k).length c4)) (fun b => b = r) := (only_of_below hB5 (fun b => b = r)).setCell (p := ⟨r, 0, none⟩) (.inl rfl) _
    have hOw : OwnM (w5.setCell ⟨r, 0, none⟩ (.slice A4 (sl.eraseIdx k).length c4)) W.heap.size (.slice A4 (sl.eraseIdx k).length c4) (sl.eraseIdx k) := E4.out.only (S := fun b => b = r) ((Only.refl w5 (fun b => b = r)).setCell (p := ⟨r, 0, none⟩) (.inl rfl) _) (fun b hb e => by have := hown b hb; omega)
    obtain ⟨A5, c5, hv5, hc5, hC5, hb5⟩ := hOw.reads flatM rfl k25_mk
    cases hv5
    have hfar : ∀ ad, A4 = some ad → W.heap.size ≤ ad.block := fun ad e => hown ad.block (hb5 ad e).symm
    have hQ4 : RAt (w5.setCell ⟨r, 0, none⟩ (.slice A4 (sl.eraseIdx k).length c4)) F r A4 c4 (sl.eraseIdx k) := ⟨(HQ3.out.below BW4.out).blk.set_ 0 _, hC5, hc5, fun ad e _ => by have := hfar ad e; omega⟩
    have hR4 := (HR3.out.below' BW4.out).far (p := ⟨r, 0, none⟩) hrg (.slice A4 (sl.eraseIdx k).length c4)
    have hch : ((((((((w5.setCell ⟨r, 0, none⟩ (.slice A4 (sl.eraseIdx k).length c4)).setCell ⟨g, 0, none⟩ (.int .i64 z.f0.f0)).setCell ⟨g, 1, none⟩ (.int .i64 z.f0.f1)).setCell ⟨g, 2, none⟩ (.int .i64 z.f0.f2)).setCell ⟨g, 3, none⟩ (.int .i64 z.f1)).setCell ⟨g, 4, none⟩ (.int .i64 z.f2)).setCell ⟨g, 5, none⟩ (.int .i64 z.f3)).setCell ⟨g, 6, none⟩ (.bool z.f4)) = (w5.setCell ⟨r, 0, none⟩ (.slice A4 (sl.eraseIdx k).length c4)).setCells g 0 (c25 z) := rfl
    rw [hch]
    obtain ⟨e1, e2, e3⟩ := rfin7 z hQ4 hR4 hO4 hrg (fun ad1 e h => by have := hfar ad1 e; omega) (by omega)
    refine bodyPost_ret (v := .tuple #[.agg #[.int .i64 z.f0.f0, .int .i64 z.f0.f1, .int .i64 z.f0.f2, .int .i64 z.f1, .int .i64 z.f2, .int .i64 z.f3, .bool z.f4], .int .i64 0]) ?_ rfl ⟨k, HK.out, HIs.out, by have h := HZ.out; subst h; rfl, ⟨A4, c4, e1, fun ad1 e _ => by have := hfar ad1 e; omega⟩, e3⟩
    refine results_list (rs := [.cell 6 25, .tmp 7]) rfl (by simp) ?_
    exact Vals.cell g 25 _ (0, 0) _ rfl e2 Try.underlying25 rfl (by kernel_rfl) (Vals.tmp Vals.nil)
  · have T1 := C_drop (k := 7) (c := c) (m := j1) HQ3.out.row rfl (by omega) HCap.out
    rw [if_neg hkc] at T1
    have T2 := hide T1
    have HE : Hid (([] : List M) ++ sl.take k ++ sl.drop j1 = sl.eraseIdx k) := hide (by rw [List.nil_append, List.eraseIdx_eq_take_drop_succ, hj1])
    clear T1
    go_wp2_with (first
      | ((with_reducible refine gate_builtin (b := .append) (xs := #[.tmp 25, .tmp 31]) rfl ?_); at_builtin; refine wp_append flatM rfl k25_open rfl (.tmp 25) (.tmp 31) 26 rfl zM 56 Try.underlying26 infoM rfl _ rfl E1.out _ _ _ (sl.take k) rfl S1.out (by omega) ?aL ?aB ?_; (case aL => have := HL.out; have := HK.out; first | (simp; done) | (simp; omega)); (case aB => exact BW1.out.size); intro v1 w4 ho hg; have E2 := hide ho; have BW2 := hide (BW1.out.grown hg BW1.out.size (fun b hb => (E1.out.blk b hb).1)); have c0f : w4.cell? ⟨r, 0, none⟩ = some (.slice (some ad) sl.length c) := (HQ3.out.below BW2.out).blk.cell 0; clear ho hg E1 S1)
      | ((with_reducible refine gate_builtin (b := .append) (xs := #[.tmp 34, .tmp 41]) rfl ?_); at_builtin; refine wp_append flatM rfl k25_open rfl (.tmp 34) (.tmp 41) 26 rfl zM 56 Try.underlying26 infoM rfl _ rfl E2.out _ _ _ (sl.drop j1) rfl (C_below T2.out BW2.out) (by omega) ?cL ?cB ?_; (case cL => have := HL.out; have := HK.out; first | (simp; done) | (simp; omega)); (case cB => exact BW2.out.size); intro v2 w5 ho hg; rw [HE.out] at ho; obtain ⟨A4, c4, hv4, _, _⟩ := ho.slice; subst hv4; have E4 := hide ho; have BW4 := hide (BW2.out.grown hg BW2.out.size (fun b hb => (E2.out.blk b hb).1)); have c0g : w5.cell? ⟨r, 0, none⟩ = some (.slice (some ad) sl.length c) := (HQ3.out.below BW4.out).blk.cell 0; have f0g : w5.frozen? ⟨r, 0, none⟩ = false := (HQ3.out.below BW4.out).blk.frozen 0; have x0 : w5.cell? ⟨gx, 0, none⟩ = some (.int .i64 z.f0.f0) := (HX3.out.below' BW4.out).cell 0; have x1 : w5.cell? ⟨gx, 1, none⟩ = some (.int .i64 z.f0.f1) := (HX3.out.below' BW4.out).cell 1; have x2 : w5.cell? ⟨gx, 2, none⟩ = some (.int .i64 z.f0.f2) := (HX3.out.below' BW4.out).cell 2; have x3 : w5.cell? ⟨gx, 3, none⟩ = some (.int .i64 z.f1) := (HX3.out.below' BW4.out).cell 3; have x4 : w5.cell? ⟨gx, 4, none⟩ = some (.int .i64 z.f2) := (HX3.out.below' BW4.out).cell 4; have x5 : w5.cell? ⟨gx, 5, none⟩ = some (.int .i64 z.f3) := (HX3.out.below' BW4.out).cell 5; have x6 : w5.cell? ⟨gx, 6, none⟩ = some (.bool z.f4) := (HX3.out.below' BW4.out).cell 6; have r0 : w5.cell? ⟨g, 0, none⟩ = some (.int .i64 0) := (HR3.out.below' BW4.out).cell 0; have v0 : w5.frozen? ⟨g, 0, none⟩ = false := (HR3.out.below' BW4.out).frozen 0; have r1 : w5.cell? ⟨g, 1, none⟩ = some (.int .i64 0) := (HR3.out.below' BW4.out).cell 1; have v1 : w5.frozen? ⟨g, 1, none⟩ = false := (HR3.out.below' BW4.out).frozen 1; have r2 : w5.cell? ⟨g, 2, none⟩ = some (.int .i64 0) := (HR3.out.below' BW4.out).cell 2; have v2 : w5.frozen? ⟨g, 2, none⟩ = false := (HR3.out.below' BW4.out).frozen 2; have r3 : w5.cell? ⟨g, 3, none⟩ = some (.int .i64 0) := (HR3.out.below' BW4.out).cell 3; have v3 : w5.frozen? ⟨g, 3, none⟩ = false := (HR3.out.below' BW4.out).frozen 3; have r4 : w5.cell? ⟨g, 4, none⟩ = some (.int .i64 0) := (HR3.out.below' BW4.out).cell 4; have v4 : w5.frozen? ⟨g, 4, none⟩ = false := (HR3.out.below' BW4.out).frozen 4; have r5 : w5.cell? ⟨g, 5, none⟩ = some (.int .i64 0) := (HR3.out.below' BW4.out).cell 5; have v5 : w5.frozen? ⟨g, 5, none⟩ = false := (HR3.out.below' BW4.out).frozen 5; have r6 : w5.cell? ⟨g, 6, none⟩ = some (.bool false) := (HR3.out.below' BW4.out).cell 6; have v6 : w5.frozen? ⟨g, 6, none⟩ = false := (HR3.out.below' BW4.out).frozen 6; clear ho hg E2))
    have hg := HG.out
    have hgl := HR3.out.lt
    have hFz := HFs.out
    have hFr := HFF.out
    have hsz := HB3.out.size
    have hB5 := below_step HB3.out BW4.out
    have hown : ∀ b, (Value.slice A4 (sl.eraseIdx k).length c4).ownBlock = some b → W.heap.size ≤ b := fun b hb => (E4.out.blk b hb).1
    have hO4 : Only w (w5.setCell ⟨r, 0, none⟩ (.slice A4 (sl.eraseIdx k).length c4)) (fun b => b = r) := (only_of_below hB5 (fun b => b = r)).setCell (p := ⟨r, 0, none⟩) (.inl rfl) _
    have hOw : OwnM (w5.setCell ⟨r, 0, none⟩ (.slice A4 (sl.eraseIdx k).length c4)) W.heap.size (.slice A4 (sl.eraseIdx k).length c4) (sl.eraseIdx k) := E4.out.only (S := fun b => b = r) ((Only.refl w5 (fun b => b = r)).setCell (p := ⟨r, 0, none⟩) (.inl rfl) _) (fun b hb e => by have := hown b hb; omega)
    obtain ⟨A5, c5, hv5, hc5, hC5, hb5⟩ := hOw.reads flatM rfl k25_mk
    cases hv5
    have hfar : ∀ ad, A4 = some ad → W.heap.size ≤ ad.block := fun ad e => hown ad.block (hb5 ad e).symm
    have hQ4 : RAt (w5.setCell ⟨r, 0, none⟩ (.slice A4 (sl.eraseIdx k).length c4)) F r A4 c4 (sl.eraseIdx k) := ⟨(HQ3.out.below BW4.out).blk.set_ 0 _, hC5, hc5, fun ad e _ => by have := hfar ad e; omega⟩
    have hR4 := (HR3.out.below' BW4.out).far (p := ⟨r, 0, none⟩) hrg (.slice A4 (sl.eraseIdx k).length c4)
    have hch : ((((((((w5.setCell ⟨r, 0, none⟩ (.slice A4 (sl.eraseIdx k).length c4)).setCell ⟨g, 0, none⟩ (.int .i64 z.f0.f0)).setCell ⟨g, 1, none⟩ (.int .i64 z.f0.f1)).setCell ⟨g, 2, none⟩ (.int .i64 z.f0.f2)).setCell ⟨g, 3, none⟩ (.int .i64 z.f1)).setCell ⟨g, 4, none⟩ (.int .i64 z.f2)).setCell ⟨g, 5, none⟩ (.int .i64 z.f3)).setCell ⟨g, 6, none⟩ (.bool z.f4)) = (w5.setCell ⟨r, 0, none⟩ (.slice A4 (sl.eraseIdx k).length c4)).setCells g 0 (c25 z) := rfl
    rw [hch]
    obtain ⟨e1, e2, e3⟩ := rfin7 z hQ4 hR4 hO4 hrg (fun ad1 e h => by have := hfar ad1 e; omega) (by omega)
    refine bodyPost_ret (v := .tuple #[.agg #[.int .i64 z.f0.f0, .int .i64 z.f0.f1, .int .i64 z.f0.f2, .int .i64 z.f1, .int .i64 z.f2, .int .i64 z.f3, .bool z.f4], .int .i64 0]) ?_ rfl ⟨k, HK.out, HIs.out, by have h := HZ.out; subst h; rfl, ⟨A4, c4, e1, fun ad1 e _ => by have := hfar ad1 e; omega⟩, e3⟩
    refine results_list (rs := [.cell 6 25, .tmp 7]) rfl (by simp) ?_
    exact Vals.cell g 25 _ (0, 0) _ rfl e2 Try.underlying25 rfl (by kernel_rfl) (Vals.tmp Vals.nil)
set_option maxHeartbeats 4000000 in
set_option maxRecDepth 100000 in
theorem rpush_full (w : World) (F r : Nat) (A : Option Addr) (c : Nat) (sl : List M) (m : M) (h : RAt w F r A c sl) (hl : sl.length = 16384) (hn : ∀ x ∈ sl, ¬ isOf m.f0.f1 m.f3 x) :
    Calls Try.prog 30 #[.pointer (some ⟨r, 0, none⟩), .agg #[.int .i64 m.f0.f0, .int .i64 m.f0.f1, .int .i64 m.f0.f2, .int .i64 m.f1, .int .i64 m.f2, .int .i64 m.f3, .bool m.f4]] w fun e w' => e = .returned (.int .i64 9) ∧ Below w.heap.size w w' := by
  have HB := hide ((Below.refl w.heap.size w).alloc (Nat.le_refl _) (.cells #[.int .i64 m.f0.f0, .int .i64 m.f0.f1, .int .i64 m.f0.f2, .int .i64 m.f1, .int .i64 m.f2, .int .i64 m.f3, .bool m.f4] 25))
  have HX := hide (Blk.new w 25 #[.int .i64 m.f0.f0, .int .i64 m.f0.f1, .int .i64 m.f0.f2, .int .i64 m.f1, .int .i64 m.f2, .int .i64 m.f3, .bool m.f4])
  have HR1 := hide (h.below HB.out)
  have HF := hide ((rfind_call _ F r A c sl m.f0.f1 m.f3 (h.below HB.out) (by omega)).mono (R' := fun e w' => e = .returned (.int .i64 (-1)) ∧ Below (w.alloc (.cells #[.int .i64 m.f0.f0, .int .i64 m.f0.f1, .int .i64 m.f0.f2, .int .i64 m.f1, .int .i64 m.f2, .int .i64 m.f3, .bool m.f4] 25)).heap.size (w.alloc (.cells #[.int .i64 m.f0.f0, .int .i64 m.f0.f1, .int .i64 m.f0.f2, .int .i64 m.f1, .int .i64 m.f2, .int .i64 m.f3, .bool m.f4] 25)) w') (fun e w' hh => ⟨by
    rcases hh.1 with ⟨e, _⟩ | ⟨k, hk, _, q⟩
    · exact e
    · exact absurd q (hn _ (List.getElem_mem hk)), hh.2⟩))
  obtain ⟨n, hnn⟩ : ∃ n, sl.length = n := ⟨_, rfl⟩
  have hlI : ¬ (n : Int) < 16384 := by omega
  have hlI2 : (16384 : Int) ≤ (n : Int) := by omega
  clear h hn hl
  have x1 := HX.out.cell 1
  have x5 := HX.out.cell 5
  go_enter Try.func30, Try.ntmps30
  go_wp2_with fail
  refine HF.out.mono ?_
  rintro e w2 ⟨rfl, hb⟩
  have HB2 := hide (below_step HB.out hb)
  have c0 : w2.cell? ⟨r, 0, none⟩ = some (.slice A n c) := by rw [← hnn]; exact (HR1.out.below hb).blk.cell 0
  clear hb HF HX HB HR1 x1 x5
  go_wp2_with fail
  go_ret
  exact ⟨rfl, HB2.out⟩
end Go.Proofs.Ytkhdghlgkljdgaa.LQ
