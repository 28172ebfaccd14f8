/- The calendar's Push. No law is proved here. -/
import Derived.Test.YtmgjnabenemghaaCE
import Derived.Test.YtmgjnabenemghaaPlcH
namespace Go.Proofs.Ytmgjnabenemghaa.CQ
open Go.Proofs Go.Proofs.Ytmgjnabenemghaa.Plc Go.Proofs.Ytmgjnabenemghaa.Ref02 Go.Shelf Go.RowKit Go.Deep Go.Sort Go.Maps Go.Proofs.Ytmgjnabenemghaa.SortPure Go.Proofs.Ytmgjnabenemghaa.Types Go.Proofs.Ytmgjnabenemghaa.Heap Go.Proofs.Ytmgjnabenemghaa.Row Go.Proofs.Ytmgjnabenemghaa.Ord Go.Proofs.Ytmgjnabenemghaa.Sorted Go.Proofs.YtmgjnabenemghaaW.PrintWords Go.Proofs.YtmgjnabenemghaaW.PrintLast Go.Proofs.YtmgjnabenemghaaW.PrintMore
set_option linter.unusedVariables false
set_option linter.unusedSimpArgs false
theorem own_at {w : World} {base g c : Nat} {L : List M} (h : OwnM w base (.slice (some ⟨g, 0, none⟩) L.length c) L) {n k : Nat} (hn : L.length = n) (hk : k < n) {t : M} (ht : L[k]'(by rw [hn]; exact hk) = t) :
    w.cell? ⟨g, k * 7, none⟩ = some (.int .i64 t.f0.f0) ∧ w.cell? ⟨g, k * 7 + 1, none⟩ = some (.int .i64 t.f0.f1) ∧ w.cell? ⟨g, k * 7 + 2, none⟩ = some (.int .i64 t.f0.f2) ∧ w.cell? ⟨g, k * 7 + 3, none⟩ = some (.int .i64 t.f1) ∧ w.cell? ⟨g, k * 7 + 4, none⟩ = some (.int .i64 t.f2) ∧ w.cell? ⟨g, k * 7 + 5, none⟩ = some (.int .i64 t.f3) ∧ w.cell? ⟨g, k * 7 + 6, none⟩ = some (.bool t.f4) ∧
    w.frozen? ⟨g, k * 7, none⟩ = false ∧ w.frozen? ⟨g, k * 7 + 1, none⟩ = false ∧ w.frozen? ⟨g, k * 7 + 2, none⟩ = false ∧ w.frozen? ⟨g, k * 7 + 3, none⟩ = false ∧ w.frozen? ⟨g, k * 7 + 4, none⟩ = false ∧ w.frozen? ⟨g, k * 7 + 5, none⟩ = false ∧ w.frozen? ⟨g, k * 7 + 6, none⟩ = false := by
  obtain ⟨A, c', hv, _, hC, _⟩ := h.reads flatM rfl k25_mk
  cases hv
  obtain ⟨ad, e, q0, q1, q2, q3, q4, q5, q6⟩ := at_S25 hC (show k < L.length by rw [hn]; exact hk)
  cases e
  rw [ht] at q0 q1 q2 q3 q4 q5 q6
  have ha : (⟨g, 0, none⟩ : Addr).add (k * 7) = ⟨g, k * 7, none⟩ := by
    unfold Addr.add
    split <;> simp_all
  rw [ha] at q0 q1 q2 q3 q4 q5 q6
  have hfz : ∀ t, w.frozen? ⟨g, t, none⟩ = false := fun t => by
    rcases h.2 with ⟨hv, _⟩ | ⟨g', cap, cur, hv, _, hh, _⟩
    · cases hv
    · injection hv with hv
      injection hv with hv
      injection hv with hv
      subst hv
      exact Blk.frozen (t := 25) (cs := cur) hh t
  exact ⟨q0, q1, q2, q3, q4, q5, q6, hfz _, hfz _, hfz _, hfz _, hfz _, hfz _, hfz _⟩
theorem splice_put {α : Type} {L l : List α} {m : α} {k : Nat} (hL : L.length = l.length + 1) (hk : k ≤ l.length) : splice ((splice L 0 (l.take k)).set k m) (k + 1) (l.drop k) = l.take k ++ m :: l.drop k := by
  have hx : (l.take k).length = k := by rw [List.length_take]; omega
  have e1 : splice L 0 (l.take k) = l.take k ++ L.drop k := by simp [splice, hx]
  obtain ⟨y, r, hr⟩ : ∃ y r, L.drop k = y :: r := by
    cases h : L.drop k with
    | nil => have := congrArg List.length h; rw [List.length_drop] at this; simp at this; omega
    | cons y r => exact ⟨y, r, rfl⟩
  have hrl : r.length = l.length - k := by have := congrArg List.length hr; rw [List.length_drop, List.length_cons] at this; omega
  rw [e1, hr, List.set_append_right _ _ (by rw [hx]; exact Nat.le_refl _), hx, Nat.sub_self, List.set_cons_zero]
  unfold splice
  have h1 : (l.take k ++ m :: r).take (k + 1) = l.take k ++ [m] := by
    rw [List.take_append, List.take_of_length_le (by rw [hx]; omega), hx]
    simp
  have h2 : (l.take k ++ m :: r).drop (k + 1 + (l.drop k).length) = [] := by
    apply List.drop_eq_nil_of_le
    rw [List.length_append, hx, List.length_cons, hrl, List.length_drop]
    omega
  rw [h1, h2]
  simp
theorem run_makeM (w : World) (n : Nat) (hn : n ≤ 4194304) : ∃ w', (Instr.makeSlice 26 (.int .i64 (n : Int)) (.int .i64 (n : Int))).run Try.prog w = .ok (.slice (some ⟨w.heap.size, 0, none⟩) n n) w' ∧ OwnM w' w.heap.size (.slice (some ⟨w.heap.size, 0, none⟩) n n) (List.replicate n default) ∧ Below w.heap.size w w' := by
  obtain ⟨i0, hi0, hz0, hz1, hz2⟩ := info_parts infoM
  have hbn : (i0.bytes : Int) * (n : Int) ≤ 281474976710656 := by
    have h1 : i0.bytes * n ≤ 4096 * 4194304 := Nat.mul_le_mul (by omega) hn
    have : ((i0.bytes * n : Nat) : Int) ≤ 281474976710656 := by omega
    rwa [Int.natCast_mul] at this
  have hr := run_make (P := Try.prog) w 26 25 i0 zM Try.underlying26 hi0 hz0 .i64 .i64 (n : Int) (n : Int) (by omega) (Int.le_refl _) hbn (by omega)
  simp only [Int.toNat_natCast, hz1] at hr
  refine ⟨_, hr, ?_, (Below.refl _ _).alloc (Nat.le_refl _) _⟩
  unfold OwnM Own
  have hlr : (List.replicate n (default : M)).length = n := by simp
  rw [hlr]
  refine ⟨by rw [length_flat flatM, hlr], .inr ⟨w.heap.size, n, _, rfl, Nat.le_refl _, heap_alloc_new w _, Nat.le_refl _, by simp only [maxLen]; omega, size_madeCells _ _, ?_⟩⟩
  rw [made_flat (enc := c25) (k := 7) (default : M) zM.cells rfl rfl n, List.take_of_length_le (by rw [length_flat flatM, hlr]; exact Nat.le_refl _)]
/-- What the map's store leaves, and the count's. -/
theorem push_fin {w w1 w4 w7 w8 : World} {P : Nat → Prop} {g b gm n : Nat} {wd d : Int} {sl l l8 : List M} {m : M} (h : CAt w P g b wd sl) (hb : Below w.heap.size w w1) (ha : CAt w1 (fun x => P x ∧ ¬ (gm ≤ x ∧ x < w1.heap.size)) g b wd sl) (hgm : w.heap.size = gm) (hsz : w1.heap.size = gm + 1) (hP : ∀ x, gm ≤ x → P x)
    (hb4 : Below w1.heap.size w1 w4) (hb7 : Below w4.heap.size w4 w7) (hown : OwnM w8 w4.heap.size (.slice (some ⟨w4.heap.size, 0, none⟩) l8.length n) (ins befM l m)) (hO : Only w7 w8 (fun x => x = w4.heap.size)) (hl8 : l8.length = n) (hn : l.length + 1 = n) (hl : row wd sl d = l) (hd : m.f0.f0 / wd = d) (hwd : wfI d)
    (hm : ∀ x ∈ sl, ¬ isOf m.f0.f1 m.f3 x) (ht : wfI m.f0.f0) (hlen : sl.length < 16384) :
    ∃ w9, (Instr.mapUpdate tMap (.map (some b)) (.int .i64 d) (.slice (some ⟨w4.heap.size, 0, none⟩) n n)).run Try.prog w8 = .ok () w9 ∧ w8.cell? ⟨g, 1, none⟩ = some (.map (some b)) ∧ w9.cell? ⟨g, 2, none⟩ = some (.int .i64 (sl.length : Nat)) ∧ w9.frozen? ⟨g, 2, none⟩ = false ∧ w9.cell? ⟨g, 1, none⟩ = some (.map (some b)) ∧
      Hid (CAt (w9.setCell ⟨g, 2, none⟩ (.int .i64 ((sl.length : Int) + 1))) P g b wd (ins befM sl m) ∧ Only w (w9.setCell ⟨g, 2, none⟩ (.int .i64 ((sl.length : Int) + 1))) (fun x => x = g ∨ x = b)) := by
  have hb8 : Below w4.heap.size w4 w8 := hb7.trans (hO.below hb7.size (fun i e => Nat.le_of_eq e.symm))
  have hb18 : Below w1.heap.size w1 w8 := below_step hb4 hb8
  have h8 := ha.below hb18
  have hil : (ins befM l m).length = n := by rw [length_ins, hn]
  rw [hl8] at hown
  obtain ⟨A8, c8, hv, hc8, hC8, hbl⟩ := hown.reads flatM rfl k25_mk
  rw [hil] at hv
  cases hv
  have hne : ins befM l m ≠ [] := fun q => by rw [q] at hil; simp at hil; omega
  obtain ⟨w9, hup, hd9, hO9⟩ := Days.update (P := P) (Days.to h8.days (fun x hx => hx.1)) h.lt.1 (Nat.le_of_lt hlen) hwd hC8 hc8 (fun ad e => by cases e; exact hP _ (show gm ≤ w4.heap.size by have := hb4.size; omega)) hne (sl' := ins befM sl m) (by rw [row_ins h.srt, if_pos hd, hl]) (fun d' hd' => by rw [row_ins h.srt, if_neg (fun q => hd' (q.symm.trans hd))])
  rw [hil] at hup
  have hbk := h8.blk.only hO9 (fun e => h.lt.2.2 e.symm)
  refine ⟨w9, hup, h8.c1, hbk.cell 2, hbk.frozen 2, hbk.cell 1, hide ?_⟩
  have hlen2 : (ins befM sl m).length = sl.length + 1 := length_ins sl m
  have hlen3 : (ins befM sl m).length ≤ 16384 := by omega
  have hwr : (sl.length : Int) + 1 = ((ins befM sl m).length : Int) := by rw [hlen2]; omega
  rw [hwr]
  have hOs : Only w9 (w9.setCell ⟨g, 2, none⟩ (.int .i64 ((ins befM sl m).length : Int))) (fun x => x = g) := (Only.refl w9 (fun x => x = g)).setCell (p := ⟨g, 2, none⟩) (.inl rfl) _
  refine ⟨⟨hbk.set_ 2 _, hd9.only hOs (fun e => h.lt.2.2 e) (fun x hx e => h.lt.2.1 (e ▸ hx)), h.lt, h.wd1, h.wfw, fun x hx => ?_, Srt.ins weakM h.srt m, (Uq.perm (perm_ins sl m)).2 (List.pairwise_cons.2 ⟨fun x hx => hm x hx, h.uq⟩), hlen3⟩, ?_⟩
  · rcases (mem_ins sl m x).1 hx with e | e
    · rw [e]; exact ht
    · exact h.tm x e
  · exact ((only_of_below (below_step hb hb18) _).step hO9 (fun x e _ => .inr e)).step hOs (fun x e _ => .inl e)
set_option maxHeartbeats 8000000 in
set_option maxRecDepth 100000 in
theorem push_old {w : World} {P : Nat → Prop} {g b : Nat} {wd : Int} {sl : List M} (h : CAt w P g b wd sl) (m : M) (hm : ∃ x ∈ sl, isOf m.f0.f1 m.f3 x) :
    Calls Try.prog 10 #[.pointer (some ⟨g, 0, none⟩), .agg (cM m).toArray] w fun e w' => e = .returned (.int .i64 8) ∧ Below w.heap.size w w' := by
  unfold cM c25
  have HB := hide ((Below.refl w.heap.size w).alloc (Nat.le_refl _) (.cells #[.int .i64 m.f0.f0, .int .i64 m.f0.f1, .int .i64 m.f0.f2, .int .i64 m.f1, .int .i64 m.f2, .int .i64 m.f3, .bool m.f4] 25))
  have HM := hide (Blk.new w 25 #[.int .i64 m.f0.f0, .int .i64 m.f0.f1, .int .i64 m.f0.f2, .int .i64 m.f1, .int .i64 m.f2, .int .i64 m.f3, .bool m.f4])
  have h1 := h.below HB.out
  have HN := hide (none_call h1.c1)
  have HMM := hide hm
  have HF := hide ((find_call m.f0.f1 m.f3 h1).mono (R' := fun e w' => (∃ d : Int, ∃ k : Nat, e = .returned (.tuple #[.int .i64 d, .int .i64 k, .bool true])) ∧ Below (w.alloc (.cells #[.int .i64 m.f0.f0, .int .i64 m.f0.f1, .int .i64 m.f0.f2, .int .i64 m.f1, .int .i64 m.f2, .int .i64 m.f3, .bool m.f4] 25)).heap.size (w.alloc (.cells #[.int .i64 m.f0.f0, .int .i64 m.f0.f1, .int .i64 m.f0.f2, .int .i64 m.f1, .int .i64 m.f2, .int .i64 m.f3, .bool m.f4] 25)) w') (fun e w' hh => ⟨by
    rcases hh.1 with ⟨_, q⟩ | ⟨d, k, _, _, e, _⟩
    · obtain ⟨x, hx, hq⟩ := HMM.out
      exact absurd hq (q x hx)
    · exact ⟨d, k, e⟩, hh.2⟩))
  have HG := hide (Blk.new w 25 #[.int .i64 m.f0.f0, .int .i64 m.f0.f1, .int .i64 m.f0.f2, .int .i64 m.f1, .int .i64 m.f2, .int .i64 m.f3, .bool m.f4])
  clear h h1 hm
  obtain ⟨W0, hW0⟩ : ∃ W0, w.alloc (.cells #[.int .i64 m.f0.f0, .int .i64 m.f0.f1, .int .i64 m.f0.f2, .int .i64 m.f1, .int .i64 m.f2, .int .i64 m.f3, .bool m.f4] 25) = W0 := ⟨_, rfl⟩
  rw [hW0] at HB HM HN HF
  have x0 : W0.cell? ⟨w.heap.size, 0, none⟩ = some (.int .i64 m.f0.f0) := HM.out.cell 0
  have x1 : W0.cell? ⟨w.heap.size, 1, none⟩ = some (.int .i64 m.f0.f1) := HM.out.cell 1
  have x2 : W0.cell? ⟨w.heap.size, 2, none⟩ = some (.int .i64 m.f0.f2) := HM.out.cell 2
  have x3 : W0.cell? ⟨w.heap.size, 3, none⟩ = some (.int .i64 m.f1) := HM.out.cell 3
  have x4 : W0.cell? ⟨w.heap.size, 4, none⟩ = some (.int .i64 m.f2) := HM.out.cell 4
  have x5 : W0.cell? ⟨w.heap.size, 5, none⟩ = some (.int .i64 m.f3) := HM.out.cell 5
  have x6 : W0.cell? ⟨w.heap.size, 6, none⟩ = some (.bool m.f4) := HM.out.cell 6
  go_enter Try.func10, Try.ntmps10
  go_wp2_with (first
    | (go_at_call 20; refine HN.out.mono ?_; rintro e w1 ⟨rfl, rfl⟩))
  refine HF.out.mono ?_
  rintro e w2 ⟨⟨d, k, rfl⟩, hb⟩
  have HB2 := hide (below_step HB.out hb)
  clear hb HB HF HN x0 x1 x2 x3 x4 x5 x6
  go_wp2_with fail
  go_ret
  exact ⟨rfl, HB2.out⟩
set_option maxHeartbeats 8000000 in
set_option maxRecDepth 100000 in
theorem push_full {w : World} {P : Nat → Prop} {g b : Nat} {wd : Int} {sl : List M} (h : CAt w P g b wd sl) (m : M) (hm : ∀ x ∈ sl, ¬ isOf m.f0.f1 m.f3 x) (hl : sl.length = 16384) :
    Calls Try.prog 10 #[.pointer (some ⟨g, 0, none⟩), .agg (cM m).toArray] w fun e w' => e = .returned (.int .i64 9) ∧ Below w.heap.size w w' := by
  unfold cM c25
  have HB := hide ((Below.refl w.heap.size w).alloc (Nat.le_refl _) (.cells #[.int .i64 m.f0.f0, .int .i64 m.f0.f1, .int .i64 m.f0.f2, .int .i64 m.f1, .int .i64 m.f2, .int .i64 m.f3, .bool m.f4] 25))
  have HM := hide (Blk.new w 25 #[.int .i64 m.f0.f0, .int .i64 m.f0.f1, .int .i64 m.f0.f2, .int .i64 m.f1, .int .i64 m.f2, .int .i64 m.f3, .bool m.f4])
  have h1 := h.below HB.out
  have HN := hide (none_call h1.c1)
  have HMM := hide hm
  have HF := hide ((find_call m.f0.f1 m.f3 h1).mono (R' := fun e w' => e = .returned (.tuple #[.int .i64 0, .int .i64 0, .bool false]) ∧ Below (w.alloc (.cells #[.int .i64 m.f0.f0, .int .i64 m.f0.f1, .int .i64 m.f0.f2, .int .i64 m.f1, .int .i64 m.f2, .int .i64 m.f3, .bool m.f4] 25)).heap.size (w.alloc (.cells #[.int .i64 m.f0.f0, .int .i64 m.f0.f1, .int .i64 m.f0.f2, .int .i64 m.f1, .int .i64 m.f2, .int .i64 m.f3, .bool m.f4] 25)) w') (fun e w' hh => ⟨by
    rcases hh.1 with ⟨e, _⟩ | ⟨d, k, hk, _, _, q⟩
    · exact e
    · exact absurd q (HMM.out _ (mem_row.1 (List.getElem_mem hk)).1), hh.2⟩))
  have HA := hide h1
  clear h h1 hm
  obtain ⟨W0, hW0⟩ : ∃ W0, w.alloc (.cells #[.int .i64 m.f0.f0, .int .i64 m.f0.f1, .int .i64 m.f0.f2, .int .i64 m.f1, .int .i64 m.f2, .int .i64 m.f3, .bool m.f4] 25) = W0 := ⟨_, rfl⟩
  rw [hW0] at HB HM HN HF HA
  have x0 : W0.cell? ⟨w.heap.size, 0, none⟩ = some (.int .i64 m.f0.f0) := HM.out.cell 0
  have x1 : W0.cell? ⟨w.heap.size, 1, none⟩ = some (.int .i64 m.f0.f1) := HM.out.cell 1
  have x2 : W0.cell? ⟨w.heap.size, 2, none⟩ = some (.int .i64 m.f0.f2) := HM.out.cell 2
  have x3 : W0.cell? ⟨w.heap.size, 3, none⟩ = some (.int .i64 m.f1) := HM.out.cell 3
  have x4 : W0.cell? ⟨w.heap.size, 4, none⟩ = some (.int .i64 m.f2) := HM.out.cell 4
  have x5 : W0.cell? ⟨w.heap.size, 5, none⟩ = some (.int .i64 m.f3) := HM.out.cell 5
  have x6 : W0.cell? ⟨w.heap.size, 6, none⟩ = some (.bool m.f4) := HM.out.cell 6
  go_enter Try.func10, Try.ntmps10
  go_wp2_with (first
    | (go_at_call 20; refine HN.out.mono ?_; rintro e w1 ⟨rfl, rfl⟩))
  refine HF.out.mono ?_
  rintro e w2 ⟨rfl, hb⟩
  have HB2 := hide (below_step HB.out hb)
  have c2 : w2.cell? ⟨g, 2, none⟩ = some (.int .i64 16384) := by rw [(HA.out.below hb).c2, hl]; rfl
  clear hb HB HF HN HA x0 x1 x2 x3 x4 x5 x6
  go_wp2_with fail
  go_ret
  exact ⟨rfl, HB2.out⟩
set_option maxHeartbeats 8000000 in
set_option maxRecDepth 100000 in
theorem push_new {w : World} {P : Nat → Prop} {g b : Nat} {wd : Int} {sl : List M} (h : CAt w P g b wd sl) (m : M) (hm : ∀ x ∈ sl, ¬ isOf m.f0.f1 m.f3 x) (hl : sl.length < 16384) (ht : wfI m.f0.f0) (hP : ∀ x, w.heap.size ≤ x → P x) :
    Calls Try.prog 10 #[.pointer (some ⟨g, 0, none⟩), .agg (cM m).toArray] w fun e w' => e = .returned (.int .i64 0) ∧ CAt w' P g b wd (ins befM sl m) ∧ Only w w' (fun x => x = g ∨ x = b) := by
  unfold cM c25
  have HB := hide ((Below.refl w.heap.size w).alloc (Nat.le_refl _) (.cells #[.int .i64 m.f0.f0, .int .i64 m.f0.f1, .int .i64 m.f0.f2, .int .i64 m.f1, .int .i64 m.f2, .int .i64 m.f3, .bool m.f4] 25))
  have HM := hide (Blk.new w 25 #[.int .i64 m.f0.f0, .int .i64 m.f0.f1, .int .i64 m.f0.f2, .int .i64 m.f1, .int .i64 m.f2, .int .i64 m.f3, .bool m.f4])
  have h1 := h.below HB.out
  have HN := hide (none_call h1.c1)
  have HMM := hide hm
  have HF := hide ((find_call m.f0.f1 m.f3 h1).mono (R' := fun e w' => e = .returned (.tuple #[.int .i64 0, .int .i64 0, .bool false]) ∧ Below (w.alloc (.cells #[.int .i64 m.f0.f0, .int .i64 m.f0.f1, .int .i64 m.f0.f2, .int .i64 m.f1, .int .i64 m.f2, .int .i64 m.f3, .bool m.f4] 25)).heap.size (w.alloc (.cells #[.int .i64 m.f0.f0, .int .i64 m.f0.f1, .int .i64 m.f0.f2, .int .i64 m.f1, .int .i64 m.f2, .int .i64 m.f3, .bool m.f4] 25)) w') (fun e w' hh => ⟨by
    rcases hh.1 with ⟨e, _⟩ | ⟨d, k, hk, _, _, q⟩
    · exact e
    · exact absurd q (HMM.out _ (mem_row.1 (List.getElem_mem hk)).1), hh.2⟩))
  have HA := hide (h.apart HB.out)
  have HH := hide h
  have HP := hide hP
  have HSZ : Hid ((w.alloc (.cells #[.int .i64 m.f0.f0, .int .i64 m.f0.f1, .int .i64 m.f0.f2, .int .i64 m.f1, .int .i64 m.f2, .int .i64 m.f3, .bool m.f4] 25)).heap.size = w.heap.size + 1) := hide (World.size_alloc _ _)
  clear h h1 hm hP
  obtain ⟨W0, hW0⟩ : ∃ W0, w.alloc (.cells #[.int .i64 m.f0.f0, .int .i64 m.f0.f1, .int .i64 m.f0.f2, .int .i64 m.f1, .int .i64 m.f2, .int .i64 m.f3, .bool m.f4] 25) = W0 := ⟨_, rfl⟩
  obtain ⟨gm, hgm⟩ : ∃ gm, w.heap.size = gm := ⟨_, rfl⟩
  have HGM := hide hgm
  rw [hW0] at HB HM HN HF HA HSZ
  rw [hgm] at HM HA HP HSZ
  have x0 : W0.cell? ⟨gm, 0, none⟩ = some (.int .i64 m.f0.f0) := HM.out.cell 0
  have x1 : W0.cell? ⟨gm, 1, none⟩ = some (.int .i64 m.f0.f1) := HM.out.cell 1
  have x2 : W0.cell? ⟨gm, 2, none⟩ = some (.int .i64 m.f0.f2) := HM.out.cell 2
  have x3 : W0.cell? ⟨gm, 3, none⟩ = some (.int .i64 m.f1) := HM.out.cell 3
  have x4 : W0.cell? ⟨gm, 4, none⟩ = some (.int .i64 m.f2) := HM.out.cell 4
  have x5 : W0.cell? ⟨gm, 5, none⟩ = some (.int .i64 m.f3) := HM.out.cell 5
  have x6 : W0.cell? ⟨gm, 6, none⟩ = some (.bool m.f4) := HM.out.cell 6
  go_enter Try.func10, Try.ntmps10
  go_wp2_with (first
    | (go_at_call 20; refine HN.out.mono ?_; rintro e w1 ⟨rfl, rfl⟩))
  refine HF.out.mono ?_
  rintro e w2 ⟨rfl, hb⟩
  have HBW := hide hb
  have HM2 := hide (HM.out.below' hb)
  have HA2 := hide (HA.out.below hb)
  clear hb HF HN x0 x1 x2 x3 x4 x5 x6 hW0 hgm
  have c0 := HA2.out.c0
  have c1 := HA2.out.c1
  have c2 := HA2.out.c2
  have hl14 : (sl.length : Int) < 16384 := by omega
  obtain ⟨d, hd⟩ : ∃ d, m.f0.f0 / wd = d := ⟨_, rfl⟩
  have HDC := hide (day_call HA2.out.wd1 ht c0)
  rw [hd] at HDC
  have HWD : Hid (wfI d) := hide (by rw [← hd]; exact wfI_day HA2.out.wd1 ht)
  obtain ⟨A, c, hlook, hcap, hC, hFr⟩ := Days.look HA2.out.days HWD.out
  have hll := row_le wd sl d
  have HSR := hide (row_srt (wd := wd) HA2.out.srt d)
  have HMR : Hid (∀ x ∈ row wd sl d, ¬ isOf m.f0.f1 m.f3 x) := hide (fun x hx => HMM.out x (mem_row.1 hx).1)
  have HROW : Hid (row wd sl d = row wd sl d) := hide rfl
  obtain ⟨l, hlq⟩ : ∃ l, row wd sl d = l := ⟨_, rfl⟩
  have HLQ := hide hlq
  rw [hlq] at hlook hcap hC hll HSR HMR
  have HC2 := hide hC
  have HCP := hide hcap
  have HLL := hide hll
  have HHD := hide hd
  have HPL := hide (place_call A c l hcap (by omega) m w2 hC)
  have y0 : w2.cell? ⟨gm, 0, none⟩ = some (.int .i64 m.f0.f0) := HM2.out.cell 0
  have y1 : w2.cell? ⟨gm, 1, none⟩ = some (.int .i64 m.f0.f1) := HM2.out.cell 1
  have y2 : w2.cell? ⟨gm, 2, none⟩ = some (.int .i64 m.f0.f2) := HM2.out.cell 2
  have y3 : w2.cell? ⟨gm, 3, none⟩ = some (.int .i64 m.f1) := HM2.out.cell 3
  have y4 : w2.cell? ⟨gm, 4, none⟩ = some (.int .i64 m.f2) := HM2.out.cell 4
  have y5 : w2.cell? ⟨gm, 5, none⟩ = some (.int .i64 m.f3) := HM2.out.cell 5
  have y6 : w2.cell? ⟨gm, 6, none⟩ = some (.bool m.f4) := HM2.out.cell 6
  clear hC hcap hll hlq hd hFr HROW
  go_wp2_with (first
    | (go_at_call 22; refine HDC.out.mono ?_; rintro e w3 ⟨rfl, rfl⟩))
  refine HPL.out.mono ?_
  rintro e w3 ⟨rfl, hb⟩
  have HBW3 := hide (below_step HBW.out hb)
  have HM3 := hide (HM2.out.below' hb)
  have HC3 := hide (C_below HC2.out hb)
  clear hb HPL HDC HM2 HC2 HBW y0 y1 y2 y3 y4 y5 y6 c0 c1 c2 hlook
  obtain ⟨k0, hk0⟩ : ∃ k0, (l.filter (befM · m)).length = k0 := ⟨_, rfl⟩
  have hpl : plc l m = (k0 : Int) := by unfold plc; rw [hk0]
  have hk0l : k0 ≤ l.length := by rw [← hk0]; exact List.length_filter_le _ _
  have HAH : Hid (∀ i (hi : i < l.length), i < k0 → befM m l[i] = false) := hide (fun i hi hk => ahead_ok HSR.out m hi (by rw [hk0]; exact hk))
  rw [hpl]
  clear hk0 hpl
  have hl5 : (l.length : Int) ≤ 16384 := by have := HLL.out; omega
  go_wp2_with fail
  go_loopw [10] (fun iv wr => ∃ k : Nat, k ≤ l.length ∧ iv = .int .i64 k ∧ Hid (∀ i (hi : i < l.length), i < k → befM m l[i] = false) ∧ Hid (Below w3.heap.size w3 wr)) (fun iv _ => l.length - (intOf iv).toNat)
  case atStart => exact ⟨k0, hk0l, rfl, HAH, hide (Below.refl _ _)⟩
  case round =>
    obtain ⟨k, hk, rfl, HT, HB⟩ := hrel
    clear HAH hk0l
    have HMk := hide (HM3.out.below' HB.out)
    have hcap := HCP.out
    by_cases hlt : k < l.length
    · have b1 : (k : Int) < (l.length : Int) := by omega
      obtain ⟨ad, rfl, q0, q1, q2, q3, q4, q5, q6⟩ := at_S25 (C_below HC3.out HB.out) hlt
      obtain ⟨t, ht⟩ : ∃ t, l[k] = t := ⟨_, rfl⟩
      have HTT := hide ht
      rw [ht] at q0 q1 q2 q3 q4 q5 q6
      have q0 := cg q0; have q1 := cg q1; have q2 := cg q2; have q3 := cg q3; have q4 := cg q4; have q5 := cg q5; have q6 := cg q6
      have p0 := cg ((HMk.out.cell 0 : _ = some (Value.int .i64 m.f0.f0)))
      have p1 := cg ((HMk.out.cell 1 : _ = some (Value.int .i64 m.f0.f1)))
      have p2 := cg ((HMk.out.cell 2 : _ = some (Value.int .i64 m.f0.f2)))
      have p3 := cg ((HMk.out.cell 3 : _ = some (Value.int .i64 m.f1)))
      have p4 := cg ((HMk.out.cell 4 : _ = some (Value.int .i64 m.f2)))
      have p5 := cg ((HMk.out.cell 5 : _ = some (Value.int .i64 m.f3)))
      have p6 := cg ((HMk.out.cell 6 : _ = some (Value.bool m.f4)))
      have hcall := gr_call (before_call m t) wr
      unfold c25 at hcall
      have g1 : decide ((k : Int) < (l.length : Int)) = true := decide_eq_true b1
      have g1n : decide (k < l.length) = true := decide_eq_true hlt
      clear ht hcap
      have hmo : Try.prog.follows .mixedOrders = true := by kernel_rfl
      cases hb : befM m t
      · rw [hb] at hcall
        have HT2 : Hid (∀ i (hi : i < l.length), i < k + 1 → befM m l[i] = false) := hide (fun i hi h => by
          rcases Nat.lt_or_ge i k with e | e
          · exact HT.out i hi e
          · obtain rfl : i = k := by omega
            rw [HTT.out]; exact hb)
        go_wp2_with fail
        go_quiet_grown ((go_at_call 24; exact hcall _ _))
        have HB2 := hide (below_step HB.out (Gr.of (w := wr) nq osq).below)
        generalize grow (wr.drewN nq) osq = w4 at HB2 ⊢
        clear q0 q1 q2 q3 q4 q5 q6 p0 p1 p2 p3 p4 p5 p6 hcall
        go_wp2_with fail
        go_roundw
        case rel => exact ⟨k + 1, by omega, by go_num, HT2, HB2⟩
        case measure => simp [intOf]; omega
      · rw [hb] at hcall
        go_wp2_with fail
        go_quiet_grown ((go_at_call 24; exact hcall _ _))
        have HB4 := hide (below_step HB.out (Gr.of (w := wr) nq osq).below)
        generalize grow (wr.drewN nq) osq = w4 at HB4 ⊢
        clear q0 q1 q2 q3 q4 q5 q6 p0 p1 p2 p3 p4 p5 p6 hcall HMk HB
        have HINS : Hid (ins befM l m = l.take k ++ m :: l.drop k) := hide (ins_at HSR.out m hk HT.out (fun _ => by rw [HTT.out]; exact hb))
        clear hb HTT HT g1 g1n
        have HBA : Hid (Below w1.heap.size w1 w4) := hide (below_step HBW3.out HB4.out)
        have HM4 := hide (HM3.out.below' HB4.out)
        have HC4 := hide (C_below HC3.out HB4.out)
        clear HB4 HM3 HC3 HBW3
        have HK := hide hk
        obtain ⟨n1, hn1⟩ : ∃ n1, l.length + 1 = n1 := ⟨_, rfl⟩
        have HN1 := hide hn1
        have hn14 : n1 ≤ 16385 := by have := HLL.out; omega
        obtain ⟨k1, hk1⟩ : ∃ k1, k + 1 = k1 := ⟨_, rfl⟩
        have HK1 := hide hk1
        have d1 : (k : Int) ≤ (c : Int) := by have := HCP.out; omega
        have d2 : (l.length : Int) ≤ (c : Int) := by have := HCP.out; omega
        have d3 : (k : Int) ≤ (l.length : Int) := by omega
        have d4 : (k1 : Int) ≤ (n1 : Int) := by omega
        have d5 : (k : Int) < (n1 : Int) := by omega
        have HKN : Hid (k < n1) := hide (by omega)
        have HL5 : Hid ((List.replicate n1 (default : M)).length = n1) := hide (by simp)
        obtain ⟨L5, hL5⟩ : ∃ L5, List.replicate n1 (default : M) = L5 := ⟨_, rfl⟩
        rw [hL5] at HL5
        have HK16 : Hid (k ≤ n1 ∧ 0 + k ≤ L5.length ∧ n1 ≤ 4194304) := hide (by have := HL5.out; omega)
        have HF6 : Hid ((splice L5 0 (l.take k)).length = n1) := hide (by
          rw [length_splice _ _ _ (by rw [List.length_take]; have := HL5.out; have := HKN.out; omega)]
          exact HL5.out)
        obtain ⟨L6, hL6⟩ : ∃ L6, splice L5 0 (l.take k) = L6 := ⟨_, rfl⟩
        rw [hL6] at HF6
        obtain ⟨t6, ht6⟩ : ∃ t6, L6[k]'(by rw [HF6.out]; exact HKN.out) = t6 := ⟨_, rfl⟩
        have HT6 := hide ht6
        have HL8 : Hid (splice (L6.set k m) k1 (l.drop k) = ins befM l m) := hide (by
          rw [HINS.out, ← hL6, ← HK1.out]
          exact splice_put (by have := HL5.out; have := HN1.out; omega) HK.out)
        have HX5 := hide hL5
        have HX6 := hide hL6
        have HSF : Hid (k1 + (l.length - k) ≤ (L6.set k m).length ∧ l.length - k ≤ n1 - k1) := hide (by rw [List.length_set, HF6.out]; have := HN1.out; have := HK1.out; have := HK.out; omega)
        have hz8 : (L6.set k m).length = n1 := by rw [List.length_set]; exact HF6.out
        have HZ8 := hide hz8
        clear hL5 hL6 hn1 hk1 ht6 hn14 HINS hz8 hk hl5
        have hne1 : n1 ≠ k1 := by have := HN1.out; have := HK1.out; omega
        have hne2 : c ≠ k := by have := HCP.out; omega
        have HD8 := hide (fun (w : World) (h : Kd.C kM w (some ad) l.length l) => C_drop h rfl (m := k) HK.out HCP.out (c := c))
        have wr1 : wrap64 ((l.length : Int) + 1) = (n1 : Int) := by rw [IntWalk.wrap64_in _ (by have := HN1.out; have := HLL.out; omega)]; have := HN1.out; omega
        have wr2 : wrap64 ((k : Int) + 1) = (k1 : Int) := by rw [IntWalk.wrap64_in _ (by have := HK.out; have := HLL.out; omega)]; have := HK1.out; omega
        have wr1b : IntKind.i64.wrap ((l.length : Int) + 1) = (n1 : Int) := by rw [i64_w]; exact wr1
        have wr2b : IntKind.i64.wrap ((k : Int) + 1) = (k1 : Int) := by rw [i64_w]; exact wr2
        have infoSz : (Try.prog.info? 25).map (·.size) = some 7 := by kernel_rfl
        obtain ⟨w5, hmake, hown, hb5⟩ := run_makeM w4 n1 HK16.out.2.2
        rw [HX5.out] at hown
        have HO5 : Hid (OwnM w5 w4.heap.size (.slice (some ⟨w4.heap.size, 0, none⟩) L5.length n1) L5) := hide (by rw [HL5.out]; exact hown)
        have HB5 := hide hb5
        have HC5 := hide (C_below HC4.out hb5)
        clear hown hb5
        obtain ⟨w6, hcopy, hown6, hO6⟩ := run_copyK (P := Try.prog) flatM rfl k25_open 26 26 3 Try.underlying26 infoSz HO5.out (some ⟨w4.heap.size, 0, none⟩) (some ad) n1 n1 k k (l.take k) (C_take HC5.out HK.out) HK16.out.1 0 HK16.out.2.1 (fun _ => rfl)
        rw [HX6.out] at hown6
        have HO6 : Hid (OwnM w6 w4.heap.size (.slice (some ⟨w4.heap.size, 0, none⟩) L6.length n1) L6) := hide ((HF6.out.trans HL5.out.symm) ▸ hown6)
        have HB6 : Hid (Below w4.heap.size w4 w6) := hide (HB5.out.trans (hO6.below HB5.out.size (fun i e => Nat.le_of_eq e.symm)))
        have HM6 := hide (HM4.out.below' HB6.out)
        obtain ⟨q0, q1, q2, q3, q4, q5, q6, f0, f1, f2, f3, f4, f5, f6⟩ := own_at HO6.out HF6.out HKN.out HT6.out
        have p0 : w6.cell? ⟨gm, 0, none⟩ = some (.int .i64 m.f0.f0) := HM6.out.cell 0
        have p1 : w6.cell? ⟨gm, 1, none⟩ = some (.int .i64 m.f0.f1) := HM6.out.cell 1
        have p2 : w6.cell? ⟨gm, 2, none⟩ = some (.int .i64 m.f0.f2) := HM6.out.cell 2
        have p3 : w6.cell? ⟨gm, 3, none⟩ = some (.int .i64 m.f1) := HM6.out.cell 3
        have p4 : w6.cell? ⟨gm, 4, none⟩ = some (.int .i64 m.f2) := HM6.out.cell 4
        have p5 : w6.cell? ⟨gm, 5, none⟩ = some (.int .i64 m.f3) := HM6.out.cell 5
        have p6 : w6.cell? ⟨gm, 6, none⟩ = some (.bool m.f4) := HM6.out.cell 6
        clear hown6 hO6 HO5 HB5 HC5
        go_wp2_with fail
        have hch : (((((((w6.setCell ⟨w4.heap.size, k * 7, none⟩ (.int .i64 m.f0.f0)).setCell ⟨w4.heap.size, k * 7 + 1, none⟩ (.int .i64 m.f0.f1)).setCell ⟨w4.heap.size, k * 7 + 2, none⟩ (.int .i64 m.f0.f2)).setCell ⟨w4.heap.size, k * 7 + 3, none⟩ (.int .i64 m.f1)).setCell ⟨w4.heap.size, k * 7 + 4, none⟩ (.int .i64 m.f2)).setCell ⟨w4.heap.size, k * 7 + 5, none⟩ (.int .i64 m.f3)).setCell ⟨w4.heap.size, k * 7 + 6, none⟩ (.bool m.f4)) = w6.setCells w4.heap.size (k * 7) (c25 m) := rfl
        rw [hch]
        obtain ⟨hp1, hp2⟩ := own_put HO6.out flatM k m (by rw [HF6.out]; exact HKN.out)
        have HB7 : Hid (Below w4.heap.size w4 (w6.setCells w4.heap.size (k * 7) (c25 m))) := hide (HB6.out.trans (hp2.below HB6.out.size (fun i e => Nat.le_of_eq e.symm)))
        have HO7 : Hid (OwnM (w6.setCells w4.heap.size (k * 7) (c25 m)) w4.heap.size (.slice (some ⟨w4.heap.size, 0, none⟩) (L6.set k m).length n1) (L6.set k m)) := hide ((HF6.out.trans HZ8.out.symm) ▸ hp1)
        clear hch hp1 hp2 HO6 HB6 HM6 q0 q1 q2 q3 q4 q5 q6 f0 f1 f2 f3 f4 f5 f6 p0 p1 p2 p3 p4 p5 p6 HT6 hmake hcopy
        generalize w6.setCells w4.heap.size (k * 7) (c25 m) = w7 at HB7 HO7 ⊢
        have HA7 := hide (HA.out.below (below_step HBA.out HB7.out))
        have r1 : w7.cell? ⟨g, 1, none⟩ = some (.map (some b)) := HA7.out.c1
        have r1d : w7.drew.cell? ⟨g, 1, none⟩ = some (.map (some b)) := HA7.out.c1
        have HC7 := hide (C_below HC4.out (HB7.out.trans (below_drewN (Below.refl w7.heap.size w7) 1 |>.mono HB7.out.size)))
        have HCD : Hid (Kd.C kM w7.drew (some (ad.add (k * 7))) (l.length - k) (l.drop k)) := hide (by have h := HD8.out _ HC7.out; rw [if_neg hne2] at h; exact h)
        have HFIN := hide (fun (w8 : World) (hown : OwnM w8 w4.heap.size (.slice (some ⟨w4.heap.size, 0, none⟩) (L6.set k m).length n1) (ins befM l m)) (hO : Only w7.drew w8 (fun x => x = w4.heap.size)) => push_fin HH.out HB.out HA.out HGM.out HSZ.out HP.out HBA.out (HB7.out.trans (below_drewN (Below.refl w7.heap.size w7) 1 |>.mono HB7.out.size)) hown hO HZ8.out HN1.out (n := n1) (d := d) HLQ.out HHD.out HWD.out HMM.out ht hl)
        clear HC4 HC7 HA7 HB7 HBA HA hl ht
        go_region_held3 (fun w' => w'.cell? ⟨g, 1, none⟩ = some (.map (some b))) (first | exact (by assumption) | go_keep) (first
          | (refine step_copyK flatM rfl k25_open rfl (.tmp 77) (.tmp 80) 26 26 rfl Try.underlying26 infoSz HO7.out _ _ _ _ _ _ rfl rfl (l.drop k) HCD.out HSF.out.2 k1 HSF.out.1 (fun _ => rfl) ?_; intro w8 hown8 hO8; rw [HL8.out] at hown8; obtain ⟨w9, hup, s1, s2, s3, s4, HE9⟩ := HFIN.out w8 hown8 hO8; clear hown8 hO8))
        all_goals (
          clear HFIN HO7 r1 r1d
          go_wp2_with fail
          go_ret
          exact ⟨rfl, HE9.out⟩)
    · have b1 : ¬ (k : Int) < (l.length : Int) := by omega
      have g1 : decide ((k : Int) < (l.length : Int)) = false := decide_eq_false b1
      have g1n : decide (k < l.length) = false := decide_eq_false hlt
      have hkl : k = l.length := by omega
      have HINS : Hid (ins befM l m = l.take k ++ m :: l.drop k) := hide (ins_at HSR.out m hk HT.out (fun h => absurd h hlt))
      go_wp2_with fail
      go_quiet (fail)
      have HB4 := hide (below_step HB.out (below_drewN (Below.refl _ _) nq))
      generalize wr.drewN nq = w4 at HB4 ⊢
      clear HMk HB HT
      obtain rfl : k = l.length := hkl
      by_cases hcc : c = l.length
      · skip
        have HBA : Hid (Below w1.heap.size w1 w4) := hide (below_step HBW3.out HB4.out)
        have HM4 := hide (HM3.out.below' HB4.out)
        have HC4 := hide (C_below HC3.out HB4.out)
        clear HB4 HM3 HC3 HBW3
        have HK := hide hk
        obtain ⟨n1, hn1⟩ : ∃ n1, l.length + 1 = n1 := ⟨_, rfl⟩
        have HN1 := hide hn1
        have hn14 : n1 ≤ 16385 := by have := HLL.out; omega
        have HK1 := hide hn1
        have d1 : (l.length : Int) ≤ (c : Int) := by have := HCP.out; omega
        have d2 : (l.length : Int) ≤ (c : Int) := by have := HCP.out; omega
        have d3 : (l.length : Int) ≤ (l.length : Int) := by omega
        have d4 : (n1 : Int) ≤ (n1 : Int) := by omega
        have d5 : (l.length : Int) < (n1 : Int) := by omega
        have HKN : Hid (l.length < n1) := hide (by omega)
        have HL5 : Hid ((List.replicate n1 (default : M)).length = n1) := hide (by simp)
        obtain ⟨L5, hL5⟩ : ∃ L5, List.replicate n1 (default : M) = L5 := ⟨_, rfl⟩
        rw [hL5] at HL5
        have HK16 : Hid (l.length ≤ n1 ∧ 0 + l.length ≤ L5.length ∧ n1 ≤ 4194304) := hide (by have := HL5.out; omega)
        have HF6 : Hid ((splice L5 0 (l.take l.length)).length = n1) := hide (by
          rw [length_splice _ _ _ (by rw [List.length_take]; have := HL5.out; have := HKN.out; omega)]
          exact HL5.out)
        obtain ⟨L6, hL6⟩ : ∃ L6, splice L5 0 (l.take l.length) = L6 := ⟨_, rfl⟩
        rw [hL6] at HF6
        obtain ⟨t6, ht6⟩ : ∃ t6, L6[l.length]'(by rw [HF6.out]; exact HKN.out) = t6 := ⟨_, rfl⟩
        have HT6 := hide ht6
        have HL8 : Hid (splice (L6.set l.length m) n1 (l.drop l.length) = ins befM l m) := hide (by
          rw [HINS.out, ← hL6, ← HK1.out]
          exact splice_put (by have := HL5.out; have := HN1.out; omega) HK.out)
        have HX5 := hide hL5
        have HX6 := hide hL6
        have HSF : Hid (n1 + (l.length - l.length) ≤ (L6.set l.length m).length ∧ l.length - l.length ≤ n1 - n1) := hide (by rw [List.length_set, HF6.out]; have := HN1.out; have := HK1.out; have := HK.out; omega)
        have hz8 : (L6.set l.length m).length = n1 := by rw [List.length_set]; exact HF6.out
        have HZ8 := hide hz8
        clear hL5 hL6 hn1  ht6 hn14 HINS hz8 hk hl5
        have hne2 : c = l.length := hcc
        have hz0 : l.length - l.length = 0 := Nat.sub_self _
        have HDN : Hid (l.drop l.length = []) := hide List.drop_length
        have wr1 : wrap64 ((l.length : Int) + 1) = (n1 : Int) := by rw [IntWalk.wrap64_in _ (by have := HN1.out; have := HLL.out; omega)]; have := HN1.out; omega
        have wr1b : IntKind.i64.wrap ((l.length : Int) + 1) = (n1 : Int) := by rw [i64_w]; exact wr1
        have infoSz : (Try.prog.info? 25).map (·.size) = some 7 := by kernel_rfl
        obtain ⟨w5, hmake, hown, hb5⟩ := run_makeM w4 n1 HK16.out.2.2
        rw [HX5.out] at hown
        have HO5 : Hid (OwnM w5 w4.heap.size (.slice (some ⟨w4.heap.size, 0, none⟩) L5.length n1) L5) := hide (by rw [HL5.out]; exact hown)
        have HB5 := hide hb5
        have HC5 := hide (C_below HC4.out hb5)
        clear hown hb5
        obtain ⟨w6, hcopy, hown6, hO6⟩ := run_copyK (P := Try.prog) flatM rfl k25_open 26 26 3 Try.underlying26 infoSz HO5.out (some ⟨w4.heap.size, 0, none⟩) A n1 n1 l.length l.length (l.take l.length) (C_take HC5.out HK.out) HK16.out.1 0 HK16.out.2.1 (fun _ => rfl)
        rw [HX6.out] at hown6
        have HO6 : Hid (OwnM w6 w4.heap.size (.slice (some ⟨w4.heap.size, 0, none⟩) L6.length n1) L6) := hide ((HF6.out.trans HL5.out.symm) ▸ hown6)
        have HB6 : Hid (Below w4.heap.size w4 w6) := hide (HB5.out.trans (hO6.below HB5.out.size (fun i e => Nat.le_of_eq e.symm)))
        have HM6 := hide (HM4.out.below' HB6.out)
        obtain ⟨q0, q1, q2, q3, q4, q5, q6, f0, f1, f2, f3, f4, f5, f6⟩ := own_at HO6.out HF6.out HKN.out HT6.out
        have p0 : w6.cell? ⟨gm, 0, none⟩ = some (.int .i64 m.f0.f0) := HM6.out.cell 0
        have p1 : w6.cell? ⟨gm, 1, none⟩ = some (.int .i64 m.f0.f1) := HM6.out.cell 1
        have p2 : w6.cell? ⟨gm, 2, none⟩ = some (.int .i64 m.f0.f2) := HM6.out.cell 2
        have p3 : w6.cell? ⟨gm, 3, none⟩ = some (.int .i64 m.f1) := HM6.out.cell 3
        have p4 : w6.cell? ⟨gm, 4, none⟩ = some (.int .i64 m.f2) := HM6.out.cell 4
        have p5 : w6.cell? ⟨gm, 5, none⟩ = some (.int .i64 m.f3) := HM6.out.cell 5
        have p6 : w6.cell? ⟨gm, 6, none⟩ = some (.bool m.f4) := HM6.out.cell 6
        clear hown6 hO6 HO5 HB5 HC5
        go_wp2_with fail
        have hch : (((((((w6.setCell ⟨w4.heap.size, l.length * 7, none⟩ (.int .i64 m.f0.f0)).setCell ⟨w4.heap.size, l.length * 7 + 1, none⟩ (.int .i64 m.f0.f1)).setCell ⟨w4.heap.size, l.length * 7 + 2, none⟩ (.int .i64 m.f0.f2)).setCell ⟨w4.heap.size, l.length * 7 + 3, none⟩ (.int .i64 m.f1)).setCell ⟨w4.heap.size, l.length * 7 + 4, none⟩ (.int .i64 m.f2)).setCell ⟨w4.heap.size, l.length * 7 + 5, none⟩ (.int .i64 m.f3)).setCell ⟨w4.heap.size, l.length * 7 + 6, none⟩ (.bool m.f4)) = w6.setCells w4.heap.size (l.length * 7) (c25 m) := rfl
        rw [hch]
        obtain ⟨hp1, hp2⟩ := own_put HO6.out flatM l.length m (by rw [HF6.out]; exact HKN.out)
        have HB7 : Hid (Below w4.heap.size w4 (w6.setCells w4.heap.size (l.length * 7) (c25 m))) := hide (HB6.out.trans (hp2.below HB6.out.size (fun i e => Nat.le_of_eq e.symm)))
        have HO7 : Hid (OwnM (w6.setCells w4.heap.size (l.length * 7) (c25 m)) w4.heap.size (.slice (some ⟨w4.heap.size, 0, none⟩) (L6.set l.length m).length n1) (L6.set l.length m)) := hide ((HF6.out.trans HZ8.out.symm) ▸ hp1)
        clear hch hp1 hp2 HO6 HB6 HM6 q0 q1 q2 q3 q4 q5 q6 f0 f1 f2 f3 f4 f5 f6 p0 p1 p2 p3 p4 p5 p6 HT6 hmake hcopy
        generalize w6.setCells w4.heap.size (l.length * 7) (c25 m) = w7 at HB7 HO7 ⊢
        have HA7 := hide (HA.out.below (below_step HBA.out HB7.out))
        have r1 : w7.cell? ⟨g, 1, none⟩ = some (.map (some b)) := HA7.out.c1
        have r1d : w7.drew.cell? ⟨g, 1, none⟩ = some (.map (some b)) := HA7.out.c1
        have HC7 := hide (C_below HC4.out (HB7.out.trans (below_drewN (Below.refl w7.heap.size w7) 1 |>.mono HB7.out.size)))
        
        have HFIN := hide (fun (w8 : World) (hown : OwnM w8 w4.heap.size (.slice (some ⟨w4.heap.size, 0, none⟩) (L6.set l.length m).length n1) (ins befM l m)) (hO : Only w7.drew w8 (fun x => x = w4.heap.size)) => push_fin HH.out HB.out HA.out HGM.out HSZ.out HP.out HBA.out (HB7.out.trans (below_drewN (Below.refl w7.heap.size w7) 1 |>.mono HB7.out.size)) hown hO HZ8.out HN1.out (n := n1) (d := d) HLQ.out HHD.out HWD.out HMM.out ht hl)
        clear HC4 HC7 HA7 HB7 HBA HA hl ht
        go_region_held3 (fun w' => w'.cell? ⟨g, 1, none⟩ = some (.map (some b))) (first | exact (by assumption) | go_keep) (first
          | (refine step_copyK flatM rfl k25_open rfl (.tmp 77) (.tmp 80) 26 26 rfl Try.underlying26 infoSz HO7.out _ _ _ _ _ _ rfl rfl ([] : List M) ⟨rfl, by simp, fun h => absurd h (by simp)⟩ (Nat.zero_le _) n1 (by rw [HZ8.out]; exact Nat.le_refl _) (fun h => absurd h (Nat.lt_irrefl 0)) ?_; intro w8 hown8 hO8; rw [← HDN.out, HL8.out] at hown8; obtain ⟨w9, hup, s1, s2, s3, s4, HE9⟩ := HFIN.out w8 hown8 hO8; clear hown8 hO8))
        all_goals (
          clear HFIN HO7 r1 r1d
          go_wp2_with fail
          go_ret
          exact ⟨rfl, HE9.out⟩)
      · skip
        have HBA : Hid (Below w1.heap.size w1 w4) := hide (below_step HBW3.out HB4.out)
        have HM4 := hide (HM3.out.below' HB4.out)
        have HC4 := hide (C_below HC3.out HB4.out)
        clear HB4 HM3 HC3 HBW3
        have HK := hide hk
        obtain ⟨n1, hn1⟩ : ∃ n1, l.length + 1 = n1 := ⟨_, rfl⟩
        have HN1 := hide hn1
        have hn14 : n1 ≤ 16385 := by have := HLL.out; omega
        have HK1 := hide hn1
        have d1 : (l.length : Int) ≤ (c : Int) := by have := HCP.out; omega
        have d2 : (l.length : Int) ≤ (c : Int) := by have := HCP.out; omega
        have d3 : (l.length : Int) ≤ (l.length : Int) := by omega
        have d4 : (n1 : Int) ≤ (n1 : Int) := by omega
        have d5 : (l.length : Int) < (n1 : Int) := by omega
        have HKN : Hid (l.length < n1) := hide (by omega)
        have HL5 : Hid ((List.replicate n1 (default : M)).length = n1) := hide (by simp)
        obtain ⟨L5, hL5⟩ : ∃ L5, List.replicate n1 (default : M) = L5 := ⟨_, rfl⟩
        rw [hL5] at HL5
        have HK16 : Hid (l.length ≤ n1 ∧ 0 + l.length ≤ L5.length ∧ n1 ≤ 4194304) := hide (by have := HL5.out; omega)
        have HF6 : Hid ((splice L5 0 (l.take l.length)).length = n1) := hide (by
          rw [length_splice _ _ _ (by rw [List.length_take]; have := HL5.out; have := HKN.out; omega)]
          exact HL5.out)
        obtain ⟨L6, hL6⟩ : ∃ L6, splice L5 0 (l.take l.length) = L6 := ⟨_, rfl⟩
        rw [hL6] at HF6
        obtain ⟨t6, ht6⟩ : ∃ t6, L6[l.length]'(by rw [HF6.out]; exact HKN.out) = t6 := ⟨_, rfl⟩
        have HT6 := hide ht6
        have HL8 : Hid (splice (L6.set l.length m) n1 (l.drop l.length) = ins befM l m) := hide (by
          rw [HINS.out, ← hL6, ← HK1.out]
          exact splice_put (by have := HL5.out; have := HN1.out; omega) HK.out)
        have HX5 := hide hL5
        have HX6 := hide hL6
        have HSF : Hid (n1 + (l.length - l.length) ≤ (L6.set l.length m).length ∧ l.length - l.length ≤ n1 - n1) := hide (by rw [List.length_set, HF6.out]; have := HN1.out; have := HK1.out; have := HK.out; omega)
        have hz8 : (L6.set l.length m).length = n1 := by rw [List.length_set]; exact HF6.out
        have HZ8 := hide hz8
        clear hL5 hL6 hn1  ht6 hn14 HINS hz8 hk hl5
        have hne2 : c ≠ l.length := hcc
        have hz0 : l.length - l.length = 0 := Nat.sub_self _
        have HDN : Hid (l.drop l.length = []) := hide List.drop_length
        have wr1 : wrap64 ((l.length : Int) + 1) = (n1 : Int) := by rw [IntWalk.wrap64_in _ (by have := HN1.out; have := HLL.out; omega)]; have := HN1.out; omega
        have wr1b : IntKind.i64.wrap ((l.length : Int) + 1) = (n1 : Int) := by rw [i64_w]; exact wr1
        have infoSz : (Try.prog.info? 25).map (·.size) = some 7 := by kernel_rfl
        obtain ⟨w5, hmake, hown, hb5⟩ := run_makeM w4 n1 HK16.out.2.2
        rw [HX5.out] at hown
        have HO5 : Hid (OwnM w5 w4.heap.size (.slice (some ⟨w4.heap.size, 0, none⟩) L5.length n1) L5) := hide (by rw [HL5.out]; exact hown)
        have HB5 := hide hb5
        have HC5 := hide (C_below HC4.out hb5)
        clear hown hb5
        obtain ⟨w6, hcopy, hown6, hO6⟩ := run_copyK (P := Try.prog) flatM rfl k25_open 26 26 3 Try.underlying26 infoSz HO5.out (some ⟨w4.heap.size, 0, none⟩) A n1 n1 l.length l.length (l.take l.length) (C_take HC5.out HK.out) HK16.out.1 0 HK16.out.2.1 (fun _ => rfl)
        rw [HX6.out] at hown6
        have HO6 : Hid (OwnM w6 w4.heap.size (.slice (some ⟨w4.heap.size, 0, none⟩) L6.length n1) L6) := hide ((HF6.out.trans HL5.out.symm) ▸ hown6)
        have HB6 : Hid (Below w4.heap.size w4 w6) := hide (HB5.out.trans (hO6.below HB5.out.size (fun i e => Nat.le_of_eq e.symm)))
        have HM6 := hide (HM4.out.below' HB6.out)
        obtain ⟨q0, q1, q2, q3, q4, q5, q6, f0, f1, f2, f3, f4, f5, f6⟩ := own_at HO6.out HF6.out HKN.out HT6.out
        have p0 : w6.cell? ⟨gm, 0, none⟩ = some (.int .i64 m.f0.f0) := HM6.out.cell 0
        have p1 : w6.cell? ⟨gm, 1, none⟩ = some (.int .i64 m.f0.f1) := HM6.out.cell 1
        have p2 : w6.cell? ⟨gm, 2, none⟩ = some (.int .i64 m.f0.f2) := HM6.out.cell 2
        have p3 : w6.cell? ⟨gm, 3, none⟩ = some (.int .i64 m.f1) := HM6.out.cell 3
        have p4 : w6.cell? ⟨gm, 4, none⟩ = some (.int .i64 m.f2) := HM6.out.cell 4
        have p5 : w6.cell? ⟨gm, 5, none⟩ = some (.int .i64 m.f3) := HM6.out.cell 5
        have p6 : w6.cell? ⟨gm, 6, none⟩ = some (.bool m.f4) := HM6.out.cell 6
        clear hown6 hO6 HO5 HB5 HC5
        go_wp2_with fail
        have hch : (((((((w6.setCell ⟨w4.heap.size, l.length * 7, none⟩ (.int .i64 m.f0.f0)).setCell ⟨w4.heap.size, l.length * 7 + 1, none⟩ (.int .i64 m.f0.f1)).setCell ⟨w4.heap.size, l.length * 7 + 2, none⟩ (.int .i64 m.f0.f2)).setCell ⟨w4.heap.size, l.length * 7 + 3, none⟩ (.int .i64 m.f1)).setCell ⟨w4.heap.size, l.length * 7 + 4, none⟩ (.int .i64 m.f2)).setCell ⟨w4.heap.size, l.length * 7 + 5, none⟩ (.int .i64 m.f3)).setCell ⟨w4.heap.size, l.length * 7 + 6, none⟩ (.bool m.f4)) = w6.setCells w4.heap.size (l.length * 7) (c25 m) := rfl
        rw [hch]
        obtain ⟨hp1, hp2⟩ := own_put HO6.out flatM l.length m (by rw [HF6.out]; exact HKN.out)
        have HB7 : Hid (Below w4.heap.size w4 (w6.setCells w4.heap.size (l.length * 7) (c25 m))) := hide (HB6.out.trans (hp2.below HB6.out.size (fun i e => Nat.le_of_eq e.symm)))
        have HO7 : Hid (OwnM (w6.setCells w4.heap.size (l.length * 7) (c25 m)) w4.heap.size (.slice (some ⟨w4.heap.size, 0, none⟩) (L6.set l.length m).length n1) (L6.set l.length m)) := hide ((HF6.out.trans HZ8.out.symm) ▸ hp1)
        clear hch hp1 hp2 HO6 HB6 HM6 q0 q1 q2 q3 q4 q5 q6 f0 f1 f2 f3 f4 f5 f6 p0 p1 p2 p3 p4 p5 p6 HT6 hmake hcopy
        generalize w6.setCells w4.heap.size (l.length * 7) (c25 m) = w7 at HB7 HO7 ⊢
        have HA7 := hide (HA.out.below (below_step HBA.out HB7.out))
        have r1 : w7.cell? ⟨g, 1, none⟩ = some (.map (some b)) := HA7.out.c1
        have r1d : w7.drew.cell? ⟨g, 1, none⟩ = some (.map (some b)) := HA7.out.c1
        have HC7 := hide (C_below HC4.out (HB7.out.trans (below_drewN (Below.refl w7.heap.size w7) 1 |>.mono HB7.out.size)))
        
        have HFIN := hide (fun (w8 : World) (hown : OwnM w8 w4.heap.size (.slice (some ⟨w4.heap.size, 0, none⟩) (L6.set l.length m).length n1) (ins befM l m)) (hO : Only w7.drew w8 (fun x => x = w4.heap.size)) => push_fin HH.out HB.out HA.out HGM.out HSZ.out HP.out HBA.out (HB7.out.trans (below_drewN (Below.refl w7.heap.size w7) 1 |>.mono HB7.out.size)) hown hO HZ8.out HN1.out (n := n1) (d := d) HLQ.out HHD.out HWD.out HMM.out ht hl)
        clear HC4 HC7 HA7 HB7 HBA HA hl ht
        go_region_held3 (fun w' => w'.cell? ⟨g, 1, none⟩ = some (.map (some b))) (first | exact (by assumption) | go_keep) (first
          | (refine step_copyK flatM rfl k25_open rfl (.tmp 77) (.tmp 80) 26 26 rfl Try.underlying26 infoSz HO7.out _ _ _ _ _ _ rfl rfl ([] : List M) ⟨rfl, by simp, fun h => absurd h (by simp)⟩ (Nat.zero_le _) n1 (by rw [HZ8.out]; exact Nat.le_refl _) (fun h => absurd h (Nat.lt_irrefl 0)) ?_; intro w8 hown8 hO8; rw [← HDN.out, HL8.out] at hown8; obtain ⟨w9, hup, s1, s2, s3, s4, HE9⟩ := HFIN.out w8 hown8 hO8; clear hown8 hO8))
        all_goals (
          clear HFIN HO7 r1 r1d
          go_wp2_with fail
          go_ret
          exact ⟨rfl, HE9.out⟩)
end Go.Proofs.Ytmgjnabenemghaa.CQ
