/- The calendar's First. No law is proved here. -/
import Derived.Test.YtmgjnabenemghaaCG
import Derived.Test.YtmgjnabenemghaaHand
namespace Go.Proofs.Ytmgjnabenemghaa.CQ
open Go.Proofs Go.Proofs.Ytmgjnabenemghaa.Hand Go.Shelf Go.RowKit Go.Deep Go.Sort Go.Maps Go.Proofs.Ytmgjnabenemghaa.SortPure Go.Proofs.Ytmgjnabenemghaa.Types Go.Proofs.Ytmgjnabenemghaa.Heap Go.Proofs.Ytmgjnabenemghaa.Row Go.Proofs.Ytmgjnabenemghaa.Ord Go.Proofs.Ytmgjnabenemghaa.Sorted Go.Proofs.YtmgjnabenemghaaW.PrintWords Go.Proofs.YtmgjnabenemghaaW.PrintLast Go.Proofs.YtmgjnabenemghaaW.PrintMore
set_option linter.unusedVariables false
set_option linter.unusedSimpArgs false
theorem Days.look_below {w : World} {P : Nat → Prop} {b : Nat} {wd : Int} {sl : List M} (h : Days w P b wd sl) {d : Int} (hd : wfI d) : ∃ (A : Option Addr) (c : Nat), (∀ w', Below w.heap.size w w' → (Instr.lookup tMap (.map (some b)) (.int .i64 d) false).run Try.prog w' = .ok (.slice A (row wd sl d).length c) w') ∧ (row wd sl d).length ≤ c ∧ Kd.C kM w A (row wd sl d).length (row wd sl d) ∧ ∀ ad, A = some ad → P ad.block := by
  obtain ⟨D, hown, hrep⟩ := h
  have hl : ∀ w', Below w.heap.size w w' → ∃ v ps, (Instr.lookup tMap (.map (some b)) (.int .i64 d) false).run Try.prog w' = .ok v w' ∧ RS v = some (D.atKey (.int .i64 d) (.held (.slice none 0 0)), ps) := fun w' hb => (owns_below hown hb).lookup lawD uMap (zeroL w') (RS_mk none 0 0) (keyD hd)
  by_cases hn : row wd sl d = []
  · have h1 := (hrep d).1 hn
    refine ⟨none, 0, fun w' hb => ?_, by rw [hn]; exact Nat.le_refl _, by rw [hn]; exact ⟨rfl, by simp, fun h => absurd h (by simp)⟩, fun ad e => by cases e⟩
    obtain ⟨v, ps, hrun, hv⟩ := hl w' hb
    rw [Maps.atKey_of_not_has h1] at hv
    rw [hrun, RS_held hv, hn]
    rfl
  · obtain ⟨_, A, c, h2, h3, h4, h5⟩ := (hrep d).2 hn
    refine ⟨A, c, fun w' hb => ?_, h3, h4, h5⟩
    obtain ⟨v, ps, hrun, hv⟩ := hl w' hb
    rw [h2] at hv
    rw [hrun, RS_held hv]
set_option maxHeartbeats 8000000 in
set_option maxRecDepth 100000 in
theorem first_none {w : World} {P : Nat → Prop} {g b : Nat} {wd : Int}  (h : CAt w P g b wd []) :
    Calls Try.prog 17 #[.pointer (some ⟨g, 0, none⟩)] w fun e w' => e = .returned (.tuple #[zA, .int .i64 6]) ∧ Below w.heap.size w w' := by
  unfold zA
  have HB := hide ((Below.refl w.heap.size w).alloc (Nat.le_refl _) (.cells #[.int .i64 0, .int .i64 0, .int .i64 0, .int .i64 0, .int .i64 0, .int .i64 0, .bool false] 25))
  have HR := hide (Blk.new w 25 #[.int .i64 0, .int .i64 0, .int .i64 0, .int .i64 0, .int .i64 0, .int .i64 0, .bool false])
  have h1 := h.below HB.out
  have HN := hide (none_call h1.c1)
  have c2 : (w.alloc (.cells #[.int .i64 0, .int .i64 0, .int .i64 0, .int .i64 0, .int .i64 0, .int .i64 0, .bool false] 25)).cell? ⟨g, 2, none⟩ = some (.int .i64 0) := h1.c2
  clear h h1
  go_enter Try.func17, Try.ntmps17
  go_wp2_with (first
    | (go_at_call 20; refine HN.out.mono ?_; rintro e w1 ⟨rfl, rfl⟩))
  refine bodyPost_ret (v := .tuple #[.agg #[.int .i64 0, .int .i64 0, .int .i64 0, .int .i64 0, .int .i64 0, .int .i64 0, .bool false], .int .i64 6]) ?_ rfl ⟨rfl, HB.out⟩
  refine results_list (rs := [.cell 2 25, .tmp 3]) rfl (by simp) ?_
  exact Vals.cell w.heap.size 25 _ (0, 0) _ rfl HR.out Try.underlying25 rfl (by kernel_rfl) (Vals.tmp Vals.nil)
set_option maxHeartbeats 8000000 in
set_option maxRecDepth 100000 in
theorem first_some {w : World} {P : Nat → Prop} {g b : Nat} {wd : Int} {z : M} {s : List M} (h : CAt w P g b wd (z :: s)) :
    Calls Try.prog 17 #[.pointer (some ⟨g, 0, none⟩)] w fun e w' => e = .returned (.tuple #[.agg (cM z).toArray, .int .i64 0]) ∧ Below w.heap.size w w' := by
  have HB := hide ((Below.refl w.heap.size w).alloc (Nat.le_refl _) (.cells #[.int .i64 0, .int .i64 0, .int .i64 0, .int .i64 0, .int .i64 0, .int .i64 0, .bool false] 25))
  have HR := hide (Blk.new w 25 #[.int .i64 0, .int .i64 0, .int .i64 0, .int .i64 0, .int .i64 0, .int .i64 0, .bool false])
  have h0 := h.below HB.out
  have h1 := h.apart HB.out
  have HN := hide (none_call h0.c1)
  have HA := hide h0
  have hdw : wfI (z.f0.f0 / wd) := wfI_day h.wd1 (h.tm z List.mem_cons_self)
  obtain ⟨A, c, hlook, hcap, hC, hF⟩ := Days.look_below h1.days hdw
  have hl14 : ((row wd (z :: s) (z.f0.f0 / wd)).length : Int) ≤ 16384 := by have := h.len; have := row_le wd (z :: s) (z.f0.f0 / wd); omega
  have hfr := first_row wd z s
  obtain ⟨l, hlq⟩ : ∃ l, row wd (z :: s) (z.f0.f0 / wd) = l := ⟨_, rfl⟩
  rw [hlq] at hlook hcap hC hl14 hfr
  have hpos : 0 < l.length := by rw [hfr]; simp
  obtain ⟨ad, rfl, q0, q1, q2, q3, q4, q5, q6⟩ := at_S25 hC hpos
  have hz0 : l[0] = z := by simp only [hfr, List.getElem_cons_zero]
  rw [hz0] at q0 q1 q2 q3 q4 q5 q6
  have had0 : ad.add (0 * 7) = ⟨ad.block, ad.off, ad.spot⟩ := by
    rw [Nat.zero_mul]
    cases ad
    unfold Addr.add
    split <;> simp_all
  rw [had0] at q0 q1 q2 q3 q4 q5 q6
  simp only at q1 q2 q3 q4 q5 q6
  have hnb : w.heap.size ≠ ad.block := fun e => (hF ad rfl).2 ⟨Nat.le_of_eq e, by rw [← e, World.size_alloc]; omega⟩
  have hng : w.heap.size ≠ g := by have := h.blk.lt; omega
  have c1 := h0.c1
  have c2 : (w.alloc (.cells #[.int .i64 0, .int .i64 0, .int .i64 0, .int .i64 0, .int .i64 0, .int .i64 0, .bool false] 25)).cell? ⟨g, 2, none⟩ = some (.int .i64 ((z :: s).length : Nat)) := h0.c2
  have n0 : (((z :: s).length : Int) == 0) = false := by rw [beq_eq_false_iff_ne]; simp only [List.length_cons]; omega
  obtain ⟨n, hn⟩ : ∃ n, (z :: s).length = n := ⟨_, rfl⟩
  rw [hn] at c2 n0
  have n0b : (n == 0) = false := by rw [← hn]; rfl
  obtain ⟨d, hd⟩ : ∃ d, z.f0.f0 / wd = d := ⟨_, rfl⟩
  have HFD := hide (fun W (hb : Below (w.alloc (.cells #[.int .i64 0, .int .i64 0, .int .i64 0, .int .i64 0, .int .i64 0, .int .i64 0, .bool false] 25)).heap.size (w.alloc (.cells #[.int .i64 0, .int .i64 0, .int .i64 0, .int .i64 0, .int .i64 0, .int .i64 0, .bool false] 25)) W) => first_day_call (HA.out.below hb))
  rw [hd] at hlook HFD
  obtain ⟨nl, hnl⟩ : ∃ nl, l.length = nl := ⟨_, rfl⟩
  rw [hnl] at hlook hl14 hpos
  have hpI : (0 : Int) < (nl : Int) := by omega
  obtain ⟨W0, hW0⟩ : ∃ W0, w.alloc (.cells #[.int .i64 0, .int .i64 0, .int .i64 0, .int .i64 0, .int .i64 0, .int .i64 0, .bool false] 25) = W0 := ⟨_, rfl⟩
  obtain ⟨ro, hro⟩ : ∃ ro, w.heap.size = ro := ⟨_, rfl⟩
  rw [hW0] at HB HR HN HA c1 c2 q0 q1 q2 q3 q4 q5 q6 HFD hlook
  rw [hro] at HR hnb hng
  have HL := hide hlook
  clear h h0 h1 hlook hcap hC hF hlq hfr hz0 had0 hn hd hdw
  go_enter Try.func17, Try.ntmps17
  go_wp2_with (first
    | (go_at_call 20; refine HN.out.mono ?_; rintro e w1 ⟨rfl, rfl⟩))
  have HDR := hide (below_drewN (Below.refl w1.heap.size w1) 1)
  have tr : ∀ (W : World), Below w1.heap.size w1 W → ∀ (a : Addr) (v : Value), w1.cell? a = some v → W.cell? a = some v := fun W hb a v hc => (hb.cell (p := a) (block_lt_of_cell hc)).trans hc
  have HTR := hide tr
  have e0 : w1.drew.cell? ⟨g, 1, none⟩ = some (.map (some b)) := c1
  refine wp_region_held (S := fun w' => w'.cell? ⟨g, 1, none⟩ = some (.map (some b))) (by kernel_rfl) ?_
  (try (change wpAnyH _ _ _ _ _ _ _ _ (World.drew _)))
  refine Hand.takeH (i := 0) (v := ?v0) rfl (by kernel_rfl) (by kernel_rfl) (by kernel_rfl) (fun _ _ _ h => h) (Or.inl ⟨by kernel_rfl, ?y0⟩) (by exact e0) rfl ?r0
  case y0 => intro w hSw; (try dsimp only at hSw); go_simp; (try with_reducible rfl)
  simp only [List.setIfInBounds_toArray, List.set_cons_zero, List.set_cons_succ]
  refine Hand.takeH (i := 1) (v := ?v1) rfl (by kernel_rfl) (by kernel_rfl) (by kernel_rfl) (fun _ _ _ h => h) (Or.inl ⟨by kernel_rfl, ?y1⟩) (by exact e0) rfl ?r1
  case y1 => intro w hSw; (try dsimp only at hSw); go_simp; (try with_reducible rfl)
  simp only [List.setIfInBounds_toArray, List.set_cons_zero, List.set_cons_succ]
  refine Hand.takeH (i := 2) (v := ?v2) rfl (by kernel_rfl) (by kernel_rfl) (by kernel_rfl) (fun _ _ _ h => h) (Or.inl ⟨by kernel_rfl, ?y2⟩) (by exact e0) rfl ?r2
  case y2 => intro w hSw; (try dsimp only at hSw); go_simp; (try with_reducible rfl)
  simp only [List.setIfInBounds_toArray, List.set_cons_zero, List.set_cons_succ]
  refine Hand.takeH (i := 3) (v := ?v3) rfl (by kernel_rfl) (by kernel_rfl) (by kernel_rfl) (fun _ _ _ h => h) (Or.inl ⟨by kernel_rfl, ?y3⟩) (by exact e0) rfl ?r3
  case y3 => intro w hSw; (try dsimp only at hSw); go_simp; (try with_reducible rfl)
  simp only [List.setIfInBounds_toArray, List.set_cons_zero, List.set_cons_succ]
  refine Hand.takeH (i := 4) (v := ?v4) rfl (by kernel_rfl) (by kernel_rfl) (by kernel_rfl) (fun _ _ _ h => h) (Or.inl ⟨by kernel_rfl, ?y4⟩) (by exact e0) rfl ?r4
  case y4 => intro w hSw; (try dsimp only at hSw); go_simp; (try with_reducible rfl)
  simp only [List.setIfInBounds_toArray, List.set_cons_zero, List.set_cons_succ]
  refine wpAnyH_ready (rs := [5]) (by kernel_rfl) (by simp) ?_
  refine AllReadyH.cons rfl (fun K hK => ?_) AllReadyH.nil
  go_simp
  refine (HFD.out _ HDR.out).mono ?_
  rintro e w2 ⟨rfl, hb⟩
  have HB2 : Hid (Below w1.heap.size w1 w2) := hide (below_step HDR.out hb)
  have hlook2 := HL.out w2 HB2.out
  have g1 := HTR.out w2 HB2.out _ _ c1
  have p0 := HTR.out w2 HB2.out _ _ q0
  have p1 := HTR.out w2 HB2.out _ _ q1
  have p2 := HTR.out w2 HB2.out _ _ q2
  have p3 := HTR.out w2 HB2.out _ _ q3
  have p4 := HTR.out w2 HB2.out _ _ q4
  have p5 := HTR.out w2 HB2.out _ _ q5
  have p6 := HTR.out w2 HB2.out _ _ q6
  have HR2 := hide (HR.out.below' HB2.out)
  clear hb tr q0 q1 q2 q3 q4 q5 q6 c1 c2 e0
  go_wp2_with fail
  (try refine hK.out _ _ (by exact g1) (fun hHeld => ?_))
  clear hK K
  (try simp only [Act.put, List.getElem_toArray, List.getElem_cons_zero, List.getElem_cons_succ, List.setIfInBounds_toArray, List.set_cons_zero, List.set_cons_succ])
  refine wpAnyH_ready (rs := [6]) (by kernel_rfl) (by simp) ?_
  refine AllReadyH.cons rfl (fun K hK => ?_) AllReadyH.nil
  go_simp
  (try refine hK.out _ _ (by exact g1) (fun hHeld => ?_))
  clear hK K
  (try simp only [Act.put, List.getElem_toArray, List.getElem_cons_zero, List.getElem_cons_succ, List.setIfInBounds_toArray, List.set_cons_zero, List.set_cons_succ])
  refine Hand.takeH (i := 7) (v := ?v7) rfl (by kernel_rfl) (by kernel_rfl) (by kernel_rfl) (fun _ _ _ h => h) (Or.inl ⟨by kernel_rfl, ?y7⟩) (by exact g1) rfl ?r7
  case y7 => intro w hSw; (try dsimp only at hSw); go_simp; (try with_reducible rfl)
  simp only [List.setIfInBounds_toArray, List.set_cons_zero, List.set_cons_succ]
  refine wpAnyH_ready (rs := [8]) (by kernel_rfl) (by simp) ?_
  refine AllReadyH.cons rfl (fun K hK => ?_) AllReadyH.nil
  go_simp
  (try refine hK.out _ _ (by exact g1) (fun hHeld => ?_))
  clear hK K
  (try simp only [Act.put, List.getElem_toArray, List.getElem_cons_zero, List.getElem_cons_succ, List.setIfInBounds_toArray, List.set_cons_zero, List.set_cons_succ])
  have r0 : w2.cell? ⟨ro, 0, none⟩ = some (.int .i64 0) := HR2.out.cell 0
  have v0 : w2.frozen? ⟨ro, 0, none⟩ = false := HR2.out.frozen 0
  have r1 : w2.cell? ⟨ro, 1, none⟩ = some (.int .i64 0) := HR2.out.cell 1
  have v1 : w2.frozen? ⟨ro, 1, none⟩ = false := HR2.out.frozen 1
  have r2 : w2.cell? ⟨ro, 2, none⟩ = some (.int .i64 0) := HR2.out.cell 2
  have v2 : w2.frozen? ⟨ro, 2, none⟩ = false := HR2.out.frozen 2
  have r3 : w2.cell? ⟨ro, 3, none⟩ = some (.int .i64 0) := HR2.out.cell 3
  have v3 : w2.frozen? ⟨ro, 3, none⟩ = false := HR2.out.frozen 3
  have r4 : w2.cell? ⟨ro, 4, none⟩ = some (.int .i64 0) := HR2.out.cell 4
  have v4 : w2.frozen? ⟨ro, 4, none⟩ = false := HR2.out.frozen 4
  have r5 : w2.cell? ⟨ro, 5, none⟩ = some (.int .i64 0) := HR2.out.cell 5
  have v5 : w2.frozen? ⟨ro, 5, none⟩ = false := HR2.out.frozen 5
  have r6 : w2.cell? ⟨ro, 6, none⟩ = some (.bool false) := HR2.out.cell 6
  have v6 : w2.frozen? ⟨ro, 6, none⟩ = false := HR2.out.frozen 6
  refine wpAnyH_ready (rs := [9]) (by kernel_rfl) (by simp) ?_
  refine AllReadyH.cons rfl (fun K hK => ?_) AllReadyH.nil
  go_simp
  have g2 : (w2.setCells ro 0 (c25 z)).cell? ⟨g, 1, none⟩ = some (.map (some b)) := ((only_set7 w2 ro z).cell (p := ⟨g, 1, none⟩) (block_lt_of_cell g1) (fun e => hng e.symm)).trans g1
  (try refine hK.out _ _ (by exact g2) (fun hHeld => ?_))
  clear hK K
  (try simp only [Act.put, List.getElem_toArray, List.getElem_cons_zero, List.getElem_cons_succ, List.setIfInBounds_toArray, List.set_cons_zero, List.set_cons_succ])
  refine Hand.takeH (i := 10) (v := ?v10) rfl (by kernel_rfl) (by kernel_rfl) (by kernel_rfl) (fun _ _ _ h => h) (Or.inl ⟨by kernel_rfl, ?y10⟩) (by exact g2) rfl ?r10
  case y10 => intro w hSw; (try dsimp only at hSw); go_simp; (try with_reducible rfl)
  simp only [List.setIfInBounds_toArray, List.set_cons_zero, List.set_cons_succ]
  refine wpAnyH_done (by kernel_rfl) ?_ _
  go_wp2_with fail
  have hch : (((((((w2.setCell ⟨ro, 0, none⟩ (.int .i64 z.f0.f0)).setCell ⟨ro, 1, none⟩ (.int .i64 z.f0.f1)).setCell ⟨ro, 2, none⟩ (.int .i64 z.f0.f2)).setCell ⟨ro, 3, none⟩ (.int .i64 z.f1)).setCell ⟨ro, 4, none⟩ (.int .i64 z.f2)).setCell ⟨ro, 5, none⟩ (.int .i64 z.f3)).setCell ⟨ro, 6, none⟩ (.bool z.f4)) = w2.setCells ro 0 (c25 z) := rfl
  rw [hch]
  have hR4 := set7 default z HR2.out
  have hB4 : Below w.heap.size w (w2.setCells ro 0 (c25 z)) := (below_step HB.out HB2.out).trans ((only_set7 w2 ro z).below (below_step HB.out HB2.out).size (fun i e => by rw [hro, e]; exact Nat.le_refl _))
  refine bodyPost_ret (v := .tuple #[.agg #[.int .i64 z.f0.f0, .int .i64 z.f0.f1, .int .i64 z.f0.f2, .int .i64 z.f1, .int .i64 z.f2, .int .i64 z.f3, .bool z.f4], .int .i64 0]) ?_ rfl ⟨rfl, hB4⟩
  refine results_list (rs := [.cell 2 25, .tmp 3]) rfl (by simp) ?_
  exact Vals.cell ro 25 _ (0, 0) _ rfl hR4 Try.underlying25 rfl (by kernel_rfl) (Vals.tmp Vals.nil)
end Go.Proofs.Ytmgjnabenemghaa.CQ
