/- The reference's First and Pop. No law is proved here. -/
import Derived.Test.YtkhdghlgkljdgaaLR
namespace Go.Proofs.Ytkhdghlgkljdgaa.LQ
open Go.Proofs Go.Proofs.Ytkhdghlgkljdgaa.CQ Go.Shelf Go.RowKit Go.Deep Go.Sort Go.Proofs.Ytkhdghlgkljdgaa.SortPure Go.Proofs.Ytkhdghlgkljdgaa.Types Go.Proofs.Ytkhdghlgkljdgaa.Heap Go.Proofs.Ytkhdghlgkljdgaa.Row Go.Proofs.Ytkhdghlgkljdgaa.Ord Go.Proofs.Ytkhdghlgkljdgaa.Sorted Go.Proofs.YtkhdghlgkljdgaaW.PrintWords Go.Proofs.YtkhdghlgkljdgaaW.PrintLast Go.Proofs.YtkhdghlgkljdgaaW.PrintMore
set_option linter.unusedVariables false
set_option linter.unusedSimpArgs false
set_option maxHeartbeats 4000000 in
set_option maxRecDepth 100000 in
theorem rfirst_some (w : World) (F r : Nat) (A : Option Addr) (c : Nat) (z : M) (sl : List M) (h : RAt w F r A c (z :: sl)) (hl : (z :: sl).length ≤ 16384) :
    Calls Try.prog 31 #[.pointer (some ⟨r, 0, none⟩)] w fun e w' => e = .returned (.tuple #[.agg #[.int .i64 z.f0.f0, .int .i64 z.f0.f1, .int .i64 z.f0.f2, .int .i64 z.f1, .int .i64 z.f2, .int .i64 z.f3, .bool z.f4], .int .i64 0]) ∧ Below w.heap.size w w' := by
  have HB := hide ((Below.refl w.heap.size w).alloc (Nat.le_refl _) (.cells #[.int .i64 0, .int .i64 0, .int .i64 0, .int .i64 0, .int .i64 0, .int .i64 0, .bool false] 25))
  have HR := hide (Blk.new w 25 #[.int .i64 0, .int .i64 0, .int .i64 0, .int .i64 0, .int .i64 0, .int .i64 0, .bool false])
  have h1 := h.below HB.out
  have c0 : (w.alloc (.cells #[.int .i64 0, .int .i64 0, .int .i64 0, .int .i64 0, .int .i64 0, .int .i64 0, .bool false] 25)).cell? ⟨r, 0, none⟩ = some (.slice A (z :: sl).length c) := h1.blk.cell 0
  obtain ⟨n, hn⟩ : ∃ n, (z :: sl).length = n := ⟨_, rfl⟩
  have hpos : 0 < (z :: sl).length := by simp
  obtain ⟨ad, rfl, q0, q1, q2, q3, q4, q5, q6⟩ := at_S25 h1.row hpos
  have had : ad.add (0 * 7) = ad.add 0 := by rw [Nat.zero_mul]
  simp only [List.getElem_cons_zero] at q0 q1 q2 q3 q4 q5 q6
  have n1 : ((n : Int) == 0) = false := by rw [beq_eq_false_iff_ne]; omega
  have n2 : (0 : Int) < (n : Int) := by omega
  have n3 : (n : Int) ≤ 16384 := by omega
  rw [hn] at c0
  have had0 : ad.add (0 * 7) = ⟨ad.block, ad.off, ad.spot⟩ := by
    rw [Nat.zero_mul]
    cases ad
    unfold Addr.add
    split <;> simp_all
  rw [had0] at q0 q1 q2 q3 q4 q5 q6
  simp only at q1 q2 q3 q4 q5 q6
  clear h h1 hl hpos
  go_enter Try.func31, Try.ntmps31
  go_wp2_with fail
  refine bodyPost_ret (v := .tuple #[.agg #[.int .i64 z.f0.f0, .int .i64 z.f0.f1, .int .i64 z.f0.f2, .int .i64 z.f1, .int .i64 z.f2, .int .i64 z.f3, .bool z.f4], .int .i64 0]) ?_ rfl ⟨rfl, (Below.refl w.heap.size w).alloc (Nat.le_refl _) _⟩
  refine results_list (rs := [.cell 2 25, .tmp 3]) rfl (by simp) ?_
  exact Vals.cell w.heap.size 25 _ (0, 0) _ rfl (heap_alloc_new w _) Try.underlying25 rfl (by kernel_rfl) (Vals.tmp Vals.nil)
set_option maxHeartbeats 4000000 in
set_option maxRecDepth 100000 in
theorem rpop_none (w : World) (F r : Nat) (A : Option Addr) (c : Nat) (h : RAt w F r A c []) :
    Calls Try.prog 32 #[.pointer (some ⟨r, 0, none⟩)] w fun e w' => e = .returned (.tuple #[zA, .int .i64 6]) ∧ Below w.heap.size w w' := by
  unfold zA
  have HB := hide ((Below.refl w.heap.size w).alloc (Nat.le_refl _) (.cells #[.int .i64 0, .int .i64 0, .int .i64 0, .int .i64 0, .int .i64 0, .int .i64 0, .bool false] 25))
  have HQ1 := hide (h.below HB.out)
  have HR := hide (Blk.new w 25 #[.int .i64 0, .int .i64 0, .int .i64 0, .int .i64 0, .int .i64 0, .int .i64 0, .bool false])
  have HF := hide (rfirst_none _ F r A c HQ1.out)
  clear h
  unfold zA at HF
  go_enter Try.func32, Try.ntmps32
  go_wp2_with fail
  refine HF.out.mono ?_
  rintro e w2 ⟨rfl, hb⟩
  have HB2 := hide (below_step HB.out hb)
  have HR2 := hide (HR.out.below' hb)
  clear HF HB HQ1 HR hb
  rename_i K1 h1 K2 h2
  have HK := hide h1
  clear h1
  go_wp2_with fail
  have HB3 := hide (HB2.out.alloc HB2.out.size (.cells #[.int .i64 0, .int .i64 0, .int .i64 0, .int .i64 0, .int .i64 0, .int .i64 0, .bool false] 25))
  have HR3 := hide (HR2.out.alloc (.cells #[.int .i64 0, .int .i64 0, .int .i64 0, .int .i64 0, .int .i64 0, .int .i64 0, .bool false] 25))
  have HX3 := hide (Blk.new w2 25 #[.int .i64 0, .int .i64 0, .int .i64 0, .int .i64 0, .int .i64 0, .int .i64 0, .bool false])
  generalize (w2.alloc (.cells #[.int .i64 0, .int .i64 0, .int .i64 0, .int .i64 0, .int .i64 0, .int .i64 0, .bool false] 25)) = w3 at HB3 HR3 HX3 ⊢
  generalize w2.heap.size = gx at HX3 ⊢
  refine HK.out _ _ ?_
  clear HK K1 HB2 HR2
  have r0 : w3.cell? ⟨w.heap.size, 0, none⟩ = some (.int .i64 0) := HR3.out.cell 0
  have v0 : w3.frozen? ⟨w.heap.size, 0, none⟩ = false := HR3.out.frozen 0
  have r1 : w3.cell? ⟨w.heap.size, 1, none⟩ = some (.int .i64 0) := HR3.out.cell 1
  have v1 : w3.frozen? ⟨w.heap.size, 1, none⟩ = false := HR3.out.frozen 1
  have r2 : w3.cell? ⟨w.heap.size, 2, none⟩ = some (.int .i64 0) := HR3.out.cell 2
  have v2 : w3.frozen? ⟨w.heap.size, 2, none⟩ = false := HR3.out.frozen 2
  have r3 : w3.cell? ⟨w.heap.size, 3, none⟩ = some (.int .i64 0) := HR3.out.cell 3
  have v3 : w3.frozen? ⟨w.heap.size, 3, none⟩ = false := HR3.out.frozen 3
  have r4 : w3.cell? ⟨w.heap.size, 4, none⟩ = some (.int .i64 0) := HR3.out.cell 4
  have v4 : w3.frozen? ⟨w.heap.size, 4, none⟩ = false := HR3.out.frozen 4
  have r5 : w3.cell? ⟨w.heap.size, 5, none⟩ = some (.int .i64 0) := HR3.out.cell 5
  have v5 : w3.frozen? ⟨w.heap.size, 5, none⟩ = false := HR3.out.frozen 5
  have r6 : w3.cell? ⟨w.heap.size, 6, none⟩ = some (.bool false) := HR3.out.cell 6
  have v6 : w3.frozen? ⟨w.heap.size, 6, none⟩ = false := HR3.out.frozen 6
  have x0 : w3.cell? ⟨gx, 0, none⟩ = some (.int .i64 0) := HX3.out.cell 0
  have x1 : w3.cell? ⟨gx, 1, none⟩ = some (.int .i64 0) := HX3.out.cell 1
  have x2 : w3.cell? ⟨gx, 2, none⟩ = some (.int .i64 0) := HX3.out.cell 2
  have x3 : w3.cell? ⟨gx, 3, none⟩ = some (.int .i64 0) := HX3.out.cell 3
  have x4 : w3.cell? ⟨gx, 4, none⟩ = some (.int .i64 0) := HX3.out.cell 4
  have x5 : w3.cell? ⟨gx, 5, none⟩ = some (.int .i64 0) := HX3.out.cell 5
  have x6 : w3.cell? ⟨gx, 6, none⟩ = some (.bool false) := HX3.out.cell 6
  go_wp2_with fail
  have hch : (((((((w3.setCell ⟨w.heap.size, 0, none⟩ (.int .i64 0)).setCell ⟨w.heap.size, 1, none⟩ (.int .i64 0)).setCell ⟨w.heap.size, 2, none⟩ (.int .i64 0)).setCell ⟨w.heap.size, 3, none⟩ (.int .i64 0)).setCell ⟨w.heap.size, 4, none⟩ (.int .i64 0)).setCell ⟨w.heap.size, 5, none⟩ (.int .i64 0)).setCell ⟨w.heap.size, 6, none⟩ (.bool false)) = w3.setCells w.heap.size 0 (c25 default) := rfl
  rw [hch]
  obtain ⟨e1, e2⟩ := ans7 (cs := default) default HR3.out HB3.out
  refine bodyPost_ret (v := .tuple #[.agg #[.int .i64 0, .int .i64 0, .int .i64 0, .int .i64 0, .int .i64 0, .int .i64 0, .bool false], .int .i64 6]) ?_ rfl ⟨rfl, e2⟩
  refine results_list (rs := [.cell 2 25, .tmp 3]) rfl (by simp) ?_
  exact Vals.cell w.heap.size 25 _ (0, 0) _ rfl e1 Try.underlying25 rfl (by kernel_rfl) (Vals.tmp Vals.nil)
/-- Behind the seven stores into the block of the answer. -/
theorem rfin7 {w W : World} {F r gr c : Nat} {A : Option Addr} {sl : List M} (z : M) (hQ : RAt W F r A c sl) (hR : Blk W gr 25 #[.int .i64 0, .int .i64 0, .int .i64 0, .int .i64 0, .int .i64 0, .int .i64 0, .bool false]) (hO : Only w W (fun b => b = r)) (h1 : gr ≠ r) (h2 : ∀ ad, A = some ad → 0 < sl.length → ad.block ≠ gr) (h3 : w.heap.size ≤ gr) :
    RAt (W.setCells gr 0 (c25 z)) F r A c sl ∧ Blk (W.setCells gr 0 (c25 z)) gr 25 #[.int .i64 z.f0.f0, .int .i64 z.f0.f1, .int .i64 z.f0.f2, .int .i64 z.f1, .int .i64 z.f2, .int .i64 z.f3, .bool z.f4] ∧ Only w (W.setCells gr 0 (c25 z)) (fun b => b = r) := by
  unfold c25
  simp only [World.setCells]
  refine ⟨?_, ?_, ?_⟩
  · have hs := (((((((Only.refl W (fun b => b = gr)).setCell (p := ⟨gr, 0, none⟩) (.inl rfl) (.int .i64 z.f0.f0)).setCell (p := ⟨gr, 1, none⟩) (.inl rfl) (.int .i64 z.f0.f1)).setCell (p := ⟨gr, 2, none⟩) (.inl rfl) (.int .i64 z.f0.f2)).setCell (p := ⟨gr, 3, none⟩) (.inl rfl) (.int .i64 z.f1)).setCell (p := ⟨gr, 4, none⟩) (.inl rfl) (.int .i64 z.f2)).setCell (p := ⟨gr, 5, none⟩) (.inl rfl) (.int .i64 z.f3)).setCell (p := ⟨gr, 6, none⟩) (.inl rfl) (.bool z.f4)
    exact hQ.only hs (fun e => h1 e.symm) (fun ad e h e2 => h2 ad e h e2)
  · have := ((((((hR.set_ 0 (.int .i64 z.f0.f0)).set_ 1 (.int .i64 z.f0.f1)).set_ 2 (.int .i64 z.f0.f2)).set_ 3 (.int .i64 z.f1)).set_ 4 (.int .i64 z.f2)).set_ 5 (.int .i64 z.f3)).set_ 6 (.bool z.f4)
    exact this
  · exact ((((((hO.setCell (.inr h3) _).setCell (.inr h3) _).setCell (.inr h3) _).setCell (.inr h3) _).setCell (.inr h3) _).setCell (.inr h3) _).setCell (.inr h3) _
/-- What a read row of messages has of blocks lies in the world. -/
theorem RAt.lt {w : World} {F r : Nat} {A : Option Addr} {c : Nat} {sl : List M} (h : RAt w F r A c sl) : ∀ ad, A = some ad → 0 < sl.length → ad.block < w.heap.size := fun ad e hl => by
  obtain ⟨ad2, hA, q⟩ := at_S25 h.row hl
  rw [e] at hA
  cases hA
  have := block_lt_of_cell q.1
  have hb : (ad.add (0 * 7)).block = ad.block := by unfold Addr.add; split <;> rfl
  rw [hb] at this
  exact this
set_option maxHeartbeats 4000000 in
set_option maxRecDepth 100000 in
theorem rpop_some (w : World) (F r : Nat) (A : Option Addr) (c : Nat) (z : M) (sl : List M) (h : RAt w F r A c (z :: sl)) (hl : (z :: sl).length ≤ 16384) (hF : r < F) :
    Calls Try.prog 32 #[.pointer (some ⟨r, 0, none⟩)] w fun e w' => e = .returned (.tuple #[.agg #[.int .i64 z.f0.f0, .int .i64 z.f0.f1, .int .i64 z.f0.f2, .int .i64 z.f1, .int .i64 z.f2, .int .i64 z.f3, .bool z.f4], .int .i64 0]) ∧ (∃ A' c', RAt w' F r A' c' sl ∧ ∀ ad, A' = some ad → 0 < sl.length → ∃ ad0, A = some ad0 ∧ ad.block = ad0.block) ∧ Only w w' (fun b => b = r) := by
  have HB := hide ((Below.refl w.heap.size w).alloc (Nat.le_refl _) (.cells #[.int .i64 0, .int .i64 0, .int .i64 0, .int .i64 0, .int .i64 0, .int .i64 0, .bool false] 25))
  have HQ1 := hide (h.below HB.out)
  have HR := hide (Blk.new w 25 #[.int .i64 0, .int .i64 0, .int .i64 0, .int .i64 0, .int .i64 0, .int .i64 0, .bool false])
  have HF := hide (rfirst_some _ F r A c z sl HQ1.out hl)
  have hrg : w.heap.size ≠ r := by have := h.blk.lt; omega
  have HFF := hide hF
  have HH := hide h
  obtain ⟨n, hn⟩ : ∃ n, sl.length = n := ⟨_, rfl⟩
  have hn1 : (z :: sl).length = n + 1 := by simp [hn]
  have HL : Hid ((z :: sl).length ≤ 16384) := hide hl
  have hcap : n + 1 ≤ c := by have := h.cap; omega
  have hn1b : ((n + 1 : Nat) : Int) = (n : Int) + 1 := by omega
  have d1 : (1 : Int) ≤ ((n + 1 : Nat) : Int) := by omega
  have d2 : ((n + 1 : Nat) : Int) ≤ (c : Int) := by omega
  have d3 : ((n + 1 : Nat) : Int) ≤ 16384 := by omega
  clear h hl hF
  go_enter Try.func32, Try.ntmps32
  go_wp2_with fail
  refine HF.out.mono ?_
  rintro e w2 ⟨rfl, hb⟩
  have HB2 := hide (below_step HB.out hb)
  have HQ2 := hide (HQ1.out.below hb)
  have HR2 := hide (HR.out.below' hb)
  clear HF HB HQ1 HR hb
  rename_i K1 h1 K2 h2
  have HK := hide h1
  clear h1
  go_wp2_with fail
  have HB3 := hide (HB2.out.alloc HB2.out.size (.cells #[.int .i64 z.f0.f0, .int .i64 z.f0.f1, .int .i64 z.f0.f2, .int .i64 z.f1, .int .i64 z.f2, .int .i64 z.f3, .bool z.f4] 25))
  have HQ3 := hide (HQ2.out.below ((Below.refl _ _).alloc (Nat.le_refl _) (.cells #[.int .i64 z.f0.f0, .int .i64 z.f0.f1, .int .i64 z.f0.f2, .int .i64 z.f1, .int .i64 z.f2, .int .i64 z.f3, .bool z.f4] 25)))
  have HR3 := hide (HR2.out.alloc (.cells #[.int .i64 z.f0.f0, .int .i64 z.f0.f1, .int .i64 z.f0.f2, .int .i64 z.f1, .int .i64 z.f2, .int .i64 z.f3, .bool z.f4] 25))
  have HX3 := hide (Blk.new w2 25 #[.int .i64 z.f0.f0, .int .i64 z.f0.f1, .int .i64 z.f0.f2, .int .i64 z.f1, .int .i64 z.f2, .int .i64 z.f3, .bool z.f4])
  have hxr : w2.heap.size ≠ r := by have := HQ2.out.blk.lt; omega
  have hxg : w2.heap.size ≠ w.heap.size := by have := HR2.out.lt; omega
  generalize (w2.alloc (.cells #[.int .i64 z.f0.f0, .int .i64 z.f0.f1, .int .i64 z.f0.f2, .int .i64 z.f1, .int .i64 z.f2, .int .i64 z.f3, .bool z.f4] 25)) = w3 at HB3 HQ3 HR3 HX3 ⊢
  generalize w2.heap.size = gx at HX3 hxr hxg ⊢
  refine HK.out _ _ ?_
  clear HK K1 HB2 HQ2 HR2
  have c0 : w3.cell? ⟨r, 0, none⟩ = some (.slice A (n + 1) c) := by rw [← hn1]; exact HQ3.out.blk.cell 0
  have f0 : w3.frozen? ⟨r, 0, none⟩ = false := HQ3.out.blk.frozen 0
  obtain ⟨ad, hA, _⟩ := at_S25 HQ3.out.row (i := 0) (by omega)
  subst hA
  have r0 : w3.cell? ⟨w.heap.size, 0, none⟩ = some (.int .i64 0) := HR3.out.cell 0
  have v0 : w3.frozen? ⟨w.heap.size, 0, none⟩ = false := HR3.out.frozen 0
  have r1 : w3.cell? ⟨w.heap.size, 1, none⟩ = some (.int .i64 0) := HR3.out.cell 1
  have v1 : w3.frozen? ⟨w.heap.size, 1, none⟩ = false := HR3.out.frozen 1
  have r2 : w3.cell? ⟨w.heap.size, 2, none⟩ = some (.int .i64 0) := HR3.out.cell 2
  have v2 : w3.frozen? ⟨w.heap.size, 2, none⟩ = false := HR3.out.frozen 2
  have r3 : w3.cell? ⟨w.heap.size, 3, none⟩ = some (.int .i64 0) := HR3.out.cell 3
  have v3 : w3.frozen? ⟨w.heap.size, 3, none⟩ = false := HR3.out.frozen 3
  have r4 : w3.cell? ⟨w.heap.size, 4, none⟩ = some (.int .i64 0) := HR3.out.cell 4
  have v4 : w3.frozen? ⟨w.heap.size, 4, none⟩ = false := HR3.out.frozen 4
  have r5 : w3.cell? ⟨w.heap.size, 5, none⟩ = some (.int .i64 0) := HR3.out.cell 5
  have v5 : w3.frozen? ⟨w.heap.size, 5, none⟩ = false := HR3.out.frozen 5
  have r6 : w3.cell? ⟨w.heap.size, 6, none⟩ = some (.bool false) := HR3.out.cell 6
  have v6 : w3.frozen? ⟨w.heap.size, 6, none⟩ = false := HR3.out.frozen 6
  have x0 : w3.cell? ⟨gx, 0, none⟩ = some (.int .i64 z.f0.f0) := HX3.out.cell 0
  have x1 : w3.cell? ⟨gx, 1, none⟩ = some (.int .i64 z.f0.f1) := HX3.out.cell 1
  have x2 : w3.cell? ⟨gx, 2, none⟩ = some (.int .i64 z.f0.f2) := HX3.out.cell 2
  have x3 : w3.cell? ⟨gx, 3, none⟩ = some (.int .i64 z.f1) := HX3.out.cell 3
  have x4 : w3.cell? ⟨gx, 4, none⟩ = some (.int .i64 z.f2) := HX3.out.cell 4
  have x5 : w3.cell? ⟨gx, 5, none⟩ = some (.int .i64 z.f3) := HX3.out.cell 5
  have x6 : w3.cell? ⟨gx, 6, none⟩ = some (.bool z.f4) := HX3.out.cell 6
  have hfar : F ≤ ad.block := HH.out.far ad rfl (by simp)
  have hne : ad.block ≠ r := by have := HFF.out; omega
  have hneg : ad.block ≠ w.heap.size := by have := HH.out.lt ad rfl (by simp); omega
  have hsz : c ≠ 1 → Kd.C k25 w3 (some ⟨ad.block, ad.off + 7, none⟩) n sl := fun hc1 => by
    have T1 := C_drop (k := 7) (c := c) (m := 1) HQ3.out.row rfl (by omega) HQ3.out.cap
    rw [if_neg hc1] at T1
    have hz : (z :: sl).length - 1 = n := by omega
    rw [hz] at T1
    exact T1
  by_cases hc1 : c = 1
  · have HN0 : Hid (n = 0) := hide (by omega)
    go_wp2_with fail
    have hrow : Kd.C k25 w3 (some ad) n sl := ⟨hn, by omega, fun h => absurd h (by have := HN0.out; omega)⟩
    have hO4 : Only w (w3.setCell ⟨r, 0, none⟩ (.slice (some ad) n 0)) (fun b => b = r) := (only_of_below HB3.out (fun b => b = r)).setCell (p := ⟨r, 0, none⟩) (.inl rfl) _
    have hQ4 : RAt (w3.setCell ⟨r, 0, none⟩ (.slice (some ad) n 0)) F r (some ad) (0) sl := ⟨by have := HQ3.out.blk.set_ 0 (.slice (some ad) n 0); rw [hn]; exact this, by
      rw [hn]
      exact C_only hrow ((Only.refl w3 (fun b => b = r)).setCell (p := ⟨r, 0, none⟩) (.inl rfl) _) (fun ad1 e h => by cases e; exact hne), by first | omega | (have := HN0.out; omega), fun ad1 e h => by cases e; exact hfar⟩
    have hR4 := HR3.out.far (p := ⟨r, 0, none⟩) hrg (.slice (some ad) n 0)
    have hch : ((((((((w3.setCell ⟨r, 0, none⟩ (.slice (some ad) n (0))).setCell ⟨w.heap.size, 0, none⟩ (.int .i64 z.f0.f0)).setCell ⟨w.heap.size, 1, none⟩ (.int .i64 z.f0.f1)).setCell ⟨w.heap.size, 2, none⟩ (.int .i64 z.f0.f2)).setCell ⟨w.heap.size, 3, none⟩ (.int .i64 z.f1)).setCell ⟨w.heap.size, 4, none⟩ (.int .i64 z.f2)).setCell ⟨w.heap.size, 5, none⟩ (.int .i64 z.f3)).setCell ⟨w.heap.size, 6, none⟩ (.bool z.f4)) = (w3.setCell ⟨r, 0, none⟩ (.slice (some ad) n (0))).setCells w.heap.size 0 (c25 z) := rfl
    rw [hch]
    obtain ⟨e1, e2, e3⟩ := rfin7 z hQ4 hR4 hO4 hrg (fun ad1 e h => by cases e; exact hneg) (Nat.le_refl _)
    refine bodyPost_ret (v := .tuple #[.agg #[.int .i64 z.f0.f0, .int .i64 z.f0.f1, .int .i64 z.f0.f2, .int .i64 z.f1, .int .i64 z.f2, .int .i64 z.f3, .bool z.f4], .int .i64 0]) ?_ rfl ⟨rfl, ⟨(some ad), 0, e1, fun ad1 e _ => ⟨ad, rfl, by cases e; rfl⟩⟩, e3⟩
    refine results_list (rs := [.cell 2 25, .tmp 3]) rfl (by simp) ?_
    exact Vals.cell w.heap.size 25 _ (0, 0) _ rfl e2 Try.underlying25 rfl (by kernel_rfl) (Vals.tmp Vals.nil)
  · have HRow := hide (hsz hc1)
    go_wp2_with fail
    have hrow : Kd.C k25 w3 (some ⟨ad.block, ad.off + 7, none⟩) n sl := HRow.out
    have hO4 : Only w (w3.setCell ⟨r, 0, none⟩ (.slice (some ⟨ad.block, ad.off + 7, none⟩) n (c - 1))) (fun b => b = r) := (only_of_below HB3.out (fun b => b = r)).setCell (p := ⟨r, 0, none⟩) (.inl rfl) _
    have hQ4 : RAt (w3.setCell ⟨r, 0, none⟩ (.slice (some ⟨ad.block, ad.off + 7, none⟩) n (c - 1))) F r (some ⟨ad.block, ad.off + 7, none⟩) ((c - 1)) sl := ⟨by have := HQ3.out.blk.set_ 0 (.slice (some ⟨ad.block, ad.off + 7, none⟩) n (c - 1)); rw [hn]; exact this, by
      rw [hn]
      exact C_only hrow ((Only.refl w3 (fun b => b = r)).setCell (p := ⟨r, 0, none⟩) (.inl rfl) _) (fun ad1 e h => by cases e; exact hne), by first | omega | (have := HN0.out; omega), fun ad1 e h => by cases e; exact hfar⟩
    have hR4 := HR3.out.far (p := ⟨r, 0, none⟩) hrg (.slice (some ⟨ad.block, ad.off + 7, none⟩) n (c - 1))
    have hch : ((((((((w3.setCell ⟨r, 0, none⟩ (.slice (some ⟨ad.block, ad.off + 7, none⟩) n ((c - 1)))).setCell ⟨w.heap.size, 0, none⟩ (.int .i64 z.f0.f0)).setCell ⟨w.heap.size, 1, none⟩ (.int .i64 z.f0.f1)).setCell ⟨w.heap.size, 2, none⟩ (.int .i64 z.f0.f2)).setCell ⟨w.heap.size, 3, none⟩ (.int .i64 z.f1)).setCell ⟨w.heap.size, 4, none⟩ (.int .i64 z.f2)).setCell ⟨w.heap.size, 5, none⟩ (.int .i64 z.f3)).setCell ⟨w.heap.size, 6, none⟩ (.bool z.f4)) = (w3.setCell ⟨r, 0, none⟩ (.slice (some ⟨ad.block, ad.off + 7, none⟩) n ((c - 1)))).setCells w.heap.size 0 (c25 z) := rfl
    rw [hch]
    obtain ⟨e1, e2, e3⟩ := rfin7 z hQ4 hR4 hO4 hrg (fun ad1 e h => by cases e; exact hneg) (Nat.le_refl _)
    refine bodyPost_ret (v := .tuple #[.agg #[.int .i64 z.f0.f0, .int .i64 z.f0.f1, .int .i64 z.f0.f2, .int .i64 z.f1, .int .i64 z.f2, .int .i64 z.f3, .bool z.f4], .int .i64 0]) ?_ rfl ⟨rfl, ⟨(some ⟨ad.block, ad.off + 7, none⟩), (c - 1), e1, fun ad1 e _ => ⟨ad, rfl, by cases e; rfl⟩⟩, e3⟩
    refine results_list (rs := [.cell 2 25, .tmp 3]) rfl (by simp) ?_
    exact Vals.cell w.heap.size 25 _ (0, 0) _ rfl e2 Try.underlying25 rfl (by kernel_rfl) (Vals.tmp Vals.nil)
end Go.Proofs.Ytkhdghlgkljdgaa.LQ
