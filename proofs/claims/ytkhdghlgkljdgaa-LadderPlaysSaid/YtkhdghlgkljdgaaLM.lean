/- The ladder's Push. No law is proved here. -/
import Derived.Test.YtkhdghlgkljdgaaLL
namespace Go.Proofs.Ytkhdghlgkljdgaa.LQ
open Go.Proofs Go.Proofs.Ytkhdghlgkljdgaa.CQ Go.Proofs.Ytkhdghlgkljdgaa.Ref02 Go.Shelf Go.RowKit Go.Deep Go.Sort Go.Proofs.Ytkhdghlgkljdgaa.SortPure Go.Proofs.Ytkhdghlgkljdgaa.Types Go.Proofs.Ytkhdghlgkljdgaa.Heap Go.Proofs.Ytkhdghlgkljdgaa.Row Go.Proofs.Ytkhdghlgkljdgaa.Ord Go.Proofs.Ytkhdghlgkljdgaa.Sorted Go.Proofs.YtkhdghlgkljdgaaW.PrintWords Go.Proofs.YtkhdghlgkljdgaaW.PrintLast Go.Proofs.YtkhdghlgkljdgaaW.PrintMore
set_option linter.unusedVariables false
set_option linter.unusedSimpArgs false
theorem grw_call {P : Program} {f : FuncId} {args : Array Value} {v : Value} {Z : World → Prop} {w : World} (hz : ∀ W, Gr w W → Z W) (h : ∀ W, Z W → Calls P f args W fun e w' => e = .returned v ∧ Gr W w') (n : Nat) (os : Array Obj) :
    Calls P f args (grow (w.drewN n) os) fun e w'' => e = .returned v ∧ ∃ p : GrownBy, w'' = grow (w.drewN p.n) p.os := by
  refine (h _ (hz _ (Gr.of n os))).mono ?_
  rintro e w' ⟨rfl, hg⟩
  obtain ⟨q, os', rfl⟩ := (Gr.of (w := w) n os).trans hg
  exact ⟨rfl, ⟨q, os'⟩, rfl⟩
theorem own_one {w : World} (m : M) : OwnM (w.alloc (.cells (cM m).toArray tM)) w.heap.size (.slice (some ⟨w.heap.size, 0, none⟩) 1 1) [m] := by
  have hl : (cM m).length = 7 := flatM.len m
  refine ⟨length_flat flatM _, .inr ⟨w.heap.size, 1, _, rfl, Nat.le_refl _, heap_alloc_new w _, Nat.le_refl _, by decide, hl, ?_⟩⟩
  show List.take 7 (cM m) = [m].flatMap cM
  rw [List.take_of_length_le (by rw [hl]; exact Nat.le_refl _)]
  simp
section
variable {w w' : World} {S : Nat → Prop} {g : Nat} {most : Int} {sl : List M}
theorem len_lq (h : Lq w S g most sl) (hm : most ≠ 0) : Calls Try.prog 11 #[.pointer (some ⟨g, 0, none⟩)] w fun e w' => e = .returned (.int .i64 (sl.length : Nat)) ∧ w' = w := by
  obtain ⟨A, c, b, R, rc, rs, h, hi⟩ := h
  obtain ⟨z1, z2, z3, z4⟩ := inv_sizes hi
  exact len_call h hm z2 z4 hi.len
theorem all_lq (h : Lq w S g most sl) (hm : most ≠ 0) : Calls Try.prog 16 #[.pointer (some ⟨g, 0, none⟩)] w (Made w sl) := by
  obtain ⟨A, c, b, R, rc, rs, h, hi⟩ := h
  obtain ⟨z1, z2, z3, z4⟩ := inv_sizes hi
  have := all_call h hm z2 (by have := hi.len; omega)
  rwa [hi.all] at this
end
set_option maxHeartbeats 8000000 in
set_option maxRecDepth 100000 in
theorem push_old {w : World} {S : Nat → Prop} {g : Nat} {most : Int} {sl : List M} (h : Lq w S g most sl) (hm : most ≠ 0) (m : M) (hx : ∃ x ∈ sl, isOf m.f0.f1 m.f3 x) :
    Calls Try.prog 10 #[.pointer (some ⟨g, 0, none⟩), .agg (cM m).toArray] w fun e w' => e = .returned (.int .i64 8) ∧ Lq w' S g most sl ∧ Below w.heap.size w w' := by
  obtain ⟨A, c, b, R, rc, rs, h, hi⟩ := h
  have HH := hide h
  have HI := hide hi
  have HB0 := hide ((Below.refl w.heap.size w).alloc (Nat.le_refl _) (.cells #[.int .i64 m.f0.f0, .int .i64 m.f0.f1, .int .i64 m.f0.f2, .int .i64 m.f1, .int .i64 m.f2, .int .i64 m.f3, .bool m.f4] 25))
  have HM0 := hide (Blk.new w 25 #[.int .i64 m.f0.f0, .int .i64 m.f0.f1, .int .i64 m.f0.f2, .int .i64 m.f1, .int .i64 m.f2, .int .i64 m.f3, .bool m.f4])
  obtain ⟨W, hW⟩ : ∃ W, w.alloc (.cells #[.int .i64 m.f0.f0, .int .i64 m.f0.f1, .int .i64 m.f0.f2, .int .i64 m.f1, .int .i64 m.f2, .int .i64 m.f3, .bool m.f4] 25) = W := ⟨_, rfl⟩
  obtain ⟨gm, hgm⟩ : ∃ gm, w.heap.size = gm := ⟨_, rfl⟩
  rw [hW] at HB0 HM0
  rw [hgm] at HM0
  have HL0 := hide (h.below HB0.out)
  have HNC := hide (none_call hm HL0.out.c1)
  obtain ⟨z1, z2, z3, -⟩ := inv_sizes hi
  have HF : Hid (Calls Try.prog 21 #[.pointer (some ⟨g, 0, none⟩), .int .i64 m.f0.f1, .int .i64 m.f3] W fun e w' => (∃ k i : Int, e = .returned (.tuple #[.int .i64 k, .int .i64 i, .bool true])) ∧ Below W.heap.size W w') := hide (by
    refine (find_call m.f0.f1 m.f3 HL0.out z1 z2 (fun r hr => (z3 r hr).1)).mono ?_
    rintro e w' ⟨hc, hb⟩
    refine ⟨?_, hb⟩
    rcases hc with ⟨e, q1, q2⟩ | ⟨i, hi', e, q⟩ | ⟨k, hk, i, hi', e, q⟩
    · obtain ⟨x, hx1, hx2⟩ := hx
      rcases hi.mem.1 hx1 with q | ⟨l, hl, q⟩
      · exact absurd hx2 (q1 x q)
      · obtain ⟨r, hr, rfl⟩ := List.mem_map.1 hl
        exact absurd hx2 (q2 r hr x q)
    · exact ⟨_, _, e⟩
    · exact ⟨_, _, e⟩)
  clear h hi hx hm z1 z2 z3
  have x0 : W.cell? ⟨gm, 0, none⟩ = some (.int .i64 m.f0.f0) := HM0.out.cell 0
  have x1 : W.cell? ⟨gm, 1, none⟩ = some (.int .i64 m.f0.f1) := HM0.out.cell 1
  have x2 : W.cell? ⟨gm, 2, none⟩ = some (.int .i64 m.f0.f2) := HM0.out.cell 2
  have x3 : W.cell? ⟨gm, 3, none⟩ = some (.int .i64 m.f1) := HM0.out.cell 3
  have x4 : W.cell? ⟨gm, 4, none⟩ = some (.int .i64 m.f2) := HM0.out.cell 4
  have x5 : W.cell? ⟨gm, 5, none⟩ = some (.int .i64 m.f3) := HM0.out.cell 5
  have x6 : W.cell? ⟨gm, 6, none⟩ = some (.bool m.f4) := HM0.out.cell 6
  unfold cM c25
  go_enter Try.func10, Try.ntmps10
  go_wp2_with (first
    | (go_at_call 20; refine HNC.out.mono ?_; rintro e w1 ⟨rfl, hw1⟩; have hw2 := hw1.symm; subst hw2)
    | (go_at_call 21; refine HF.out.mono ?_; rintro e w1 ⟨⟨k, i, rfl⟩, hb1⟩; have HB1 := hide (below_step HB0.out hb1); clear hb1))
  go_ret
  exact ⟨rfl, ⟨A, c, b, R, rc, rs, HH.out.below HB1.out, HI.out⟩, HB1.out⟩
set_option maxHeartbeats 8000000 in
set_option maxRecDepth 100000 in
theorem push_full {w : World} {S : Nat → Prop} {g : Nat} {most : Int} {sl : List M} (h : Lq w S g most sl) (hm : most ≠ 0) (m : M) (hx : ∀ x ∈ sl, ¬ isOf m.f0.f1 m.f3 x) (hl : sl.length = 16384) :
    Calls Try.prog 10 #[.pointer (some ⟨g, 0, none⟩), .agg (cM m).toArray] w fun e w' => e = .returned (.int .i64 9) ∧ Lq w' S g most sl ∧ Below w.heap.size w w' := by
  obtain ⟨A, c, b, R, rc, rs, h, hi⟩ := h
  have HH := hide h
  have HI := hide hi
  have HB0 := hide ((Below.refl w.heap.size w).alloc (Nat.le_refl _) (.cells #[.int .i64 m.f0.f0, .int .i64 m.f0.f1, .int .i64 m.f0.f2, .int .i64 m.f1, .int .i64 m.f2, .int .i64 m.f3, .bool m.f4] 25))
  have HM0 := hide (Blk.new w 25 #[.int .i64 m.f0.f0, .int .i64 m.f0.f1, .int .i64 m.f0.f2, .int .i64 m.f1, .int .i64 m.f2, .int .i64 m.f3, .bool m.f4])
  obtain ⟨W, hW⟩ : ∃ W, w.alloc (.cells #[.int .i64 m.f0.f0, .int .i64 m.f0.f1, .int .i64 m.f0.f2, .int .i64 m.f1, .int .i64 m.f2, .int .i64 m.f3, .bool m.f4] 25) = W := ⟨_, rfl⟩
  obtain ⟨gm, hgm⟩ : ∃ gm, w.heap.size = gm := ⟨_, rfl⟩
  rw [hW] at HB0 HM0
  rw [hgm] at HM0
  have HL0 := hide (h.below HB0.out)
  have HNC := hide (none_call hm HL0.out.c1)
  have HF := hide (find_no m.f0.f1 m.f3 HL0.out hi hx)
  have HQ := hide (fun (W' : World) (hb : Below W.heap.size W W') => len_lq ⟨A, c, b, R, rc, rs, HL0.out.below hb, hi⟩ hm)
  rw [hl] at HQ
  clear h hi hx hm
  have x0 : W.cell? ⟨gm, 0, none⟩ = some (.int .i64 m.f0.f0) := HM0.out.cell 0
  have x1 : W.cell? ⟨gm, 1, none⟩ = some (.int .i64 m.f0.f1) := HM0.out.cell 1
  have x2 : W.cell? ⟨gm, 2, none⟩ = some (.int .i64 m.f0.f2) := HM0.out.cell 2
  have x3 : W.cell? ⟨gm, 3, none⟩ = some (.int .i64 m.f1) := HM0.out.cell 3
  have x4 : W.cell? ⟨gm, 4, none⟩ = some (.int .i64 m.f2) := HM0.out.cell 4
  have x5 : W.cell? ⟨gm, 5, none⟩ = some (.int .i64 m.f3) := HM0.out.cell 5
  have x6 : W.cell? ⟨gm, 6, none⟩ = some (.bool m.f4) := HM0.out.cell 6
  unfold cM c25
  go_enter Try.func10, Try.ntmps10
  go_wp2_with (first
    | (go_at_call 20; refine HNC.out.mono ?_; rintro e w1 ⟨rfl, hw1⟩; have hw2 := hw1.symm; subst hw2)
    | (go_at_call 21; refine HF.out.mono ?_; rintro e w1 ⟨rfl, hb1⟩; have HB1 := hide (below_step HB0.out hb1); have HBF := hide hb1; clear hb1)
    | (go_at_call 11; refine (HQ.out _ HBF.out).mono ?_; rintro e w2 ⟨rfl, hw1⟩; have hw2 := hw1.symm; subst hw2))
  go_ret
  exact ⟨rfl, ⟨A, c, b, R, rc, rs, HH.out.below HB1.out, HI.out⟩, HB1.out⟩
end Go.Proofs.Ytkhdghlgkljdgaa.LQ
