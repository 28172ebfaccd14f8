/- The ladder's Cut, where none is of that sending, and in the bottom. No law is proved here. -/
import Derived.Test.YtkhdghlgkljdgaaLI
namespace Go.Proofs.Ytkhdghlgkljdgaa.LQ
open Go.Proofs Go.Proofs.Ytkhdghlgkljdgaa.CQ Go.Proofs.Ytkhdghlgkljdgaa.Ref02 Go.Shelf Go.RowKit Go.Deep Go.Sort Go.Proofs.Ytkhdghlgkljdgaa.SortPure Go.Proofs.Ytkhdghlgkljdgaa.Types Go.Proofs.Ytkhdghlgkljdgaa.Heap Go.Proofs.Ytkhdghlgkljdgaa.Row Go.Proofs.Ytkhdghlgkljdgaa.Ord Go.Proofs.Ytkhdghlgkljdgaa.Sorted Go.Proofs.YtkhdghlgkljdgaaW.PrintWords Go.Proofs.YtkhdghlgkljdgaaW.PrintLast Go.Proofs.YtkhdghlgkljdgaaW.PrintMore
set_option linter.unusedVariables false
set_option linter.unusedSimpArgs false
theorem inv_uq {b : List M} {ls : List (List M)} {sl : List M} (hi : Inv b ls sl) : Uq b ∧ (∀ a ∈ b, ∀ r ∈ ls, ∀ y ∈ r, ¬ isOf a.f0.f1 a.f3 y) ∧ (∀ r ∈ ls, Uq r) ∧ ls.Pairwise (fun r r' => ∀ x ∈ r, ∀ y ∈ r', ¬ isOf x.f0.f1 x.f3 y) := by
  have hp : (b ++ ls.flatten).Perm sl := by
    rw [hi.eq]
    exact List.Perm.append_left _ (perm_tl ls).symm
  have hu := (Uq.perm hp).2 hi.uq
  rw [uq_append] at hu
  obtain ⟨u1, u2, u3⟩ := hu
  obtain ⟨u4, u5⟩ := List.pairwise_flatten.1 u2
  exact ⟨u1, fun a ha r hr y hy => u3 a ha y (List.mem_flatten.2 ⟨r, hr, hy⟩), u4, u5⟩
theorem isOf_two {x y : Int} {a b : M} (h1 : isOf x y a) (h2 : isOf x y b) : isOf a.f0.f1 a.f3 b := ⟨h2.1.trans h1.1.symm, h2.2.trans h1.2.symm⟩
section
variable {w : World} {S : Nat → Prop} {g : Nat} {A : Option Addr} {c : Nat} {b : List M} {most : Int} {R : Option Addr} {rc : Nat} {rs : List Rg} {sl : List M}
theorem find_no (x y : Int) (h : LAt w S g A c b most R rc rs) (hi : Inv b (rs.map Rg.l) sl) (hn : ∀ m ∈ sl, ¬ isOf x y m) :
    Calls Try.prog 21 #[.pointer (some ⟨g, 0, none⟩), .int .i64 x, .int .i64 y] w fun e w' => e = .returned (.tuple #[.int .i64 0, .int .i64 0, .bool false]) ∧ Below w.heap.size w w' := by
  obtain ⟨z1, z2, z3, _⟩ := inv_sizes hi
  refine (find_call x y h z1 z2 (fun r hr => (z3 r hr).1)).mono ?_
  rintro e w' ⟨hc, hb⟩
  refine ⟨?_, hb⟩
  rcases hc with ⟨e, _⟩ | ⟨i, hi', e, q⟩ | ⟨k, hk, i, hi', e, q⟩
  · exact e
  · exact absurd q (hn _ (hi.mem.2 (.inl (List.getElem_mem hi'))))
  · exact absurd q (hn _ (hi.mem.2 (.inr ⟨rs[k].l, List.mem_map.2 ⟨_, List.getElem_mem hk, rfl⟩, List.getElem_mem hi'⟩)))
theorem find_b (x y : Int) (h : LAt w S g A c b most R rc rs) (hi : Inv b (rs.map Rg.l) sl) {i : Nat} (hib : i < b.length) (hz : isOf x y b[i]) :
    Calls Try.prog 21 #[.pointer (some ⟨g, 0, none⟩), .int .i64 x, .int .i64 y] w fun e w' => e = .returned (.tuple #[.int .i64 (-1), .int .i64 i, .bool true]) ∧ Below w.heap.size w w' := by
  obtain ⟨z1, z2, z3, _⟩ := inv_sizes hi
  obtain ⟨u1, u2, u3, u4⟩ := inv_uq hi
  refine (find_call x y h z1 z2 (fun r hr => (z3 r hr).1)).mono ?_
  rintro e w' ⟨hc, hb⟩
  refine ⟨?_, hb⟩
  rcases hc with ⟨e, q, _⟩ | ⟨j, hj, e, q⟩ | ⟨k, hk, j, hj, e, q⟩
  · exact absurd hz (q _ (List.getElem_mem hib))
  · have := u1.idx hj hib q hz
    subst this
    exact e
  · exact absurd (isOf_two hz q) (u2 _ (List.getElem_mem hib) rs[k].l (List.mem_map.2 ⟨_, List.getElem_mem hk, rfl⟩) _ (List.getElem_mem hj))
theorem find_r (x y : Int) (h : LAt w S g A c b most R rc rs) (hi : Inv b (rs.map Rg.l) sl) {k i : Nat} (hk : k < rs.length) (hir : i < rs[k].l.length) (hz : isOf x y rs[k].l[i]) :
    Calls Try.prog 21 #[.pointer (some ⟨g, 0, none⟩), .int .i64 x, .int .i64 y] w fun e w' => e = .returned (.tuple #[.int .i64 k, .int .i64 i, .bool true]) ∧ Below w.heap.size w w' := by
  obtain ⟨z1, z2, z3, _⟩ := inv_sizes hi
  obtain ⟨u1, u2, u3, u4⟩ := inv_uq hi
  have hm : ∀ j (hj : j < rs.length), rs[j].l ∈ rs.map Rg.l := fun j hj => List.mem_map.2 ⟨_, List.getElem_mem hj, rfl⟩
  refine (find_call x y h z1 z2 (fun r hr => (z3 r hr).1)).mono ?_
  rintro e w' ⟨hc, hb⟩
  refine ⟨?_, hb⟩
  rcases hc with ⟨e, _, q⟩ | ⟨j, hj, e, q⟩ | ⟨k', hk', j, hj, e, q⟩
  · exact absurd hz (q _ (List.getElem_mem hk) _ (List.getElem_mem hir))
  · exact absurd (isOf_two q hz) (u2 _ (List.getElem_mem hj) _ (hm k hk) _ (List.getElem_mem hir))
  · rcases Nat.lt_trichotomy k k' with e1 | e1 | e1
    · have := (List.pairwise_iff_getElem.1 u4) k k' (by simpa using hk) (by simpa using hk') e1
      simp only [List.getElem_map] at this
      exact absurd (isOf_two hz q) (this _ (List.getElem_mem hir) _ (List.getElem_mem hj))
    · subst e1
      have := (u3 _ (hm k hk)).idx hj hir q hz
      subst this
      exact e
    · have := (List.pairwise_iff_getElem.1 u4) k' k (by simpa using hk') (by simpa using hk) e1
      simp only [List.getElem_map] at this
      exact absurd (isOf_two q hz) (this _ (List.getElem_mem hj) _ (List.getElem_mem hir))
end
set_option maxHeartbeats 8000000 in
set_option maxRecDepth 100000 in
theorem cut_none {w : World} {S : Nat → Prop} {g : Nat} {most : Int} {sl : List M} (h : Lq w S g most sl) (hN : ∀ x, w.heap.size ≤ x → S x) (hm : most ≠ 0) (x y : Int) (hn : ∀ m ∈ sl, ¬ isOf x y m) :
    Calls Try.prog 12 #[.pointer (some ⟨g, 0, none⟩), .int .i64 x, .int .i64 y] w fun e w' => e = .returned (.tuple #[zA, .int .i64 6]) ∧ Lq w' S g most sl ∧ Only w w' S := by
  obtain ⟨A, c, b, R, rc, rs, h, hi⟩ := h
  obtain ⟨W, hW⟩ : ∃ W, w.alloc (.cells #[.int .i64 0, .int .i64 0, .int .i64 0, .int .i64 0, .int .i64 0, .int .i64 0, .bool false] 25) = W := ⟨_, rfl⟩
  obtain ⟨ro, hro⟩ : ∃ ro, w.heap.size = ro := ⟨_, rfl⟩
  have HRO := hide hro
  have HB0 : Hid (Below w.heap.size w W) := hide (by rw [← hW]; exact (Below.refl _ _).alloc (Nat.le_refl _) _)
  have HSW : Hid (W.heap.size = ro + 1) := hide (by rw [← hW, ← hro]; exact World.size_alloc _ _)
  have HO0 : Hid (Blk W ro 25 #[.int .i64 0, .int .i64 0, .int .i64 0, .int .i64 0, .int .i64 0, .int .i64 0, .bool false]) := hide (by rw [← hW, ← hro]; exact Blk.new _ _ _)
  have HH := hide h
  have HL0 := hide (h.below HB0.out)
  have HNC := hide (none_call hm HL0.out.c1)
  have HF := hide (find_no x y HL0.out hi hn)
  have HI := hide hi
  clear h hi hN hm hn
  unfold zA
  go_enter Try.func12, Try.ntmps12
  go_wp2_with (go_at_call 20; refine HNC.out.mono ?_; rintro e w1 ⟨rfl, hw1⟩; have hw2 := hw1.symm; subst hw2)
  refine HF.out.mono ?_
  rintro e w1 ⟨rfl, hb1⟩
  have HB1 := hide (below_step HB0.out hb1)
  have HR1 := hide (HO0.out.below' hb1)
  have HL1 := hide (HL0.out.below hb1)
  clear HF HNC hb1 hW hro
  have r0 : w1.cell? ⟨ro, 0, none⟩ = some (.int .i64 0) := HR1.out.cell 0
  have v0 : w1.frozen? ⟨ro, 0, none⟩ = false := HR1.out.frozen 0
  have r1 : w1.cell? ⟨ro, 1, none⟩ = some (.int .i64 0) := HR1.out.cell 1
  have v1 : w1.frozen? ⟨ro, 1, none⟩ = false := HR1.out.frozen 1
  have r2 : w1.cell? ⟨ro, 2, none⟩ = some (.int .i64 0) := HR1.out.cell 2
  have v2 : w1.frozen? ⟨ro, 2, none⟩ = false := HR1.out.frozen 2
  have r3 : w1.cell? ⟨ro, 3, none⟩ = some (.int .i64 0) := HR1.out.cell 3
  have v3 : w1.frozen? ⟨ro, 3, none⟩ = false := HR1.out.frozen 3
  have r4 : w1.cell? ⟨ro, 4, none⟩ = some (.int .i64 0) := HR1.out.cell 4
  have v4 : w1.frozen? ⟨ro, 4, none⟩ = false := HR1.out.frozen 4
  have r5 : w1.cell? ⟨ro, 5, none⟩ = some (.int .i64 0) := HR1.out.cell 5
  have v5 : w1.frozen? ⟨ro, 5, none⟩ = false := HR1.out.frozen 5
  have r6 : w1.cell? ⟨ro, 6, none⟩ = some (.bool false) := HR1.out.cell 6
  have v6 : w1.frozen? ⟨ro, 6, none⟩ = false := HR1.out.frozen 6
  go_wp2_with fail
  have hch : (((((((w1.setCell ⟨ro, 0, none⟩ (.int .i64 0)).setCell ⟨ro, 1, none⟩ (.int .i64 0)).setCell ⟨ro, 2, none⟩ (.int .i64 0)).setCell ⟨ro, 3, none⟩ (.int .i64 0)).setCell ⟨ro, 4, none⟩ (.int .i64 0)).setCell ⟨ro, 5, none⟩ (.int .i64 0)).setCell ⟨ro, 6, none⟩ (.bool false)) = w1.setCells ro 0 (c25 default) := rfl
  rw [hch]
  have hO4 := only_set7 w1 ro default
  have hR4 := set7 default default HR1.out
  have hO5 : Only w (w1.setCells ro 0 (c25 default)) (fun _ => False) := (only_of_below HB1.out _).step hO4 (fun x e hx => by have := HRO.out; omega)
  refine bodyPost_ret (v := .tuple #[.agg #[.int .i64 0, .int .i64 0, .int .i64 0, .int .i64 0, .int .i64 0, .int .i64 0, .bool false], .int .i64 6]) ?_ rfl ⟨rfl, ⟨A, c, b, R, rc, rs, HH.out.only hO5 (fun x _ e => e), HI.out⟩, hO5.mono (fun x e => e.elim)⟩
  refine results_list (rs := [.cell 6 25, .tmp 7]) rfl (by simp) ?_
  exact Vals.cell ro 25 _ (0, 0) _ rfl hR4 Try.underlying25 rfl (by kernel_rfl) (Vals.tmp Vals.nil)
set_option maxHeartbeats 8000000 in
set_option maxRecDepth 100000 in
theorem cut_b {w : World} {S : Nat → Prop} {g : Nat} {A : Option Addr} {c : Nat} {b : List M} {most : Int} {R : Option Addr} {rc : Nat} {rs : List Rg} {sl : List M} (h : LAt w S g A c b most R rc rs) (hi : Inv b (rs.map Rg.l) sl) (hN : ∀ x, w.heap.size ≤ x → S x) (hm : most ≠ 0) {i : Nat} (hib : i < b.length) {z : M} (hz : b[i] = z) :
    Calls Try.prog 12 #[.pointer (some ⟨g, 0, none⟩), .int .i64 z.f0.f1, .int .i64 z.f3] w fun e w' => e = .returned (.tuple #[.agg (cM z).toArray, .int .i64 0]) ∧ Lq w' S g most (sl.filter (oth z.f0.f1 z.f3)) ∧ Only w w' S := by
  obtain ⟨W, hW⟩ : ∃ W, w.alloc (.cells #[.int .i64 0, .int .i64 0, .int .i64 0, .int .i64 0, .int .i64 0, .int .i64 0, .bool false] 25) = W := ⟨_, rfl⟩
  obtain ⟨ro, hro⟩ : ∃ ro, w.heap.size = ro := ⟨_, rfl⟩
  have HRO := hide hro
  have HB0 : Hid (Below w.heap.size w W) := hide (by rw [← hW]; exact (Below.refl _ _).alloc (Nat.le_refl _) _)
  have HSW : Hid (W.heap.size = ro + 1) := hide (by rw [← hW, ← hro]; exact World.size_alloc _ _)
  have HO0 : Hid (Blk W ro 25 #[.int .i64 0, .int .i64 0, .int .i64 0, .int .i64 0, .int .i64 0, .int .i64 0, .bool false]) := hide (by rw [← hW, ← hro]; exact Blk.new _ _ _)
  have HN := hide hN
  have HL0 := hide ((h.to (T := fun x => S x ∧ x ≠ ro) (fun x hx hlt => ⟨hx, by omega⟩)).below HB0.out)
  have hiz : isOf z.f0.f1 z.f3 b[i] := by rw [hz]; exact ⟨rfl, rfl⟩
  have HNC := hide (none_call hm HL0.out.c1)
  have HF := hide (find_b z.f0.f1 z.f3 HL0.out hi hib hiz)
  have HI := hide (hi.cutb hib hiz)
  obtain ⟨z1, _⟩ := inv_sizes hi
  have HZ := hide hz
  clear h hi hN hm
  unfold cM c25
  go_enter Try.func12, Try.ntmps12
  go_wp2_with (go_at_call 20; refine HNC.out.mono ?_; rintro e w1 ⟨rfl, hw1⟩; have hw2 := hw1.symm; subst hw2)
  refine HF.out.mono ?_
  rintro e w1 ⟨rfl, hb1⟩
  have HB1 := hide (below_step HB0.out hb1)
  have HR1 := hide (HO0.out.below' hb1)
  have HL1 := hide (HL0.out.below hb1)
  have HSZ : Hid (ro < w1.heap.size ∧ W.heap.size ≤ w1.heap.size) := hide ⟨HR1.out.lt, hb1.size⟩
  have HRM := hide (remove_call HL1.out (fun x hx => ⟨HN.out x (by have := HSZ.out; omega), by have := HSZ.out; omega⟩) (by omega) hib HZ.out)
  unfold cM c25 at HRM
  clear HF HNC hb1 hW hro hz hiz
  go_wp2_with fail
  refine HRM.out.mono ?_
  rintro e w3 ⟨rfl, ⟨A3, c3, h3⟩, hO3⟩
  have HL3 := hide h3
  have HR3 := hide (HR1.out.only hO3 (fun e => e.2 rfl))
  have HON3 := hide ((only_of_below HB1.out S).step hO3 (fun x e _ => e.1))
  clear h3 hO3 HRM
  have r0 : w3.cell? ⟨ro, 0, none⟩ = some (.int .i64 0) := HR3.out.cell 0
  have v0 : w3.frozen? ⟨ro, 0, none⟩ = false := HR3.out.frozen 0
  have r1 : w3.cell? ⟨ro, 1, none⟩ = some (.int .i64 0) := HR3.out.cell 1
  have v1 : w3.frozen? ⟨ro, 1, none⟩ = false := HR3.out.frozen 1
  have r2 : w3.cell? ⟨ro, 2, none⟩ = some (.int .i64 0) := HR3.out.cell 2
  have v2 : w3.frozen? ⟨ro, 2, none⟩ = false := HR3.out.frozen 2
  have r3 : w3.cell? ⟨ro, 3, none⟩ = some (.int .i64 0) := HR3.out.cell 3
  have v3 : w3.frozen? ⟨ro, 3, none⟩ = false := HR3.out.frozen 3
  have r4 : w3.cell? ⟨ro, 4, none⟩ = some (.int .i64 0) := HR3.out.cell 4
  have v4 : w3.frozen? ⟨ro, 4, none⟩ = false := HR3.out.frozen 4
  have r5 : w3.cell? ⟨ro, 5, none⟩ = some (.int .i64 0) := HR3.out.cell 5
  have v5 : w3.frozen? ⟨ro, 5, none⟩ = false := HR3.out.frozen 5
  have r6 : w3.cell? ⟨ro, 6, none⟩ = some (.bool false) := HR3.out.cell 6
  have v6 : w3.frozen? ⟨ro, 6, none⟩ = false := HR3.out.frozen 6
  go_wp2_with fail
  have hch : (((((((w3.setCell ⟨ro, 0, none⟩ (.int .i64 z.f0.f0)).setCell ⟨ro, 1, none⟩ (.int .i64 z.f0.f1)).setCell ⟨ro, 2, none⟩ (.int .i64 z.f0.f2)).setCell ⟨ro, 3, none⟩ (.int .i64 z.f1)).setCell ⟨ro, 4, none⟩ (.int .i64 z.f2)).setCell ⟨ro, 5, none⟩ (.int .i64 z.f3)).setCell ⟨ro, 6, none⟩ (.bool z.f4)) = w3.setCells ro 0 (c25 z) := rfl
  rw [hch]
  have hO4 := only_set7 w3 ro z
  have hR4 := set7 default z HR3.out
  refine bodyPost_ret (v := .tuple #[.agg #[.int .i64 z.f0.f0, .int .i64 z.f0.f1, .int .i64 z.f0.f2, .int .i64 z.f1, .int .i64 z.f2, .int .i64 z.f3, .bool z.f4], .int .i64 0]) ?_ rfl ⟨rfl, ⟨A3, c3, _, R, rc, rs, (HL3.out.only hO4 (fun x hx e => hx.2 e)).to (fun x hx _ => hx.1), HI.out⟩, HON3.out.step hO4 (fun x e hx => by have := HRO.out; omega)⟩
  refine results_list (rs := [.cell 6 25, .tmp 7]) rfl (by simp) ?_
  exact Vals.cell ro 25 _ (0, 0) _ rfl hR4 Try.underlying25 rfl (by kernel_rfl) (Vals.tmp Vals.nil)
end Go.Proofs.Ytkhdghlgkljdgaa.LQ
