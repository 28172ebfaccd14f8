/- The ladder's First and Pop. No law is proved here. -/
import Derived.Test.YtkhdghlgkljdgaaLG
namespace Go.Proofs.Ytkhdghlgkljdgaa.LQ
open Go.Proofs Go.Proofs.Ytkhdghlgkljdgaa.CQ Go.Proofs.Ytkhdghlgkljdgaa.Ref02 Go.Shelf Go.RowKit Go.Deep Go.Sort Go.Proofs.Ytkhdghlgkljdgaa.SortPure Go.Proofs.Ytkhdghlgkljdgaa.Types Go.Proofs.Ytkhdghlgkljdgaa.Heap Go.Proofs.Ytkhdghlgkljdgaa.Row Go.Proofs.Ytkhdghlgkljdgaa.Ord Go.Proofs.Ytkhdghlgkljdgaa.Sorted Go.Proofs.YtkhdghlgkljdgaaW.PrintWords Go.Proofs.YtkhdghlgkljdgaaW.PrintLast Go.Proofs.YtkhdghlgkljdgaaW.PrintMore
set_option linter.unusedVariables false
set_option linter.unusedSimpArgs false
/-- A ladder that holds sl, in order. -/
def Lq (w : World) (S : Nat → Prop) (g : Nat) (most : Int) (sl : List M) : Prop := ∃ A c b R rc rs, LAt w S g A c b most R rc rs ∧ Inv b (rs.map Rg.l) sl
def zA : Value := .agg #[.int .i64 0, .int .i64 0, .int .i64 0, .int .i64 0, .int .i64 0, .int .i64 0, .bool false]
section
variable {w w' : World} {S T : Nat → Prop} {g : Nat} {most : Int} {sl : List M}
theorem Lq.only (h : Lq w S g most sl) (hO : Only w w' T) (hT : ∀ x, S x → ¬ T x) : Lq w' S g most sl := by
  obtain ⟨A, c, b, R, rc, rs, h, hi⟩ := h
  exact ⟨A, c, b, R, rc, rs, h.only hO hT, hi⟩
theorem Lq.below (h : Lq w S g most sl) (hb : Below w.heap.size w w') : Lq w' S g most sl := by
  obtain ⟨A, c, b, R, rc, rs, h, hi⟩ := h
  exact ⟨A, c, b, R, rc, rs, h.below hb, hi⟩
theorem Lq.to (h : Lq w S g most sl) (hT : ∀ x, S x → x < w.heap.size → T x) : Lq w T g most sl := by
  obtain ⟨A, c, b, R, rc, rs, h, hi⟩ := h
  exact ⟨A, c, b, R, rc, rs, h.to hT, hi⟩
theorem Lq.lt (h : Lq w S g most sl) : g < w.heap.size := by
  obtain ⟨A, c, b, R, rc, rs, h, hi⟩ := h
  exact h.blk.lt
theorem Lq.inv (h : Lq w S g most sl) : Srt befM sl ∧ Uq sl ∧ sl.length ≤ 16384 := by
  obtain ⟨A, c, b, R, rc, rs, h, hi⟩ := h
  exact ⟨hi.srt, hi.uq, hi.len⟩
theorem inv_sizes {b : List M} {rs : List Rg} (hi : Inv b (rs.map Rg.l) sl) : b.length ≤ 16384 ∧ rs.length ≤ 16384 ∧ (∀ r ∈ rs, r.l.length ≤ 16384 ∧ r.l ≠ []) ∧ (b ++ (rs.map Rg.l).flatten).length = sl.length := by
  have h1 := hi.count
  have h2 := hi.len
  rw [List.length_map] at h1
  refine ⟨by omega, by omega, fun r hr => ⟨?_, hi.ne _ (List.mem_map.2 ⟨r, hr, rfl⟩)⟩, ?_⟩
  · have := hi.rung (List.mem_map.2 ⟨r, hr, rfl⟩)
    omega
  · rw [length_cat, hi.length]
end
theorem fill_call {w : World} {S : Nat → Prop} {g : Nat} {A : Option Addr} {c : Nat} {b : List M} {most : Int} {R : Option Addr} {rc : Nat} {rs : List Rg} {sl : List M} (h : LAt w S g A c b most R rc rs) (hi : Inv b (rs.map Rg.l) sl) (hN : ∀ x, w.heap.size ≤ x → S x) :
    Calls Try.prog 29 #[.pointer (some ⟨g, 0, none⟩)] w fun e w' => e = .returned (.tuple #[]) ∧ (∃ A c b R rc rs, LAt w' S g A c b most R rc rs ∧ Inv b (rs.map Rg.l) sl ∧ (b = [] → sl = [])) ∧ Only w w' S := by
  obtain ⟨z1, z2, z3, _⟩ := inv_sizes hi
  by_cases hb : b ≠ [] ∨ rs = []
  · refine (fill_no h hb (by omega) z2).mono ?_
    rintro e w' ⟨rfl, h', hb'⟩
    refine ⟨rfl, ⟨A, c, b, R, rc, rs, h', hi, fun e => ?_⟩, only_of_below hb' _⟩
    rcases hb with q | q
    · exact absurd e q
    · rw [hi.eq, e, q]; rfl
  · have hb1 : b = [] := Classical.byContradiction (fun q => hb (.inl q))
    have hb2 : rs ≠ [] := fun q => hb (.inr q)
    subst hb1
    rcases List.eq_nil_or_concat rs with e | ⟨pre, r, e⟩
    · exact absurd e hb2
    · subst e
      simp only [List.concat_eq_append] at h hi z2 z3 ⊢
      have hr := z3 r (by simp)
      have hp : pre.length ≤ 16383 := by rw [List.length_append, List.length_singleton] at z2; omega
      refine (fill_yes h hN hr.2 hr.1 hp).mono ?_
      rintro e w' ⟨rfl, ⟨A', c', h'⟩, hO⟩
      have hi' : Inv [] (pre.map Rg.l ++ [r.l]) sl := by simpa using hi
      refine ⟨rfl, ⟨A', c', _, R, rc, pre, h', hi'.fill, fun e => ?_⟩, hO⟩
      have := congrArg List.length e
      rw [length_isort] at this
      exact absurd (List.eq_nil_of_length_eq_zero this) hr.2
set_option maxHeartbeats 8000000 in
set_option maxRecDepth 100000 in
theorem first_none {w : World} {S : Nat → Prop} {g : Nat} {most : Int} (h : Lq w S g most []) (hN : ∀ x, w.heap.size ≤ x → S x) (hm : most ≠ 0) :
    Calls Try.prog 17 #[.pointer (some ⟨g, 0, none⟩)] w fun e w' => e = .returned (.tuple #[zA, .int .i64 6]) ∧ Lq w' S g most [] ∧ Only w w' S := by
  obtain ⟨A, c, b, R, rc, rs, h, hi⟩ := h
  obtain ⟨W, hW⟩ : ∃ W, w.alloc (.cells #[.int .i64 0, .int .i64 0, .int .i64 0, .int .i64 0, .int .i64 0, .int .i64 0, .bool false] 25) = W := ⟨_, rfl⟩
  obtain ⟨ro, hro⟩ : ∃ ro, w.heap.size = ro := ⟨_, rfl⟩
  have HRO := hide hro
  have HB0 : Hid (Below w.heap.size w W) := hide (by rw [← hW]; exact (Below.refl _ _).alloc (Nat.le_refl _) _)
  have HSW : Hid (W.heap.size = ro + 1) := hide (by rw [← hW, ← hro]; exact World.size_alloc _ _)
  have HO0 : Hid (Blk W ro 25 #[.int .i64 0, .int .i64 0, .int .i64 0, .int .i64 0, .int .i64 0, .int .i64 0, .bool false]) := hide (by rw [← hW, ← hro]; exact Blk.new _ _ _)
  have HN := hide hN
  have HL0 := hide ((h.to (T := fun x => S x ∧ x ≠ ro) (fun x hx hlt => ⟨hx, by omega⟩)).below HB0.out)
  have HGS : Hid (g < w.heap.size) := hide h.blk.lt
  have HNC := hide (none_call hm HL0.out.c1)
  have HF := hide (fill_call HL0.out hi (fun x hx => ⟨HN.out x (by have := HSW.out; omega), by have := HSW.out; omega⟩))
  clear h hi hN hm
  unfold zA
  go_enter Try.func17, Try.ntmps17
  go_upto_region 4 with (first
    | (go_at_call 20; refine HNC.out.mono ?_; rintro e w1 ⟨rfl, hw1⟩; have hw2 := hw1.symm; subst hw2)
    | (go_at_call 29; refine HF.out.mono ?_; rintro e w1 ⟨rfl, hx, hO1⟩; have HX := hide hx; have HO1 := hide hO1; clear hx hO1))
  obtain ⟨A1, c1, b1, R1, rc1, rs1, h1, hi1, he1⟩ := HX.out
  have hb1 : b1 = [] := by
    have := hi1.eq
    cases b1 with
    | nil => rfl
    | cons y l => cases this
  subst hb1
  have HL1 := hide h1
  have HI1 := hide hi1
  have c0 : w1.cell? ⟨g, 0, none⟩ = some (.slice A1 ([] : List M).length c1) := h1.c0
  have HR1 := hide (HO0.out.only HO1.out (fun e => e.2 rfl))
  clear HX h1 hi1 he1 hW hro HNC HF
  have r0 : w1.cell? ⟨ro, 0, none⟩ = some (.int .i64 0) := HR1.out.cell 0
  have v0 : w1.frozen? ⟨ro, 0, none⟩ = false := HR1.out.frozen 0
  have r1 : w1.cell? ⟨ro, 1, none⟩ = some (.int .i64 0) := HR1.out.cell 1
  have v1 : w1.frozen? ⟨ro, 1, none⟩ = false := HR1.out.frozen 1
  have r2 : w1.cell? ⟨ro, 2, none⟩ = some (.int .i64 0) := HR1.out.cell 2
  have v2 : w1.frozen? ⟨ro, 2, none⟩ = false := HR1.out.frozen 2
  have r3 : w1.cell? ⟨ro, 3, none⟩ = some (.int .i64 0) := HR1.out.cell 3
  have v3 : w1.frozen? ⟨ro, 3, none⟩ = false := HR1.out.frozen 3
  have r4 : w1.cell? ⟨ro, 4, none⟩ = some (.int .i64 0) := HR1.out.cell 4
  have v4 : w1.frozen? ⟨ro, 4, none⟩ = false := HR1.out.frozen 4
  have r5 : w1.cell? ⟨ro, 5, none⟩ = some (.int .i64 0) := HR1.out.cell 5
  have v5 : w1.frozen? ⟨ro, 5, none⟩ = false := HR1.out.frozen 5
  have r6 : w1.cell? ⟨ro, 6, none⟩ = some (.bool false) := HR1.out.cell 6
  have v6 : w1.frozen? ⟨ro, 6, none⟩ = false := HR1.out.frozen 6
  go_wp2_with fail
  have hch : (((((((w1.setCell ⟨ro, 0, none⟩ (.int .i64 0)).setCell ⟨ro, 1, none⟩ (.int .i64 0)).setCell ⟨ro, 2, none⟩ (.int .i64 0)).setCell ⟨ro, 3, none⟩ (.int .i64 0)).setCell ⟨ro, 4, none⟩ (.int .i64 0)).setCell ⟨ro, 5, none⟩ (.int .i64 0)).setCell ⟨ro, 6, none⟩ (.bool false)) = w1.setCells ro 0 (c25 default) := rfl
  rw [hch]
  have hO4 := only_set7 w1 ro default
  have hR4 := set7 default default HR1.out
  refine bodyPost_ret (v := .tuple #[.agg #[.int .i64 0, .int .i64 0, .int .i64 0, .int .i64 0, .int .i64 0, .int .i64 0, .bool false], .int .i64 6]) ?_ rfl ⟨rfl, ⟨A1, c1, [], R1, rc1, rs1, (HL1.out.only hO4 (fun x hx e => hx.2 e)).to (fun x hx _ => hx.1), HI1.out⟩, ?_⟩
  · refine results_list (rs := [.cell 2 25, .tmp 3]) rfl (by simp) ?_
    exact Vals.cell ro 25 _ (0, 0) _ rfl hR4 Try.underlying25 rfl (by kernel_rfl) (Vals.tmp Vals.nil)
  · exact ((only_of_below HB0.out S).step HO1.out (fun x e _ => e.1)).step hO4 (fun x e hx => by have := HRO.out; omega)
set_option maxHeartbeats 8000000 in
set_option maxRecDepth 100000 in
theorem first_some {w : World} {S : Nat → Prop} {g : Nat} {most : Int} {z : M} {s : List M} (h : Lq w S g most (z :: s)) (hN : ∀ x, w.heap.size ≤ x → S x) (hm : most ≠ 0) :
    Calls Try.prog 17 #[.pointer (some ⟨g, 0, none⟩)] w fun e w' => e = .returned (.tuple #[.agg (cM z).toArray, .int .i64 0]) ∧ (∃ A c b R rc rs, LAt w' S g A c (z :: b) most R rc rs ∧ Inv (z :: b) (rs.map Rg.l) (z :: s)) ∧ Only w w' S := by
  obtain ⟨A, c, b, R, rc, rs, h, hi⟩ := h
  obtain ⟨W, hW⟩ : ∃ W, w.alloc (.cells #[.int .i64 0, .int .i64 0, .int .i64 0, .int .i64 0, .int .i64 0, .int .i64 0, .bool false] 25) = W := ⟨_, rfl⟩
  obtain ⟨ro, hro⟩ : ∃ ro, w.heap.size = ro := ⟨_, rfl⟩
  have HRO := hide hro
  have HB0 : Hid (Below w.heap.size w W) := hide (by rw [← hW]; exact (Below.refl _ _).alloc (Nat.le_refl _) _)
  have HSW : Hid (W.heap.size = ro + 1) := hide (by rw [← hW, ← hro]; exact World.size_alloc _ _)
  have HO0 : Hid (Blk W ro 25 #[.int .i64 0, .int .i64 0, .int .i64 0, .int .i64 0, .int .i64 0, .int .i64 0, .bool false]) := hide (by rw [← hW, ← hro]; exact Blk.new _ _ _)
  have HN := hide hN
  have HL0 := hide ((h.to (T := fun x => S x ∧ x ≠ ro) (fun x hx hlt => ⟨hx, by omega⟩)).below HB0.out)
  have HGS : Hid (g < w.heap.size) := hide h.blk.lt
  have HNC := hide (none_call hm HL0.out.c1)
  have HF := hide (fill_call HL0.out hi (fun x hx => ⟨HN.out x (by have := HSW.out; omega), by have := HSW.out; omega⟩))
  clear h hi hN hm
  unfold cM c25
  go_enter Try.func17, Try.ntmps17
  go_upto_region 4 with (first
    | (go_at_call 20; refine HNC.out.mono ?_; rintro e w1 ⟨rfl, hw1⟩; have hw2 := hw1.symm; subst hw2)
    | (go_at_call 29; refine HF.out.mono ?_; rintro e w1 ⟨rfl, hx, hO1⟩; have HX := hide hx; have HO1 := hide hO1; clear hx hO1))
  obtain ⟨A1, c1, b1, R1, rc1, rs1, h1, hi1, he1⟩ := HX.out
  obtain ⟨y, b2, hb2⟩ : ∃ y b2, b1 = y :: b2 := by
    cases b1 with
    | nil => exact absurd (he1 rfl) (by simp)
    | cons y l => exact ⟨y, l, rfl⟩
  subst hb2
  have hyz : z = y := by
    have := hi1.eq
    rw [List.cons_append] at this
    injection this
  subst hyz
  have HL1 := hide h1
  have HI1 := hide hi1
  obtain ⟨z1, _, _, _⟩ := inv_sizes hi1
  obtain ⟨-, hc1, x, rfl⟩ := own_some h1.bot (by simp)
  obtain ⟨q0, q1, q2, q3, q4, q5, q6, _⟩ := own_at h1.bot rfl (k := 0) (by simp) (t := z) rfl
  rw [Nat.zero_mul] at q0 q1 q2 q3 q4 q5 q6
  simp only [Nat.zero_add] at q1 q2 q3 q4 q5 q6
  have c0 : w1.cell? ⟨g, 0, none⟩ = some (.slice (some ⟨x, 0, none⟩) (z :: b2).length c1) := h1.c0
  obtain ⟨n, hn⟩ : ∃ n, (z :: b2).length = n := ⟨_, rfl⟩
  have hn0 : 0 < n := by rw [← hn]; simp
  rw [hn] at c0 z1
  have n1 : ((n : Int) == 0) = false := beq_eq_false_iff_ne.2 (by omega)
  have n2 : (n == 0) = false := beq_eq_false_iff_ne.2 (by omega)
  have n3 : (0 : Int) < (n : Int) := by omega
  have n4 : ¬ n = 0 := by omega
  have HR1 := hide (HO0.out.only HO1.out (fun e => e.2 rfl))
  clear HX h1 hi1 he1 hW hro HNC HF hc1 hn
  have r0 : w1.cell? ⟨ro, 0, none⟩ = some (.int .i64 0) := HR1.out.cell 0
  have v0 : w1.frozen? ⟨ro, 0, none⟩ = false := HR1.out.frozen 0
  have r1 : w1.cell? ⟨ro, 1, none⟩ = some (.int .i64 0) := HR1.out.cell 1
  have v1 : w1.frozen? ⟨ro, 1, none⟩ = false := HR1.out.frozen 1
  have r2 : w1.cell? ⟨ro, 2, none⟩ = some (.int .i64 0) := HR1.out.cell 2
  have v2 : w1.frozen? ⟨ro, 2, none⟩ = false := HR1.out.frozen 2
  have r3 : w1.cell? ⟨ro, 3, none⟩ = some (.int .i64 0) := HR1.out.cell 3
  have v3 : w1.frozen? ⟨ro, 3, none⟩ = false := HR1.out.frozen 3
  have r4 : w1.cell? ⟨ro, 4, none⟩ = some (.int .i64 0) := HR1.out.cell 4
  have v4 : w1.frozen? ⟨ro, 4, none⟩ = false := HR1.out.frozen 4
  have r5 : w1.cell? ⟨ro, 5, none⟩ = some (.int .i64 0) := HR1.out.cell 5
  have v5 : w1.frozen? ⟨ro, 5, none⟩ = false := HR1.out.frozen 5
  have r6 : w1.cell? ⟨ro, 6, none⟩ = some (.bool false) := HR1.out.cell 6
  have v6 : w1.frozen? ⟨ro, 6, none⟩ = false := HR1.out.frozen 6
  go_wp2_with fail
  have hch : (((((((w1.setCell ⟨ro, 0, none⟩ (.int .i64 z.f0.f0)).setCell ⟨ro, 1, none⟩ (.int .i64 z.f0.f1)).setCell ⟨ro, 2, none⟩ (.int .i64 z.f0.f2)).setCell ⟨ro, 3, none⟩ (.int .i64 z.f1)).setCell ⟨ro, 4, none⟩ (.int .i64 z.f2)).setCell ⟨ro, 5, none⟩ (.int .i64 z.f3)).setCell ⟨ro, 6, none⟩ (.bool z.f4)) = w1.setCells ro 0 (c25 z) := rfl
  rw [hch]
  have hO4 := only_set7 w1 ro z
  have hR4 := set7 default z HR1.out
  refine bodyPost_ret (v := .tuple #[.agg #[.int .i64 z.f0.f0, .int .i64 z.f0.f1, .int .i64 z.f0.f2, .int .i64 z.f1, .int .i64 z.f2, .int .i64 z.f3, .bool z.f4], .int .i64 0]) ?_ rfl ⟨rfl, ⟨_, c1, b2, R1, rc1, rs1, (HL1.out.only hO4 (fun x hx e => hx.2 e)).to (fun x hx _ => hx.1), HI1.out⟩, ?_⟩
  · refine results_list (rs := [.cell 2 25, .tmp 3]) rfl (by simp) ?_
    exact Vals.cell ro 25 _ (0, 0) _ rfl hR4 Try.underlying25 rfl (by kernel_rfl) (Vals.tmp Vals.nil)
  · exact ((only_of_below HB0.out S).step HO1.out (fun x e _ => e.1)).step hO4 (fun x e hx => by have := HRO.out; omega)
end Go.Proofs.Ytkhdghlgkljdgaa.LQ
