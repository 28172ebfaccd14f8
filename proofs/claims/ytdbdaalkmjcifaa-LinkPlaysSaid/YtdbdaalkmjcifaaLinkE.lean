/- The contract of link's at, where the way is strict and not empty. No law is proved here. -/
import Derived.Test.YtdbdaalkmjcifaaLinkD
set_option linter.unusedVariables false
set_option linter.unusedSimpArgs false
namespace Go.Proofs.Ytdbdaalkmjcifaa.Link
open Go.Proofs Go.RowKit Go.Sort Go.Proofs.Ytdbdaalkmjcifaa.Types Go.Proofs.Ytdbdaalkmjcifaa.Heap Go.Proofs.Ytdbdaalkmjcifaa.Row Go.Proofs.YtdbdaalkmjcifaaW.PrintWords Go.Proofs.YtdbdaalkmjcifaaW.PrintLast Go.Proofs.YtdbdaalkmjcifaaW.PrintMore
theorem pick1_call (n m : Int) (w : World) : Calls Try.prog 36 #[.int .i64 n, .int .i64 m] w fun e w' => e = .returned (.int .i64 0) ∧ w' = w := by
  go_enter Try.func36, Try.ntmps36
  go_wp2
  go_ret
  exact ⟨rfl, rfl⟩
theorem at_strict (w : World) (base p : Nat) (L : Lk) (most : Int) (A : Option Addr) (c : Nat) (l : List Pc) (n : Int) (h : WayAt tW w base p L most (.slice A l.length c) l) (hm : most ≠ 0) (hL : L.f3 = false) (hl : 0 < l.length) (hl2 : l.length ≤ 4398046511104) :
    Calls Try.prog 31 #[.pointer (some ⟨p, 0, none⟩), .int .i64 n] w fun e w' => e = .returned (.tuple #[.int .i64 0, .int .i64 0]) ∧ Below w.heap.size w w' := by
  have c5 := h.c5
  have c3 := h.c3
  rw [hL] at c3
  have HN := hide (none_call w base p L most _ l h hm)
  have HL := hide hl
  have HW := hide h
  have b1 : ((l.length : Int) == 0) = false := by rw [beq_eq_false_iff_ne]; omega
  have b2 : (l.length == 0) = false := by rw [beq_eq_false_iff_ne]; omega
  have HPp := hide (fun W => pick1_call n l.length W)
  clear h hl
  go_enter Try.func31, Try.ntmps31
  go_wp2_with (go_at_call 27; refine (unhide HN).mono ?_; rintro e w' ⟨rfl, rfl⟩)
  refine (kinds_call _).mono ?_
  rintro e w1 ⟨rfl, hb1⟩
  have HB1 := hide hb1
  have HW1 := hide (HW.out.below hb1)
  clear hb1
  have c3 := HW1.out.c3
  rw [hL] at c3
  have c5 := HW1.out.c5
  have qi0 := index0 (.func (.func 36) #[] #[]) (.func (.func 37) #[] #[])
  have qi1 := index1 (.func (.func 36) #[] #[]) (.func (.func 37) #[] #[])
  have hu2 := Try.underlying77
  clear c3 c5
  have HSz : Hid (w.heap.size ≤ w1.heap.size) := hide HB1.out.size
  have c3 : (w1.alloc (.cells #[.func (.func 36) #[] #[]] 77)).cell? ⟨p, 3, none⟩ = some (.bool false) := by
    have := (HW1.out.alloc (.cells #[.func (.func 36) #[] #[]] 77)).c3
    rwa [hL] at this
  go_wp2_with fail
  have HB4 := hide (HB1.out.alloc HB1.out.size (.cells #[.func (.func 36) #[] #[]] 77))
  have HW4 := hide (HW1.out.alloc (.cells #[.func (.func 36) #[] #[]] 77))
  have HN4 := hide (Blk.new w1 77 #[.func (.func 36) #[] #[]])
  generalize w1.alloc (.cells #[.func (.func 36) #[] #[]] 77) = w4 at HB4 HW4 HN4 c3 ⊢
  generalize w1.heap.size = g at HN4 ⊢
  clear c3
  have c5 := HW4.out.c5
  have k0 : w4.cell? ⟨g, 0, none⟩ = some (.func (.func 36) #[] #[]) := HN4.out.cell 0
  have HPk := hide (fun q => Calls.quiet_of_same (n := q) (HPp.out (w4.drewN q)))
  go_quiet ((go_at_call 36; with_reducible exact HPk.out _))
  go_wp2_with fail
  go_ret2
  exact ⟨rfl, below_drewN HB4.out _⟩
set_option maxHeartbeats 4000000 in
set_option maxRecDepth 100000 in
theorem peek_strict (w : World) (base p : Nat) (L : Lk) (most : Int) (A : Option Addr) (c : Nat) (l : List Pc) (n : Int) (h : WayAt tW w base p L most (.slice A l.length c) l) (hm : most ≠ 0) (hL : L.f3 = false) (hl2 : l.length ≤ 4398046511104) (j : Nat) (hj : j < l.length) (hj0 : j = 0) :
    Calls Try.prog 16 #[.pointer (some ⟨p, 0, none⟩), .int .i64 n] w fun e w' => e = .returned (.tuple #[.agg (c35 l[j]).toArray, .int .i64 0]) ∧ Below w.heap.size w w' := by
  have hu35 := Try.underlying35
  have hu33 := Try.underlying33
  have hu31 := Try.underlying31
  have HB0 : Hid (Below w.heap.size w (w.alloc (.cells (c35 z35).toArray 35))) := hide ((Below.refl w.heap.size w).alloc (Nat.le_refl _) _)
  have HA := hide (fun W hW => (at_strict W base p L most A c l n hW hm hL (by omega) hl2).mono (R' := fun e w' => e = .returned (.tuple #[.int .i64 (j : Int), .int .i64 0]) ∧ Below W.heap.size W w') (fun e w' h => ⟨by rw [h.1, hj0]; rfl, h.2⟩))
  have HW := hide h
  obtain ⟨A', c', hv, hlc, hC, _⟩ := h.own.reads flatP rfl k35_mk
  cases hv
  obtain ⟨ad, hA, q⟩ := at_S35 hC hj
  cases hA
  have HQ := hide q
  obtain ⟨x, hx⟩ : ∃ x, l[j] = x := ⟨_, rfl⟩
  rw [hx] at HQ ⊢
  have b1 : (j : Int) < (l.length : Int) := by omega
  have HWx := hide (h.alloc (.cells (c35 z35).toArray 35))
  clear h hj0 hx hC q hm hL hl2 hlc
  unfold c35 at *
  go_enter Try.func16, Try.ntmps16
  go_wp2_with fail
  have HN0 := hide (Blk.new w 35 #[.int .i64 0, .int .i64 0, .int .i64 0, .int .i64 0, .int .i64 0, .int .i64 0, .bool false, .int .i64 0])
  refine (HA.out _ HWx.out).mono ?_
  rintro e w1 ⟨rfl, hb1⟩
  have HB1 := hide (below_step HB0.out hb1)
  have HN1 := hide (HN0.out.below' hb1)
  have c5 := (HWx.out.below hb1).c5
  clear hb1 HN0 HB0 HWx HA
  have r0 := (HB1.out.cell (World.block_lt_of_cell? w _ HQ.out.1)).trans HQ.out.1
  have r1 := (HB1.out.cell (World.block_lt_of_cell? w _ HQ.out.2.1)).trans HQ.out.2.1
  have r2 := (HB1.out.cell (World.block_lt_of_cell? w _ HQ.out.2.2.1)).trans HQ.out.2.2.1
  have r3 := (HB1.out.cell (World.block_lt_of_cell? w _ HQ.out.2.2.2.1)).trans HQ.out.2.2.2.1
  have r4 := (HB1.out.cell (World.block_lt_of_cell? w _ HQ.out.2.2.2.2.1)).trans HQ.out.2.2.2.2.1
  have r5 := (HB1.out.cell (World.block_lt_of_cell? w _ HQ.out.2.2.2.2.2.1)).trans HQ.out.2.2.2.2.2.1
  have r6 := (HB1.out.cell (World.block_lt_of_cell? w _ HQ.out.2.2.2.2.2.2.1)).trans HQ.out.2.2.2.2.2.2.1
  have r7 := (HB1.out.cell (World.block_lt_of_cell? w _ HQ.out.2.2.2.2.2.2.2)).trans HQ.out.2.2.2.2.2.2.2
  have z0 : w1.cell? ⟨w.heap.size, 0, none⟩ = some (.int .i64 0) := HN1.out.cell 0
  have f0 : w1.frozen? ⟨w.heap.size, 0, none⟩ = false := HN1.out.frozen 0
  have z1 : w1.cell? ⟨w.heap.size, 1, none⟩ = some (.int .i64 0) := HN1.out.cell 1
  have f1 : w1.frozen? ⟨w.heap.size, 1, none⟩ = false := HN1.out.frozen 1
  have z2 : w1.cell? ⟨w.heap.size, 2, none⟩ = some (.int .i64 0) := HN1.out.cell 2
  have f2 : w1.frozen? ⟨w.heap.size, 2, none⟩ = false := HN1.out.frozen 2
  have z3 : w1.cell? ⟨w.heap.size, 3, none⟩ = some (.int .i64 0) := HN1.out.cell 3
  have f3 : w1.frozen? ⟨w.heap.size, 3, none⟩ = false := HN1.out.frozen 3
  have z4 : w1.cell? ⟨w.heap.size, 4, none⟩ = some (.int .i64 0) := HN1.out.cell 4
  have f4 : w1.frozen? ⟨w.heap.size, 4, none⟩ = false := HN1.out.frozen 4
  have z5 : w1.cell? ⟨w.heap.size, 5, none⟩ = some (.int .i64 0) := HN1.out.cell 5
  have f5 : w1.frozen? ⟨w.heap.size, 5, none⟩ = false := HN1.out.frozen 5
  have z6 : w1.cell? ⟨w.heap.size, 6, none⟩ = some (.bool false) := HN1.out.cell 6
  have f6 : w1.frozen? ⟨w.heap.size, 6, none⟩ = false := HN1.out.frozen 6
  have z7 : w1.cell? ⟨w.heap.size, 7, none⟩ = some (.int .i64 0) := HN1.out.cell 7
  have f7 : w1.frozen? ⟨w.heap.size, 7, none⟩ = false := HN1.out.frozen 7
  go_wp2_with fail
  have hb := HB1.out.trans ((((((((((Only.refl w1 (fun b => b = w.heap.size)).setCell (p := ⟨w.heap.size, 0, none⟩) (.inl rfl) (.int .i64 x.f0.f0.f0)).setCell (p := ⟨w.heap.size, 1, none⟩) (.inl rfl) (.int .i64 x.f0.f0.f1)).setCell (p := ⟨w.heap.size, 2, none⟩) (.inl rfl) (.int .i64 x.f0.f0.f2)).setCell (p := ⟨w.heap.size, 3, none⟩) (.inl rfl) (.int .i64 x.f0.f1)).setCell (p := ⟨w.heap.size, 4, none⟩) (.inl rfl) (.int .i64 x.f0.f2)).setCell (p := ⟨w.heap.size, 5, none⟩) (.inl rfl) (.int .i64 x.f0.f3)).setCell (p := ⟨w.heap.size, 6, none⟩) (.inl rfl) (.bool x.f0.f4)).setCell (p := ⟨w.heap.size, 7, none⟩) (.inl rfl) (.int .i64 x.f1)).below HB1.out.size (fun b hb => by omega))
  have hn := (Blk.set_ (Blk.set_ (Blk.set_ (Blk.set_ (Blk.set_ (Blk.set_ (Blk.set_ (Blk.set_ HN1.out 0 (.int .i64 x.f0.f0.f0)) 1 (.int .i64 x.f0.f0.f1)) 2 (.int .i64 x.f0.f0.f2)) 3 (.int .i64 x.f0.f1)) 4 (.int .i64 x.f0.f2)) 5 (.int .i64 x.f0.f3)) 6 (.bool x.f0.f4)) 7 (.int .i64 x.f1))
  refine bodyPost_ret (v := .tuple #[.agg #[.int .i64 x.f0.f0.f0, .int .i64 x.f0.f0.f1, .int .i64 x.f0.f0.f2, .int .i64 x.f0.f1, .int .i64 x.f0.f2, .int .i64 x.f0.f3, .bool x.f0.f4, .int .i64 x.f1], .int .i64 0]) ?_ rfl ⟨rfl, hb⟩
  refine results_list (rs := [.cell 4 35, .tmp 5]) rfl (by simp) ?_
  exact Vals.cell w.heap.size 35 #[.int .i64 x.f0.f0.f0, .int .i64 x.f0.f0.f1, .int .i64 x.f0.f0.f2, .int .i64 x.f0.f1, .int .i64 x.f0.f2, .int .i64 x.f0.f3, .bool x.f0.f4, .int .i64 x.f1] (0, 0) _ rfl hn hu35 rfl (by kernel_rfl) (Vals.tmp Vals.nil)
end Go.Proofs.Ytdbdaalkmjcifaa.Link
