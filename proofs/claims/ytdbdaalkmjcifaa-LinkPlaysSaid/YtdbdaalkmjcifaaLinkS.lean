/- The contracts of the reference's ways (isochronref11): Peek and Put. No law is proved here. -/
import Derived.Test.YtdbdaalkmjcifaaLinkR
set_option linter.unusedVariables false
set_option linter.unusedSimpArgs false
namespace Go.Proofs.Ytdbdaalkmjcifaa.Link
open Go.Proofs Go.RowKit Go.Sort Go.Proofs.Ytdbdaalkmjcifaa.Types Go.Proofs.Ytdbdaalkmjcifaa.Heap Go.Proofs.Ytdbdaalkmjcifaa.Row Go.Proofs.YtdbdaalkmjcifaaW.PrintWords Go.Proofs.YtdbdaalkmjcifaaW.PrintLast Go.Proofs.YtdbdaalkmjcifaaW.PrintMore
attribute [local go_sem] max2_int min2_int max_two min_two max_three min_three max_four min_four
set_option maxHeartbeats 4000000 in
set_option maxRecDepth 100000 in
theorem rpeek_none (w : World) (base p : Nat) (L : Lk) (most : Int) (A : Option Addr) (c : Nat) (n : Int) (h : WayAt tR w base p L most (.slice A 0 c) []) :
    Calls Try.prog 21 #[.pointer (some ⟨p, 0, none⟩), .int .i64 n] w fun e w' => e = .returned (.tuple #[.agg (c35 z35).toArray, .int .i64 6]) ∧ Below w.heap.size w w' := by
  have hu35 := Try.underlying35
  have hu33 := Try.underlying33
  have hu31 := Try.underlying31
  have c5 := (h.alloc (.cells #[.int .i64 0, .int .i64 0, .int .i64 0, .int .i64 0, .int .i64 0, .int .i64 0, .bool false, .int .i64 0] 35)).c5
  have HB1 : Hid (Below w.heap.size w (w.alloc (.cells #[.int .i64 0, .int .i64 0, .int .i64 0, .int .i64 0, .int .i64 0, .int .i64 0, .bool false, .int .i64 0] 35))) := hide ((Below.refl w.heap.size w).alloc (Nat.le_refl _) _)
  have HN1 := hide (Blk.new w 35 #[.int .i64 0, .int .i64 0, .int .i64 0, .int .i64 0, .int .i64 0, .int .i64 0, .bool false, .int .i64 0])
  clear h
  unfold c35 at *
  go_enter Try.func21, Try.ntmps21
  go_wp2_with fail
  refine bodyPost_ret (v := .tuple #[.agg #[.int .i64 0, .int .i64 0, .int .i64 0, .int .i64 0, .int .i64 0, .int .i64 0, .bool false, .int .i64 0], .int .i64 6]) ?_ rfl ⟨rfl, HB1.out⟩
  refine results_list (rs := [.cell 4 35, .tmp 5]) rfl (by simp) ?_
  exact Vals.cell w.heap.size 35 #[.int .i64 0, .int .i64 0, .int .i64 0, .int .i64 0, .int .i64 0, .int .i64 0, .bool false, .int .i64 0] (0, 0) _ rfl HN1.out hu35 rfl (by kernel_rfl) (Vals.tmp Vals.nil)
set_option maxHeartbeats 4000000 in
set_option maxRecDepth 100000 in
theorem rpeek_call (w : World) (base p : Nat) (L : Lk) (most : Int) (A : Option Addr) (c : Nat) (l : List Pc) (n : Int) (h : WayAt tR w base p L most (.slice A l.length c) l) (hl2 : l.length ≤ 4398046511104) (j : Nat) (x : Pc) (hx : l[j]? = some x) (hp : plc L n l.length = j) :
    Calls Try.prog 21 #[.pointer (some ⟨p, 0, none⟩), .int .i64 n] w fun e w' => e = .returned (.tuple #[.agg (c35 x).toArray, .int .i64 0]) ∧ Below w.heap.size w w' := by
  obtain ⟨hj, hx⟩ := List.getElem?_eq_some_iff.1 hx
  have hu35 := Try.underlying35
  have hu33 := Try.underlying33
  have hu31 := Try.underlying31
  have HW0 := hide (h.alloc (.cells #[.int .i64 0, .int .i64 0, .int .i64 0, .int .i64 0, .int .i64 0, .int .i64 0, .bool false, .int .i64 0] 35))
  have c5 := HW0.out.c5
  have HB0 : Hid (Below w.heap.size w (w.alloc (.cells #[.int .i64 0, .int .i64 0, .int .i64 0, .int .i64 0, .int .i64 0, .int .i64 0, .bool false, .int .i64 0] 35))) := hide ((Below.refl w.heap.size w).alloc (Nat.le_refl _) _)
  have HN0 := hide (Blk.new w 35 #[.int .i64 0, .int .i64 0, .int .i64 0, .int .i64 0, .int .i64 0, .int .i64 0, .bool false, .int .i64 0])
  have HPl := hide (fun W hW => rplace_call W base p L most A c l n hW (by omega) hl2)
  rw [hp] at HPl
  have hlen0 : ((l.length : Int) == 0) = false := by rw [beq_eq_false_iff_ne]; omega
  have hlen1 : (l.length == 0) = false := by rw [beq_eq_false_iff_ne]; omega
  have b1 : (j : Int) < (l.length : Int) := by omega
  have HX : Hid (∀ h, l[j]'h = x) := hide (fun _ => hx)
  have HJ := hide hj
  clear h hx hl2 hp hj
  unfold c35 at *
  go_enter Try.func21, Try.ntmps21
  go_wp2_with fail
  generalize w.alloc (.cells #[.int .i64 0, .int .i64 0, .int .i64 0, .int .i64 0, .int .i64 0, .int .i64 0, .bool false, .int .i64 0] 35) = W at HB0 HN0 HW0 c5 ⊢
  obtain ⟨g, hg⟩ : ∃ g, w.heap.size = g := ⟨_, rfl⟩
  have HG := hide hg
  rw [hg] at HN0 ⊢
  clear hg
  have hC := (HW0.out.drew).own.reads flatP rfl k35_mk
  obtain ⟨A', c', hv, hlc, hC, _⟩ := hC
  cases hv
  obtain ⟨ad, hA, r0, r1, r2, r3, r4, r5, r6, r7⟩ := at_S35 hC HJ.out
  cases hA
  rw [HX.out HJ.out] at r0 r1 r2 r3 r4 r5 r6 r7
  have c5d : W.drew.cell? ⟨p, 5, none⟩ = some (.slice (some ad) l.length c) := c5
  have z0 : W.drew.cell? ⟨g, 0, none⟩ = some (.int .i64 0) := HN0.out.cell 0
  have f0 : W.drew.frozen? ⟨g, 0, none⟩ = false := HN0.out.frozen 0
  have z1 : W.drew.cell? ⟨g, 1, none⟩ = some (.int .i64 0) := HN0.out.cell 1
  have f1 : W.drew.frozen? ⟨g, 1, none⟩ = false := HN0.out.frozen 1
  have z2 : W.drew.cell? ⟨g, 2, none⟩ = some (.int .i64 0) := HN0.out.cell 2
  have f2 : W.drew.frozen? ⟨g, 2, none⟩ = false := HN0.out.frozen 2
  have z3 : W.drew.cell? ⟨g, 3, none⟩ = some (.int .i64 0) := HN0.out.cell 3
  have f3 : W.drew.frozen? ⟨g, 3, none⟩ = false := HN0.out.frozen 3
  have z4 : W.drew.cell? ⟨g, 4, none⟩ = some (.int .i64 0) := HN0.out.cell 4
  have f4 : W.drew.frozen? ⟨g, 4, none⟩ = false := HN0.out.frozen 4
  have z5 : W.drew.cell? ⟨g, 5, none⟩ = some (.int .i64 0) := HN0.out.cell 5
  have f5 : W.drew.frozen? ⟨g, 5, none⟩ = false := HN0.out.frozen 5
  have z6 : W.drew.cell? ⟨g, 6, none⟩ = some (.bool false) := HN0.out.cell 6
  have f6 : W.drew.frozen? ⟨g, 6, none⟩ = false := HN0.out.frozen 6
  have z7 : W.drew.cell? ⟨g, 7, none⟩ = some (.int .i64 0) := HN0.out.cell 7
  have f7 : W.drew.frozen? ⟨g, 7, none⟩ = false := HN0.out.frozen 7
  have zz0 : W.cell? ⟨g, 0, none⟩ = some (.int .i64 0) := HN0.out.cell 0
  have ff0 : W.frozen? ⟨g, 0, none⟩ = false := HN0.out.frozen 0
  have rr0 : W.cell? _ = _ := r0
  have zz1 : W.cell? ⟨g, 1, none⟩ = some (.int .i64 0) := HN0.out.cell 1
  have ff1 : W.frozen? ⟨g, 1, none⟩ = false := HN0.out.frozen 1
  have rr1 : W.cell? _ = _ := r1
  have zz2 : W.cell? ⟨g, 2, none⟩ = some (.int .i64 0) := HN0.out.cell 2
  have ff2 : W.frozen? ⟨g, 2, none⟩ = false := HN0.out.frozen 2
  have rr2 : W.cell? _ = _ := r2
  have zz3 : W.cell? ⟨g, 3, none⟩ = some (.int .i64 0) := HN0.out.cell 3
  have ff3 : W.frozen? ⟨g, 3, none⟩ = false := HN0.out.frozen 3
  have rr3 : W.cell? _ = _ := r3
  have zz4 : W.cell? ⟨g, 4, none⟩ = some (.int .i64 0) := HN0.out.cell 4
  have ff4 : W.frozen? ⟨g, 4, none⟩ = false := HN0.out.frozen 4
  have rr4 : W.cell? _ = _ := r4
  have zz5 : W.cell? ⟨g, 5, none⟩ = some (.int .i64 0) := HN0.out.cell 5
  have ff5 : W.frozen? ⟨g, 5, none⟩ = false := HN0.out.frozen 5
  have rr5 : W.cell? _ = _ := r5
  have zz6 : W.cell? ⟨g, 6, none⟩ = some (.bool false) := HN0.out.cell 6
  have ff6 : W.frozen? ⟨g, 6, none⟩ = false := HN0.out.frozen 6
  have rr6 : W.cell? _ = _ := r6
  have zz7 : W.cell? ⟨g, 7, none⟩ = some (.int .i64 0) := HN0.out.cell 7
  have ff7 : W.frozen? ⟨g, 7, none⟩ = false := HN0.out.frozen 7
  have rr7 : W.cell? _ = _ := r7
  clear hC hlc
  go_region_with (refine (HPl.out _ HW0.out.drew).mono ?_; rintro e w' ⟨rfl, rfl⟩)
  all_goals (
    go_wp2_with fail
    have hb := HB0.out.trans ((((((((((Only.refl W (fun b => b = g)).setCell (p := ⟨g, 0, none⟩) (.inl rfl) (.int .i64 x.f0.f0.f0)).setCell (p := ⟨g, 1, none⟩) (.inl rfl) (.int .i64 x.f0.f0.f1)).setCell (p := ⟨g, 2, none⟩) (.inl rfl) (.int .i64 x.f0.f0.f2)).setCell (p := ⟨g, 3, none⟩) (.inl rfl) (.int .i64 x.f0.f1)).setCell (p := ⟨g, 4, none⟩) (.inl rfl) (.int .i64 x.f0.f2)).setCell (p := ⟨g, 5, none⟩) (.inl rfl) (.int .i64 x.f0.f3)).setCell (p := ⟨g, 6, none⟩) (.inl rfl) (.bool x.f0.f4)).setCell (p := ⟨g, 7, none⟩) (.inl rfl) (.int .i64 x.f1)).below HB0.out.size (fun b hb => by have := HG.out; omega))
    have hn := (Blk.set_ (Blk.set_ (Blk.set_ (Blk.set_ (Blk.set_ (Blk.set_ (Blk.set_ (Blk.set_ HN0.out 0 (.int .i64 x.f0.f0.f0)) 1 (.int .i64 x.f0.f0.f1)) 2 (.int .i64 x.f0.f0.f2)) 3 (.int .i64 x.f0.f1)) 4 (.int .i64 x.f0.f2)) 5 (.int .i64 x.f0.f3)) 6 (.bool x.f0.f4)) 7 (.int .i64 x.f1))
    refine bodyPost_ret (v := .tuple #[.agg #[.int .i64 x.f0.f0.f0, .int .i64 x.f0.f0.f1, .int .i64 x.f0.f0.f2, .int .i64 x.f0.f1, .int .i64 x.f0.f2, .int .i64 x.f0.f3, .bool x.f0.f4, .int .i64 x.f1], .int .i64 0]) ?_ rfl ⟨rfl, below_drewN hb 1⟩
    refine results_list (rs := [.cell 4 35, .tmp 5]) rfl (by simp) ?_
    exact Vals.cell g 35 #[.int .i64 x.f0.f0.f0, .int .i64 x.f0.f0.f1, .int .i64 x.f0.f0.f2, .int .i64 x.f0.f1, .int .i64 x.f0.f2, .int .i64 x.f0.f3, .bool x.f0.f4, .int .i64 x.f1] (0, 0) _ rfl (hn.drew) hu35 rfl (by kernel_rfl) (Vals.tmp Vals.nil))
end Go.Proofs.Ytdbdaalkmjcifaa.Link
