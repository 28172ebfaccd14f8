/- The contracts of link's at and Peek, where the way is loose and not empty. No law is proved here. -/
import Derived.Test.YtdbdaalkmjcifaaLinkB
import Derived.Test.YtdbdaalkmjcifaaGrK
import Derived.Laws.EntriesVeiled
import Derived.IntWalk
set_option linter.unusedVariables false
set_option linter.unusedSimpArgs false
namespace Go.Proofs.Ytdbdaalkmjcifaa.Link
open Go.Proofs Go.RowKit Go.Sort Go.Proofs.Ytdbdaalkmjcifaa.Types Go.Proofs.Ytdbdaalkmjcifaa.Heap Go.Proofs.Ytdbdaalkmjcifaa.Row Go.Proofs.YtdbdaalkmjcifaaW.PrintWords Go.Proofs.YtdbdaalkmjcifaaW.PrintLast Go.Proofs.YtdbdaalkmjcifaaW.PrintMore
theorem kinds_call (w : World) : Calls Try.prog 34 #[] w fun e w' => e = .returned (.agg #[.func (.func 36) #[] #[], .func (.func 37) #[] #[]]) ∧ Below w.heap.size w w' := by
  go_enter Try.func34, Try.ntmps34
  go_wp2
  refine bodyPost_ret (v := .agg #[.func (.func 36) #[] #[], .func (.func 37) #[] #[]]) ?_ rfl ⟨rfl, (Below.refl _ _).alloc (Nat.le_refl _) _⟩
  exact results_cell_row rfl _ _ w.heap.size 78 _ (0, 0) _ rfl (heap_alloc_new w _) Try.underlying78 rfl (by kernel_rfl)
theorem index0 (a b : Value) (w : World) : (Instr.index 78 (.agg #[a, b]) (.int .i64 0)).run Try.prog w = .ok (.agg #[a]) w := by
  simp [Instr.index, run_underlying Try.underlying78, asIntOf, go_sem, Try.underlying77]
theorem index1 (a b : Value) (w : World) : (Instr.index 78 (.agg #[a, b]) (.int .i64 1)).run Try.prog w = .ok (.agg #[b]) w := by
  simp [Instr.index, run_underlying Try.underlying78, asIntOf, go_sem, Try.underlying77]
theorem pick2_call (n m : Int) (w : World) (hm : 0 < m) (hm2 : m ≤ 4398046511104) : Calls Try.prog 37 #[.int .i64 n, .int .i64 m] w fun e w' => e = .returned (.int .i64 ((n.tmod m + m).tmod m)) ∧ w' = w := by
  have h1 : n.tmod m < m := Int.tmod_lt_of_pos _ hm
  have h2 : -m < n.tmod m := by
    rcases Int.le_total 0 n with h | h
    · have := Int.tmod_nonneg m h
      omega
    · obtain ⟨k, rfl⟩ : ∃ k, n = -k := ⟨-n, by omega⟩
      rw [Int.neg_tmod]
      have := Int.tmod_lt_of_pos k hm
      omega
  obtain ⟨t, ht⟩ : ∃ t, n.tmod m = t := ⟨_, rfl⟩
  have hw : wrap64 (n.tmod m + m) = n.tmod m + m := by
    rw [ht] at h1 h2 ⊢
    exact Go.IntWalk.wrap64_in _ (by omega)
  clear h1 h2 ht
  go_enter Try.func37, Try.ntmps37
  go_wp2
  go_ret
  exact ⟨rfl, rfl⟩
theorem at_loose (w : World) (base p : Nat) (L : Lk) (most : Int) (A : Option Addr) (c : Nat) (l : List Pc) (n : Int) (h : WayAt tW w base p L most (.slice A l.length c) l) (hm : most ≠ 0) (hL : L.f3 = true) (hl : 0 < l.length) (hl2 : l.length ≤ 4398046511104) :
    Calls Try.prog 31 #[.pointer (some ⟨p, 0, none⟩), .int .i64 n] w fun e w' => e = .returned (.tuple #[.int .i64 ((n.tmod l.length + l.length).tmod l.length), .int .i64 0]) ∧ Below w.heap.size w w' := by
  have c5 := h.c5
  have c3 := h.c3
  rw [hL] at c3
  have HN := hide (none_call w base p L most _ l h hm)
  have HL := hide hl
  have HW := hide h
  have b1 : ((l.length : Int) == 0) = false := by rw [beq_eq_false_iff_ne]; omega
  have b2 : (l.length == 0) = false := by rw [beq_eq_false_iff_ne]; omega
  obtain ⟨r, hr⟩ : ∃ r, (n.tmod l.length + l.length).tmod l.length = r := ⟨_, rfl⟩
  have HPp := hide (fun W => pick2_call n l.length W (by omega) (by omega))
  rw [hr] at HPp ⊢
  clear h hl hr
  go_enter Try.func31, Try.ntmps31
  go_wp2_with (go_at_call 27; refine (unhide HN).mono ?_; rintro e w' ⟨rfl, rfl⟩)
  refine (kinds_call _).mono ?_
  rintro e w1 ⟨rfl, hb1⟩
  have HB1 := hide hb1
  have HW1 := hide (HW.out.below hb1)
  clear hb1
  have c3 := HW1.out.c3
  rw [hL] at c3
  have c5 := HW1.out.c5
  have qi0 := index0 (.func (.func 36) #[] #[]) (.func (.func 37) #[] #[])
  have qi1 := index1 (.func (.func 36) #[] #[]) (.func (.func 37) #[] #[])
  have hu2 := Try.underlying77
  clear c3 c5
  have HSz : Hid (w.heap.size ≤ w1.heap.size) := hide HB1.out.size
  have c3 : (w1.alloc (.cells #[.func (.func 36) #[] #[]] 77)).cell? ⟨p, 3, none⟩ = some (.bool true) := by
    have := (HW1.out.alloc (.cells #[.func (.func 36) #[] #[]] 77)).c3
    rwa [hL] at this
  go_wp2_with fail
  have HB2 := hide (HB1.out.alloc HB1.out.size (.cells #[.func (.func 36) #[] #[]] 77))
  have HW2 := hide (HW1.out.alloc (.cells #[.func (.func 36) #[] #[]] 77))
  have HN2 := hide (Blk.new w1 77 #[.func (.func 36) #[] #[]])
  generalize w1.alloc (.cells #[.func (.func 36) #[] #[]] 77) = w2 at HB2 HW2 HN2 c3 ⊢
  refine (kinds_call _).mono ?_
  rintro e w3 ⟨rfl, hb3⟩
  have HB3 := hide (below_step HB2.out hb3)
  have HW3 := hide (HW2.out.below hb3)
  have HN3 := hide (HN2.out.below' hb3)
  clear hb3 HB2 HW2 HN2 HB1 HW1 c3
  have HG : Hid (w.heap.size ≤ w1.heap.size) := hide HSz.out
  generalize w1.heap.size = g at HN3 HG ⊢
  have c5 := HW3.out.c5
  have k0 : w3.cell? ⟨g, 0, none⟩ = some (.func (.func 36) #[] #[]) := HN3.out.cell 0
  have f0 : w3.frozen? ⟨g, 0, none⟩ = false := HN3.out.frozen 0
  go_wp2_with fail
  have HB4 := hide (HB3.out.trans (((Only.refl w3 (fun b => b = g)).setCell (p := ⟨g, 0, none⟩) (.inl rfl) (.func (.func 37) #[] #[])).below HB3.out.size (fun b hb => by have := HG.out; omega)))
  have HW4 := hide (HW.out.below HB4.out)
  have HN4 := hide (HN3.out.set_ 0 (.func (.func 37) #[] #[]))
  clear HB3 HW3 HN3 c5 k0 f0
  generalize w3.setCell ⟨g, 0, none⟩ (.func (.func 37) #[] #[]) = w4 at HB4 HW4 HN4 ⊢
  have c5 := HW4.out.c5
  have k0 : w4.cell? ⟨g, 0, none⟩ = some (.func (.func 37) #[] #[]) := HN4.out.cell 0
  have HPk := hide (fun q => Calls.quiet_of_same (n := q) (HPp.out (w4.drewN q)))
  go_quiet ((go_at_call 37; with_reducible exact HPk.out _))
  go_wp2_with fail
  go_ret2
  exact ⟨rfl, below_drewN HB4.out _⟩
end Go.Proofs.Ytdbdaalkmjcifaa.Link
