/- The contracts of link's at, Peek and Take, for every way. No law is proved here. -/
import Derived.Test.YtdbdaalkmjcifaaLinkE
import Derived.Test.YtdbdaalkmjcifaaLinkG
set_option linter.unusedVariables false
set_option linter.unusedSimpArgs false
namespace Go.Proofs.Ytdbdaalkmjcifaa.Link
open Go.Proofs Go.RowKit Go.Sort Go.Proofs.Ytdbdaalkmjcifaa.Types Go.Proofs.Ytdbdaalkmjcifaa.Heap Go.Proofs.Ytdbdaalkmjcifaa.Row Go.Proofs.YtdbdaalkmjcifaaW.PrintWords Go.Proofs.YtdbdaalkmjcifaaW.PrintLast Go.Proofs.YtdbdaalkmjcifaaW.PrintMore
def plc (L : Lk) (n : Int) (m : Nat) : Int := if L.f3 = true then (n.tmod m + m).tmod m else 0
theorem plc_turn (a m : Int) (hm : 0 < m) : (a.tmod m + m).tmod m = a % m := by
  have h1 : a.tmod m < m := Int.tmod_lt_of_pos _ hm
  have h2 : -m < a.tmod m := by
    rcases Int.le_total 0 a with h | h
    · have := Int.tmod_nonneg m h
      omega
    · obtain ⟨k, rfl⟩ : ∃ k, a = -k := ⟨-a, by omega⟩
      rw [Int.neg_tmod]
      have := Int.tmod_lt_of_pos k hm
      omega
  rw [Int.tmod_eq_emod_of_nonneg (by omega), Int.add_emod_right]
  have h3 := Int.mul_tdiv_add_tmod a m
  conv => rhs; rw [← h3, Int.add_comm, Int.add_mul_emod_self_left]
theorem plc_spec (L : Lk) (n : Int) (m : Nat) (hm : 0 < m) : ∃ j : Nat, j < m ∧ plc L n m = j := by
  unfold plc
  split
  · rw [plc_turn n m (by omega)]
    have h1 := Int.emod_nonneg n (b := (m : Int)) (by omega)
    have h2 := Int.emod_lt_of_pos n (b := (m : Int)) (by omega)
    exact ⟨(n % (m : Int)).toNat, by omega, by omega⟩
  · exact ⟨0, hm, rfl⟩
theorem at_call (w : World) (base p : Nat) (L : Lk) (most : Int) (A : Option Addr) (c : Nat) (l : List Pc) (n : Int) (h : WayAt tW w base p L most (.slice A l.length c) l) (hm : most ≠ 0) (hl : 0 < l.length) (hl2 : l.length ≤ 4398046511104) :
    Calls Try.prog 31 #[.pointer (some ⟨p, 0, none⟩), .int .i64 n] w fun e w' => e = .returned (.tuple #[.int .i64 (plc L n l.length), .int .i64 0]) ∧ Below w.heap.size w w' := by
  unfold plc
  cases hL : L.f3
  · exact at_strict w base p L most A c l n h hm hL hl hl2
  · exact at_loose w base p L most A c l n h hm hL hl hl2
theorem peek_call (w : World) (base p : Nat) (L : Lk) (most : Int) (A : Option Addr) (c : Nat) (l : List Pc) (n : Int) (h : WayAt tW w base p L most (.slice A l.length c) l) (hm : most ≠ 0) (hl2 : l.length ≤ 4398046511104) (j : Nat) (hj : j < l.length) (hp : plc L n l.length = j) :
    Calls Try.prog 16 #[.pointer (some ⟨p, 0, none⟩), .int .i64 n] w fun e w' => e = .returned (.tuple #[.agg (c35 l[j]).toArray, .int .i64 0]) ∧ Below w.heap.size w w' := by
  unfold plc at hp
  cases hL : L.f3
  · rw [hL] at hp
    exact peek_strict w base p L most A c l n h hm hL hl2 j hj (by simpa using hp.symm)
  · rw [hL] at hp
    exact peek_loose w base p L most A c l n h hm hL hl2 j hj hp
theorem at_none (w : World) (base p : Nat) (L : Lk) (most : Int) (A : Option Addr) (c : Nat) (n : Int) (h : WayAt tW w base p L most (.slice A 0 c) []) (hm : most ≠ 0) :
    Calls Try.prog 31 #[.pointer (some ⟨p, 0, none⟩), .int .i64 n] w fun e w' => e = .returned (.tuple #[.int .i64 0, .int .i64 6]) ∧ w' = w := by
  have c5 := h.c5
  have HN := hide (none_call w base p L most _ [] h hm)
  clear h
  go_enter Try.func31, Try.ntmps31
  go_wp2_with (go_at_call 27; refine (unhide HN).mono ?_; rintro e w' ⟨rfl, rfl⟩)
  go_ret2
  exact ⟨rfl, rfl⟩
theorem peek_none (w : World) (base p : Nat) (L : Lk) (most : Int) (A : Option Addr) (c : Nat) (n : Int) (h : WayAt tW w base p L most (.slice A 0 c) []) (hm : most ≠ 0) :
    Calls Try.prog 16 #[.pointer (some ⟨p, 0, none⟩), .int .i64 n] w fun e w' => e = .returned (.tuple #[.agg (c35 z35).toArray, .int .i64 6]) ∧ Below w.heap.size w w' := by
  have hu35 := Try.underlying35
  have hu33 := Try.underlying33
  have hu31 := Try.underlying31
  have HB0 : Hid (Below w.heap.size w (w.alloc (.cells (c35 z35).toArray 35))) := hide ((Below.refl w.heap.size w).alloc (Nat.le_refl _) _)
  have HA := hide (at_none _ base p L most A c n (h.alloc (.cells (c35 z35).toArray 35)) hm)
  clear h
  unfold c35 at *
  go_enter Try.func16, Try.ntmps16
  go_wp2_with fail
  have HN0 := hide (Blk.new w 35 #[.int .i64 0, .int .i64 0, .int .i64 0, .int .i64 0, .int .i64 0, .int .i64 0, .bool false, .int .i64 0])
  refine HA.out.mono ?_
  rintro e w1 ⟨rfl, rfl⟩
  have HN1 : Hid (Blk (w.alloc (.cells (c35 z35).toArray 35)) w.heap.size 35 #[.int .i64 0, .int .i64 0, .int .i64 0, .int .i64 0, .int .i64 0, .int .i64 0, .bool false, .int .i64 0]) := HN0
  have HB1 : Hid (Below w.heap.size w (w.alloc (.cells (c35 z35).toArray 35))) := HB0
  unfold c35 at HN1 HB1
  clear HN0 HB0 HA
  generalize (w.alloc (.cells _ 35)) = w1 at HN1 HB1 ⊢
  have z0 : w1.cell? ⟨w.heap.size, 0, none⟩ = some (.int .i64 0) := HN1.out.cell 0
  have f0 : w1.frozen? ⟨w.heap.size, 0, none⟩ = false := HN1.out.frozen 0
  have z1 : w1.cell? ⟨w.heap.size, 1, none⟩ = some (.int .i64 0) := HN1.out.cell 1
  have f1 : w1.frozen? ⟨w.heap.size, 1, none⟩ = false := HN1.out.frozen 1
  have z2 : w1.cell? ⟨w.heap.size, 2, none⟩ = some (.int .i64 0) := HN1.out.cell 2
  have f2 : w1.frozen? ⟨w.heap.size, 2, none⟩ = false := HN1.out.frozen 2
  have z3 : w1.cell? ⟨w.heap.size, 3, none⟩ = some (.int .i64 0) := HN1.out.cell 3
  have f3 : w1.frozen? ⟨w.heap.size, 3, none⟩ = false := HN1.out.frozen 3
  have z4 : w1.cell? ⟨w.heap.size, 4, none⟩ = some (.int .i64 0) := HN1.out.cell 4
  have f4 : w1.frozen? ⟨w.heap.size, 4, none⟩ = false := HN1.out.frozen 4
  have z5 : w1.cell? ⟨w.heap.size, 5, none⟩ = some (.int .i64 0) := HN1.out.cell 5
  have f5 : w1.frozen? ⟨w.heap.size, 5, none⟩ = false := HN1.out.frozen 5
  have z6 : w1.cell? ⟨w.heap.size, 6, none⟩ = some (.bool false) := HN1.out.cell 6
  have f6 : w1.frozen? ⟨w.heap.size, 6, none⟩ = false := HN1.out.frozen 6
  have z7 : w1.cell? ⟨w.heap.size, 7, none⟩ = some (.int .i64 0) := HN1.out.cell 7
  have f7 : w1.frozen? ⟨w.heap.size, 7, none⟩ = false := HN1.out.frozen 7
  go_wp2_with fail
  have hb := HB1.out.trans ((((((((((Only.refl w1 (fun b => b = w.heap.size)).setCell (p := ⟨w.heap.size, 0, none⟩) (.inl rfl) (.int .i64 0)).setCell (p := ⟨w.heap.size, 1, none⟩) (.inl rfl) (.int .i64 0)).setCell (p := ⟨w.heap.size, 2, none⟩) (.inl rfl) (.int .i64 0)).setCell (p := ⟨w.heap.size, 3, none⟩) (.inl rfl) (.int .i64 0)).setCell (p := ⟨w.heap.size, 4, none⟩) (.inl rfl) (.int .i64 0)).setCell (p := ⟨w.heap.size, 5, none⟩) (.inl rfl) (.int .i64 0)).setCell (p := ⟨w.heap.size, 6, none⟩) (.inl rfl) (.bool false)).setCell (p := ⟨w.heap.size, 7, none⟩) (.inl rfl) (.int .i64 0)).below HB1.out.size (fun b hb => by omega))
  have hn := (Blk.set_ (Blk.set_ (Blk.set_ (Blk.set_ (Blk.set_ (Blk.set_ (Blk.set_ (Blk.set_ HN1.out 0 (.int .i64 0)) 1 (.int .i64 0)) 2 (.int .i64 0)) 3 (.int .i64 0)) 4 (.int .i64 0)) 5 (.int .i64 0)) 6 (.bool false)) 7 (.int .i64 0))
  refine bodyPost_ret (v := .tuple #[.agg #[.int .i64 0, .int .i64 0, .int .i64 0, .int .i64 0, .int .i64 0, .int .i64 0, .bool false, .int .i64 0], .int .i64 6]) ?_ rfl ⟨rfl, hb⟩
  refine results_list (rs := [.cell 4 35, .tmp 5]) rfl (by simp) ?_
  exact Vals.cell w.heap.size 35 #[.int .i64 0, .int .i64 0, .int .i64 0, .int .i64 0, .int .i64 0, .int .i64 0, .bool false, .int .i64 0] (0, 0) _ rfl hn hu35 rfl (by kernel_rfl) (Vals.tmp Vals.nil)
theorem take_none (w : World) (base p : Nat) (L : Lk) (most : Int) (A : Option Addr) (c : Nat) (n : Int) (h : WayAt tW w base p L most (.slice A 0 c) []) (hm : most ≠ 0) :
    Calls Try.prog 17 #[.pointer (some ⟨p, 0, none⟩), .int .i64 n] w fun e w' => e = .returned (.tuple #[.agg (c35 z35).toArray, .int .i64 6]) ∧ Below w.heap.size w w' := by
  have hu35 := Try.underlying35
  have hu33 := Try.underlying33
  have hu31 := Try.underlying31
  have HB0 : Hid (Below w.heap.size w (w.alloc (.cells (c35 z35).toArray 35))) := hide ((Below.refl w.heap.size w).alloc (Nat.le_refl _) _)
  have HA := hide (at_none _ base p L most A c n (h.alloc (.cells (c35 z35).toArray 35)) hm)
  clear h
  unfold c35 at *
  go_enter Try.func17, Try.ntmps17
  go_wp2_with fail
  have HN0 := hide (Blk.new w 35 #[.int .i64 0, .int .i64 0, .int .i64 0, .int .i64 0, .int .i64 0, .int .i64 0, .bool false, .int .i64 0])
  refine HA.out.mono ?_
  rintro e w1 ⟨rfl, rfl⟩
  have HN1 : Hid (Blk (w.alloc (.cells (c35 z35).toArray 35)) w.heap.size 35 #[.int .i64 0, .int .i64 0, .int .i64 0, .int .i64 0, .int .i64 0, .int .i64 0, .bool false, .int .i64 0]) := HN0
  have HB1 : Hid (Below w.heap.size w (w.alloc (.cells (c35 z35).toArray 35))) := HB0
  unfold c35 at HN1 HB1
  clear HN0 HB0 HA
  generalize (w.alloc (.cells _ 35)) = w1 at HN1 HB1 ⊢
  have z0 : w1.cell? ⟨w.heap.size, 0, none⟩ = some (.int .i64 0) := HN1.out.cell 0
  have f0 : w1.frozen? ⟨w.heap.size, 0, none⟩ = false := HN1.out.frozen 0
  have z1 : w1.cell? ⟨w.heap.size, 1, none⟩ = some (.int .i64 0) := HN1.out.cell 1
  have f1 : w1.frozen? ⟨w.heap.size, 1, none⟩ = false := HN1.out.frozen 1
  have z2 : w1.cell? ⟨w.heap.size, 2, none⟩ = some (.int .i64 0) := HN1.out.cell 2
  have f2 : w1.frozen? ⟨w.heap.size, 2, none⟩ = false := HN1.out.frozen 2
  have z3 : w1.cell? ⟨w.heap.size, 3, none⟩ = some (.int .i64 0) := HN1.out.cell 3
  have f3 : w1.frozen? ⟨w.heap.size, 3, none⟩ = false := HN1.out.frozen 3
  have z4 : w1.cell? ⟨w.heap.size, 4, none⟩ = some (.int .i64 0) := HN1.out.cell 4
  have f4 : w1.frozen? ⟨w.heap.size, 4, none⟩ = false := HN1.out.frozen 4
  have z5 : w1.cell? ⟨w.heap.size, 5, none⟩ = some (.int .i64 0) := HN1.out.cell 5
  have f5 : w1.frozen? ⟨w.heap.size, 5, none⟩ = false := HN1.out.frozen 5
  have z6 : w1.cell? ⟨w.heap.size, 6, none⟩ = some (.bool false) := HN1.out.cell 6
  have f6 : w1.frozen? ⟨w.heap.size, 6, none⟩ = false := HN1.out.frozen 6
  have z7 : w1.cell? ⟨w.heap.size, 7, none⟩ = some (.int .i64 0) := HN1.out.cell 7
  have f7 : w1.frozen? ⟨w.heap.size, 7, none⟩ = false := HN1.out.frozen 7
  go_wp2_with fail
  have hb := HB1.out.trans ((((((((((Only.refl w1 (fun b => b = w.heap.size)).setCell (p := ⟨w.heap.size, 0, none⟩) (.inl rfl) (.int .i64 0)).setCell (p := ⟨w.heap.size, 1, none⟩) (.inl rfl) (.int .i64 0)).setCell (p := ⟨w.heap.size, 2, none⟩) (.inl rfl) (.int .i64 0)).setCell (p := ⟨w.heap.size, 3, none⟩) (.inl rfl) (.int .i64 0)).setCell (p := ⟨w.heap.size, 4, none⟩) (.inl rfl) (.int .i64 0)).setCell (p := ⟨w.heap.size, 5, none⟩) (.inl rfl) (.int .i64 0)).setCell (p := ⟨w.heap.size, 6, none⟩) (.inl rfl) (.bool false)).setCell (p := ⟨w.heap.size, 7, none⟩) (.inl rfl) (.int .i64 0)).below HB1.out.size (fun b hb => by omega))
  have hn := (Blk.set_ (Blk.set_ (Blk.set_ (Blk.set_ (Blk.set_ (Blk.set_ (Blk.set_ (Blk.set_ HN1.out 0 (.int .i64 0)) 1 (.int .i64 0)) 2 (.int .i64 0)) 3 (.int .i64 0)) 4 (.int .i64 0)) 5 (.int .i64 0)) 6 (.bool false)) 7 (.int .i64 0))
  refine bodyPost_ret (v := .tuple #[.agg #[.int .i64 0, .int .i64 0, .int .i64 0, .int .i64 0, .int .i64 0, .int .i64 0, .bool false, .int .i64 0], .int .i64 6]) ?_ rfl ⟨rfl, hb⟩
  refine results_list (rs := [.cell 4 35, .tmp 5]) rfl (by simp) ?_
  exact Vals.cell w.heap.size 35 #[.int .i64 0, .int .i64 0, .int .i64 0, .int .i64 0, .int .i64 0, .int .i64 0, .bool false, .int .i64 0] (0, 0) _ rfl hn hu35 rfl (by kernel_rfl) (Vals.tmp Vals.nil)
end Go.Proofs.Ytdbdaalkmjcifaa.Link
