/- Push where there is no room: the heap's and the reference's. No law is proved here. -/
import Derived.Test.YtmgjnabenemghaaCS
namespace Go.Proofs.Ytmgjnabenemghaa.CQ
open Go.Proofs Go.Shelf Go.RowKit Go.Deep Go.Sort Go.Proofs.Ytmgjnabenemghaa.SortPure Go.Proofs.Ytmgjnabenemghaa.Types Go.Proofs.Ytmgjnabenemghaa.Heap Go.Proofs.Ytmgjnabenemghaa.Row Go.Proofs.Ytmgjnabenemghaa.Ord Go.Proofs.Ytmgjnabenemghaa.Sorted Go.Proofs.YtmgjnabenemghaaW.PrintWords Go.Proofs.YtmgjnabenemghaaW.PrintLast Go.Proofs.YtmgjnabenemghaaW.PrintMore
set_option linter.unusedVariables false
set_option linter.unusedSimpArgs false
set_option maxHeartbeats 4000000 in
set_option maxRecDepth 100000 in
set_option maxHeartbeats 4000000 in
set_option maxRecDepth 100000 in
theorem rpush_full (w : World) (F r : Nat) (A : Option Addr) (c : Nat) (sl : List M) (m : M) (h : RAt w F r A c sl) (hl : sl.length = 16384) (hn : ∀ x ∈ sl, ¬ isOf m.f0.f1 m.f3 x) :
    Calls Try.prog 29 #[.pointer (some ⟨r, 0, none⟩), .agg #[.int .i64 m.f0.f0, .int .i64 m.f0.f1, .int .i64 m.f0.f2, .int .i64 m.f1, .int .i64 m.f2, .int .i64 m.f3, .bool m.f4]] w fun e w' => e = .returned (.int .i64 9) ∧ Below w.heap.size w w' := by
  have HB := hide ((Below.refl w.heap.size w).alloc (Nat.le_refl _) (.cells #[.int .i64 m.f0.f0, .int .i64 m.f0.f1, .int .i64 m.f0.f2, .int .i64 m.f1, .int .i64 m.f2, .int .i64 m.f3, .bool m.f4] 25))
  have HX := hide (Blk.new w 25 #[.int .i64 m.f0.f0, .int .i64 m.f0.f1, .int .i64 m.f0.f2, .int .i64 m.f1, .int .i64 m.f2, .int .i64 m.f3, .bool m.f4])
  have HR1 := hide (h.below HB.out)
  have HF := hide ((rfind_call _ F r A c sl m.f0.f1 m.f3 (h.below HB.out) (by omega)).mono (R' := fun e w' => e = .returned (.int .i64 (-1)) ∧ Below (w.alloc (.cells #[.int .i64 m.f0.f0, .int .i64 m.f0.f1, .int .i64 m.f0.f2, .int .i64 m.f1, .int .i64 m.f2, .int .i64 m.f3, .bool m.f4] 25)).heap.size (w.alloc (.cells #[.int .i64 m.f0.f0, .int .i64 m.f0.f1, .int .i64 m.f0.f2, .int .i64 m.f1, .int .i64 m.f2, .int .i64 m.f3, .bool m.f4] 25)) w') (fun e w' hh => ⟨by
    rcases hh.1 with ⟨e, _⟩ | ⟨k, hk, _, q⟩
    · exact e
    · exact absurd q (hn _ (List.getElem_mem hk)), hh.2⟩))
  obtain ⟨n, hnn⟩ : ∃ n, sl.length = n := ⟨_, rfl⟩
  have hlI : ¬ (n : Int) < 16384 := by omega
  have hlI2 : (16384 : Int) ≤ (n : Int) := by omega
  clear h hn hl
  have x1 := HX.out.cell 1
  have x5 := HX.out.cell 5
  go_enter Try.func29, Try.ntmps29
  go_wp2_with fail
  refine HF.out.mono ?_
  rintro e w2 ⟨rfl, hb⟩
  have HB2 := hide (below_step HB.out hb)
  have c0 : w2.cell? ⟨r, 0, none⟩ = some (.slice A n c) := by rw [← hnn]; exact (HR1.out.below hb).blk.cell 0
  clear hb HF HX HB HR1 x1 x5
  go_wp2_with fail
  go_ret
  exact ⟨rfl, HB2.out⟩
end Go.Proofs.Ytmgjnabenemghaa.CQ
