/- Push where there is no room: the heap's and the reference's. No law is proved here. -/
import Derived.Test.YtipgigbnfdgfmaaHS
namespace Go.Proofs.Ytipgigbnfdgfmaa.HQ
open Go.Proofs Go.Shelf Go.RowKit Go.Deep Go.Sort Go.Proofs.Ytipgigbnfdgfmaa.SortPure Go.Proofs.Ytipgigbnfdgfmaa.Types Go.Proofs.Ytipgigbnfdgfmaa.Heap Go.Proofs.Ytipgigbnfdgfmaa.Row Go.Proofs.Ytipgigbnfdgfmaa.Ord Go.Proofs.Ytipgigbnfdgfmaa.Sorted Go.Proofs.Ytipgigbnfdgfmaa.HU Go.Proofs.YtipgigbnfdgfmaaW.PrintWords Go.Proofs.YtipgigbnfdgfmaaW.PrintLast Go.Proofs.YtipgigbnfdgfmaaW.PrintMore
set_option linter.unusedVariables false
set_option linter.unusedSimpArgs false
set_option maxHeartbeats 4000000 in
set_option maxRecDepth 100000 in
theorem push_full (w : World) (base g : Nat) (A : Option Addr) (c : Nat) (l : List M) (m : M) (h : QAt w base g (.slice A l.length c) l) (hl : l.length = 16384) (hn : ∀ x ∈ l, ¬ isOf m.f0.f1 m.f3 x) :
    Calls Try.prog 9 #[.pointer (some ⟨g, 0, none⟩), .agg (cM m).toArray] w fun e w' => e = .returned (.int .i64 9) ∧ Below w.heap.size w w' := by
  have HB := hide ((Below.refl w.heap.size w).alloc (Nat.le_refl _) (.cells (cM m).toArray 25))
  have HQ1 := hide (h.alloc (.cells (cM m).toArray 25))
  have HX := hide (Blk.new w 25 (cM m).toArray)
  have HN := hide (none_call g _ _ HQ1.out.blk)
  have HF := hide (find_none _ base g A c l m.f0.f1 m.f3 HQ1.out (by omega) hn)
  have HL := hide hl
  obtain ⟨n, hnn⟩ : ∃ n, l.length = n := ⟨_, rfl⟩
  have hlI : ¬ (n : Int) < 16384 := by omega
  have hlI2 : (16384 : Int) ≤ (n : Int) := by omega
  rw [hnn] at HQ1
  clear h hn hl
  unfold cM c25 at HB HQ1 HX HN HF ⊢
  have x1 := HX.out.cell 1
  have x5 := HX.out.cell 5
  have HQ2 : Hid (∀ w2, Below (w.alloc (.cells #[.int .i64 m.f0.f0, .int .i64 m.f0.f1, .int .i64 m.f0.f2, .int .i64 m.f1, .int .i64 m.f2, .int .i64 m.f3, .bool m.f4] 25)).heap.size (w.alloc (.cells #[.int .i64 m.f0.f0, .int .i64 m.f0.f1, .int .i64 m.f0.f2, .int .i64 m.f1, .int .i64 m.f2, .int .i64 m.f3, .bool m.f4] 25)) w2 → w2.cell? ⟨g, 0, none⟩ = some (.slice A n c)) := hide (fun w2 hb => (HQ1.out.below hb).c0)
  clear HQ1
  go_enter Try.func9, Try.ntmps9
  go_wp2_with (first
    | (go_at_call 21; refine HN.out.mono ?_; rintro e w' ⟨rfl, rfl⟩)
    | (go_at_call 22; refine HF.out.mono ?_; rintro e w2 ⟨rfl, hb⟩; have HB2 := hide (below_step HB.out hb); have c0 := HQ2.out _ hb; clear hb HB HX HN HF x1 x5))
  go_ret
  exact ⟨rfl, HB2.out⟩
set_option maxHeartbeats 4000000 in
set_option maxRecDepth 100000 in
theorem rpush_full (w : World) (F r : Nat) (A : Option Addr) (c : Nat) (sl : List M) (m : M) (h : RAt w F r A c sl) (hl : sl.length = 16384) (hn : ∀ x ∈ sl, ¬ isOf m.f0.f1 m.f3 x) :
    Calls Try.prog 27 #[.pointer (some ⟨r, 0, none⟩), .agg #[.int .i64 m.f0.f0, .int .i64 m.f0.f1, .int .i64 m.f0.f2, .int .i64 m.f1, .int .i64 m.f2, .int .i64 m.f3, .bool m.f4]] w fun e w' => e = .returned (.int .i64 9) ∧ Below w.heap.size w w' := by
  have HB := hide ((Below.refl w.heap.size w).alloc (Nat.le_refl _) (.cells #[.int .i64 m.f0.f0, .int .i64 m.f0.f1, .int .i64 m.f0.f2, .int .i64 m.f1, .int .i64 m.f2, .int .i64 m.f3, .bool m.f4] 25))
  have HX := hide (Blk.new w 25 #[.int .i64 m.f0.f0, .int .i64 m.f0.f1, .int .i64 m.f0.f2, .int .i64 m.f1, .int .i64 m.f2, .int .i64 m.f3, .bool m.f4])
  have HR1 := hide (h.below HB.out)
  have HF := hide ((rfind_call _ F r A c sl m.f0.f1 m.f3 (h.below HB.out) (by omega)).mono (R' := fun e w' => e = .returned (.int .i64 (-1)) ∧ Below (w.alloc (.cells #[.int .i64 m.f0.f0, .int .i64 m.f0.f1, .int .i64 m.f0.f2, .int .i64 m.f1, .int .i64 m.f2, .int .i64 m.f3, .bool m.f4] 25)).heap.size (w.alloc (.cells #[.int .i64 m.f0.f0, .int .i64 m.f0.f1, .int .i64 m.f0.f2, .int .i64 m.f1, .int .i64 m.f2, .int .i64 m.f3, .bool m.f4] 25)) w') (fun e w' hh => ⟨by
    rcases hh.1 with ⟨e, _⟩ | ⟨k, hk, _, q⟩
    · exact e
    · exact absurd q (hn _ (List.getElem_mem hk)), hh.2⟩))
  obtain ⟨n, hnn⟩ : ∃ n, sl.length = n := ⟨_, rfl⟩
  have hlI : ¬ (n : Int) < 16384 := by omega
  have hlI2 : (16384 : Int) ≤ (n : Int) := by omega
  clear h hn hl
  have x1 := HX.out.cell 1
  have x5 := HX.out.cell 5
  go_enter Try.func27, Try.ntmps27
  go_wp2_with fail
  refine HF.out.mono ?_
  rintro e w2 ⟨rfl, hb⟩
  have HB2 := hide (below_step HB.out hb)
  have c0 : w2.cell? ⟨r, 0, none⟩ = some (.slice A n c) := by rw [← hnn]; exact (HR1.out.below hb).blk.cell 0
  clear hb HF HX HB HR1 x1 x5
  go_wp2_with fail
  go_ret
  exact ⟨rfl, HB2.out⟩
end Go.Proofs.Ytipgigbnfdgfmaa.HQ
