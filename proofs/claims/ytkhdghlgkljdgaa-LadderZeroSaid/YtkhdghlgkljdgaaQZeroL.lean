/- What a queue that nobody made (nil, or of zeros) answers. No law is proved here. (Written by zerogen.py.) -/
import Derived.Test.YtkhdghlgkljdgaaTypes
import Derived.Test.YtkhdghlgkljdgaaHeap
import Derived.Test.YtkhdghlgkljdgaaGrK
import Derived.Test.YtkhdghlgkljdgaaPLadderZerox3
import Derived.Laws.Rows
import Derived.Laws.NewBlocks
import Derived.WalkSpells
namespace Go.Proofs.Ytkhdghlgkljdgaa.QZ
open Go.RowKit Go.Proofs.Ytkhdghlgkljdgaa.GrK Go.Proofs.Ytkhdghlgkljdgaa.Types Go.Proofs.Ytkhdghlgkljdgaa.Heap Go.Proofs.YtkhdghlgkljdgaaW.PrintWords Go.Proofs.YtkhdghlgkljdgaaW.PrintLast Go.Proofs.YtkhdghlgkljdgaaW.PrintMore
set_option linter.unusedVariables false
set_option linter.unusedSimpArgs false
def zero : Array Value := #[.slice none 0 0, .int .i64 0, .slice none 0 0]
def Z (w : World) (p : Option Addr) : Prop := p = none ∨ ∃ g, p = some ⟨g, 0, none⟩ ∧ Blk w g 47 zero
theorem Z.below {w w' : World} {p : Option Addr} (h : Z w p) (hb : Below w.heap.size w w') : Z w' p := by
  rcases h with rfl | ⟨g, rfl, h⟩
  · exact .inl rfl
  · exact .inr ⟨g, rfl, h.below' hb⟩
theorem setCell_id {w : World} {g t i : Nat} {cs : Array Value} {v : Value} (h : Blk w g t cs) (hv : cs[i]? = some v) : w.setCell ⟨g, i, none⟩ v = w := by
  obtain ⟨heap, tape, drawn, os, output⟩ := w
  unfold Blk at h
  simp only [World.setCell]
  congr 1
  · apply Array.ext_getElem?
    intro k
    rw [Array.getElem?_modify]
    split
    · rename_i e
      subst e
      simp only [] at h
      rw [h]
      have : cs.setIfInBounds i v = cs := by
        apply Array.ext_getElem?
        intro j
        rw [Array.getElem?_setIfInBounds]
        split
        · rename_i e
          subst e
          split
          · exact hv.symm
          · rename_i hn
            rw [Array.getElem?_eq_none (by omega)]
        · rfl
      simp [this]
    · rfl
theorem none_call (p : Option Addr) (w : World) (h : Z w p) : Calls Try.prog 20 #[.pointer p] w fun e w' => e = .returned (.bool true) ∧ w' = w := by
  rcases h with rfl | ⟨g, rfl, h⟩
  · go_enter Try.func20, Try.ntmps20
    go_wp2
    go_ret
    exact ⟨rfl, rfl⟩
  · have c1 : w.cell? ⟨g, 1, none⟩ = some (.int .i64 0) := h.cell 1
    go_enter Try.func20, Try.ntmps20
    go_wp2
    go_ret
    exact ⟨rfl, rfl⟩
theorem len_call (p : Option Addr) (w : World) (h : Z w p) : Calls Try.prog 11 #[.pointer p] w fun e w' => e = .returned (.int .i64 0) ∧ w' = w := by
  have H := hide (none_call p w h)
  go_enter Try.func11, Try.ntmps11
  go_wp2_with (go_at_call 20; refine (unhide H).mono ?_; rintro e w1 ⟨rfl, rfl⟩; clear H)
  go_ret
  exact ⟨rfl, rfl⟩
theorem all_call (p : Option Addr) (w : World) (h : Z w p) : Calls Try.prog 16 #[.pointer p] w fun e w' => e = .returned (.slice none 0 0) ∧ w' = w := by
  have H := hide (none_call p w h)
  go_enter Try.func16, Try.ntmps16
  go_wp2_with (go_at_call 20; refine (unhide H).mono ?_; rintro e w1 ⟨rfl, rfl⟩; clear H)
  go_ret
  exact ⟨rfl, rfl⟩
theorem first_call (p : Option Addr) (w : World) (h : Z w p) : Calls Try.prog 17 #[.pointer p] w fun e w' => e = .returned (.tuple #[.agg #[.int .i64 0, .int .i64 0, .int .i64 0, .int .i64 0, .int .i64 0, .int .i64 0, .bool false], .int .i64 7]) ∧ Below w.heap.size w w' := by
  have hb : Below w.heap.size w (w.alloc (.cells #[.int .i64 0, .int .i64 0, .int .i64 0, .int .i64 0, .int .i64 0, .int .i64 0, .bool false] 25)) := (Below.refl w.heap.size w).alloc (Nat.le_refl _) _
  have H := hide (none_call p _ (h.below hb))
  have hu1 := Try.underlying25
  have hu2 := Try.underlying23
  go_enter Try.func17, Try.ntmps17
  go_wp2_with (go_at_call 20; refine (unhide H).mono ?_; rintro e w1 ⟨rfl, rfl⟩; clear H)
  refine bodyPost_ret (v := .tuple #[.agg #[.int .i64 0, .int .i64 0, .int .i64 0, .int .i64 0, .int .i64 0, .int .i64 0, .bool false], .int .i64 7]) ?_ rfl ⟨rfl, hb⟩
  refine results_list (rs := [.cell 2 25, .tmp 3]) rfl (by simp) ?_
  exact Vals.cell w.heap.size 25 #[.int .i64 0, .int .i64 0, .int .i64 0, .int .i64 0, .int .i64 0, .int .i64 0, .bool false] (0, 0) _ rfl (heap_alloc_new w _) hu1 rfl (by kernel_rfl) (Vals.tmp Vals.nil)
theorem cut_call (p : Option Addr) (n u : Int) (w : World) (h : Z w p) : Calls Try.prog 12 #[.pointer p, .int .i64 n, .int .i64 u] w fun e w' => e = .returned (.tuple #[.agg #[.int .i64 0, .int .i64 0, .int .i64 0, .int .i64 0, .int .i64 0, .int .i64 0, .bool false], .int .i64 7]) ∧ Below w.heap.size w w' := by
  have hb : Below w.heap.size w (w.alloc (.cells #[.int .i64 0, .int .i64 0, .int .i64 0, .int .i64 0, .int .i64 0, .int .i64 0, .bool false] 25)) := (Below.refl w.heap.size w).alloc (Nat.le_refl _) _
  have H := hide (none_call p _ (h.below hb))
  have hu1 := Try.underlying25
  have hu2 := Try.underlying23
  go_enter Try.func12, Try.ntmps12
  go_wp2_with (go_at_call 20; refine (unhide H).mono ?_; rintro e w1 ⟨rfl, rfl⟩; clear H)
  refine bodyPost_ret (v := .tuple #[.agg #[.int .i64 0, .int .i64 0, .int .i64 0, .int .i64 0, .int .i64 0, .int .i64 0, .bool false], .int .i64 7]) ?_ rfl ⟨rfl, hb⟩
  refine results_list (rs := [.cell 6 25, .tmp 7]) rfl (by simp) ?_
  exact Vals.cell w.heap.size 25 #[.int .i64 0, .int .i64 0, .int .i64 0, .int .i64 0, .int .i64 0, .int .i64 0, .bool false] (0, 0) _ rfl (heap_alloc_new w _) hu1 rfl (by kernel_rfl) (Vals.tmp Vals.nil)
theorem pop_call (p : Option Addr) (w : World) (h : Z w p) : Calls Try.prog 14 #[.pointer p] w fun e w' => e = .returned (.tuple #[.agg #[.int .i64 0, .int .i64 0, .int .i64 0, .int .i64 0, .int .i64 0, .int .i64 0, .bool false], .int .i64 7]) ∧ Below w.heap.size w w' := by
  have hb : Below w.heap.size w (w.alloc (.cells #[.int .i64 0, .int .i64 0, .int .i64 0, .int .i64 0, .int .i64 0, .int .i64 0, .bool false] 25)) := (Below.refl w.heap.size w).alloc (Nat.le_refl _) _
  have H := hide (first_call p _ (h.below hb))
  have hu1 := Try.underlying25
  have hu2 := Try.underlying23
  go_enter Try.func14, Try.ntmps14
  go_wp2_with fail
  have HB := hide hb
  have HN := hide (Blk.new w 25 #[.int .i64 0, .int .i64 0, .int .i64 0, .int .i64 0, .int .i64 0, .int .i64 0, .bool false])
  clear hb
  refine H.out.mono ?_
  rintro e w1 ⟨rfl, hb1⟩
  have HB1 := hide (HB.out.trans (hb1.mono HB.out.size))
  have HN1 := hide (HN.out.below' hb1)
  clear H HB HN hb1
  rename_i K1 h1 K2 h2
  have HK := hide h1
  clear h1
  go_wp2_with fail
  have HB2 := hide (HB1.out.alloc HB1.out.size (.cells #[.int .i64 0, .int .i64 0, .int .i64 0, .int .i64 0, .int .i64 0, .int .i64 0, .bool false] 25))
  have HN2 := hide (HN1.out.alloc (.cells #[.int .i64 0, .int .i64 0, .int .i64 0, .int .i64 0, .int .i64 0, .int .i64 0, .bool false] 25))
  have HM2 := hide (Blk.new w1 25 #[.int .i64 0, .int .i64 0, .int .i64 0, .int .i64 0, .int .i64 0, .int .i64 0, .bool false])
  generalize (w1.alloc (.cells #[.int .i64 0, .int .i64 0, .int .i64 0, .int .i64 0, .int .i64 0, .int .i64 0, .bool false] 25)) = w2 at HB2 HN2 HM2 ⊢
  clear HB1 HN1
  refine HK.out _ _ ?_
  clear HK K1
  have x0 : w2.cell? ⟨w.heap.size, 0, none⟩ = some (.int .i64 0) := HN2.out.cell 0
  have x1 : w2.cell? ⟨w.heap.size, 1, none⟩ = some (.int .i64 0) := HN2.out.cell 1
  have x2 : w2.cell? ⟨w.heap.size, 2, none⟩ = some (.int .i64 0) := HN2.out.cell 2
  have x3 : w2.cell? ⟨w.heap.size, 3, none⟩ = some (.int .i64 0) := HN2.out.cell 3
  have x4 : w2.cell? ⟨w.heap.size, 4, none⟩ = some (.int .i64 0) := HN2.out.cell 4
  have x5 : w2.cell? ⟨w.heap.size, 5, none⟩ = some (.int .i64 0) := HN2.out.cell 5
  have x6 : w2.cell? ⟨w.heap.size, 6, none⟩ = some (.bool false) := HN2.out.cell 6
  have m0 : w2.cell? ⟨w1.heap.size, 0, none⟩ = some (.int .i64 0) := HM2.out.cell 0
  have m1 : w2.cell? ⟨w1.heap.size, 1, none⟩ = some (.int .i64 0) := HM2.out.cell 1
  have m2 : w2.cell? ⟨w1.heap.size, 2, none⟩ = some (.int .i64 0) := HM2.out.cell 2
  have m3 : w2.cell? ⟨w1.heap.size, 3, none⟩ = some (.int .i64 0) := HM2.out.cell 3
  have m4 : w2.cell? ⟨w1.heap.size, 4, none⟩ = some (.int .i64 0) := HM2.out.cell 4
  have m5 : w2.cell? ⟨w1.heap.size, 5, none⟩ = some (.int .i64 0) := HM2.out.cell 5
  have m6 : w2.cell? ⟨w1.heap.size, 6, none⟩ = some (.bool false) := HM2.out.cell 6
  have f0 : w2.frozen? ⟨w.heap.size, 0, none⟩ = false := HN2.out.frozen 0
  have f1 : w2.frozen? ⟨w.heap.size, 1, none⟩ = false := HN2.out.frozen 1
  have f2 : w2.frozen? ⟨w.heap.size, 2, none⟩ = false := HN2.out.frozen 2
  have f3 : w2.frozen? ⟨w.heap.size, 3, none⟩ = false := HN2.out.frozen 3
  have f4 : w2.frozen? ⟨w.heap.size, 4, none⟩ = false := HN2.out.frozen 4
  have f5 : w2.frozen? ⟨w.heap.size, 5, none⟩ = false := HN2.out.frozen 5
  have f6 : w2.frozen? ⟨w.heap.size, 6, none⟩ = false := HN2.out.frozen 6
  have s0 : w2.setCell ⟨w.heap.size, 0, none⟩ (.int .i64 0) = w2 := setCell_id HN2.out (by rfl)
  have s1 : w2.setCell ⟨w.heap.size, 1, none⟩ (.int .i64 0) = w2 := setCell_id HN2.out (by rfl)
  have s2 : w2.setCell ⟨w.heap.size, 2, none⟩ (.int .i64 0) = w2 := setCell_id HN2.out (by rfl)
  have s3 : w2.setCell ⟨w.heap.size, 3, none⟩ (.int .i64 0) = w2 := setCell_id HN2.out (by rfl)
  have s4 : w2.setCell ⟨w.heap.size, 4, none⟩ (.int .i64 0) = w2 := setCell_id HN2.out (by rfl)
  have s5 : w2.setCell ⟨w.heap.size, 5, none⟩ (.int .i64 0) = w2 := setCell_id HN2.out (by rfl)
  have s6 : w2.setCell ⟨w.heap.size, 6, none⟩ (.bool false) = w2 := setCell_id HN2.out (by rfl)
  go_wp2_with fail
  refine bodyPost_ret (v := .tuple #[.agg #[.int .i64 0, .int .i64 0, .int .i64 0, .int .i64 0, .int .i64 0, .int .i64 0, .bool false], .int .i64 7]) ?_ rfl ⟨rfl, HB2.out⟩
  refine results_list (rs := [.cell 2 25, .tmp 3]) rfl (by simp) ?_
  exact Vals.cell w.heap.size 25 #[.int .i64 0, .int .i64 0, .int .i64 0, .int .i64 0, .int .i64 0, .int .i64 0, .bool false] (0, 0) _ rfl HN2.out hu1 rfl (by kernel_rfl) (Vals.tmp Vals.nil)
theorem push_call (p : Option Addr) (x : S25) (w : World) (h : Z w p) : Calls Try.prog 10 #[.pointer p, .agg #[.int .i64 x.f0.f0, .int .i64 x.f0.f1, .int .i64 x.f0.f2, .int .i64 x.f1, .int .i64 x.f2, .int .i64 x.f3, .bool x.f4]] w fun e w' => e = .returned (.int .i64 7) ∧ Below w.heap.size w w' := by
  have hb : Below w.heap.size w (w.alloc (.cells #[.int .i64 x.f0.f0, .int .i64 x.f0.f1, .int .i64 x.f0.f2, .int .i64 x.f1, .int .i64 x.f2, .int .i64 x.f3, .bool x.f4] 25)) := (Below.refl w.heap.size w).alloc (Nat.le_refl _) _
  have H := hide (none_call p _ (h.below hb))
  go_enter Try.func10, Try.ntmps10
  go_wp2_with (go_at_call 20; refine (unhide H).mono ?_; rintro e w1 ⟨rfl, rfl⟩; clear H)
  go_ret
  exact ⟨rfl, hb⟩
end Go.Proofs.Ytkhdghlgkljdgaa.QZ
