/- What a link that nobody made (nil, or of zeros) answers. No law is proved here. -/
import Derived.Test.YtdbdaalkmjcifaaTypes
import Derived.Test.YtdbdaalkmjcifaaHeap
import Derived.Test.YtdbdaalkmjcifaaGrK
import Derived.Test.YtdbdaalkmjcifaaPLinkRoomx1
import Derived.Laws.Rows
import Derived.Laws.NewBlocks
namespace Go.Proofs.Ytdbdaalkmjcifaa.LinkZ
open Go.RowKit Go.Proofs.Ytdbdaalkmjcifaa.GrK Go.Proofs.Ytdbdaalkmjcifaa.Types Go.Proofs.Ytdbdaalkmjcifaa.Heap Go.Proofs.YtdbdaalkmjcifaaW.PrintWords Go.Proofs.YtdbdaalkmjcifaaW.PrintLast Go.Proofs.YtdbdaalkmjcifaaW.PrintMore
attribute [local go_sem] max2_int min2_int max_two min_two max_three min_three max_four min_four
set_option linter.unusedVariables false
set_option linter.unusedSimpArgs false
def zero : Array Value := #[.int .i64 0, .int .i64 0, .int .i64 0, .bool false, .int .i64 0, .slice none 0 0]
def Z (w : World) (p : Option Addr) : Prop := p = none ∨ ∃ g, p = some ⟨g, 0, none⟩ ∧ Blk w g 52 zero
theorem Z.below {w w' : World} {p : Option Addr} (h : Z w p) (hb : Below w.heap.size w w') : Z w' p := by
  rcases h with rfl | ⟨g, rfl, h⟩
  · exact .inl rfl
  · exact .inr ⟨g, rfl, h.below' hb⟩
theorem none_call (p : Option Addr) (w : World) (h : Z w p) : Calls Try.prog 27 #[.pointer p] w fun e w' => e = .returned (.bool true) ∧ w' = w := by
  rcases h with rfl | ⟨g, rfl, h⟩
  · go_enter Try.func27, Try.ntmps27
    go_wp2
    go_ret
    exact ⟨rfl, rfl⟩
  · have c4 : w.cell? ⟨g, 4, none⟩ = some (.int .i64 0) := h.cell 4
    go_enter Try.func27, Try.ntmps27
    go_wp2
    go_ret
    exact ⟨rfl, rfl⟩
theorem at_call (p : Option Addr) (n : Int) (w : World) (h : Z w p) : Calls Try.prog 31 #[.pointer p, .int .i64 n] w fun e w' => e = .returned (.tuple #[.int .i64 0, .int .i64 7]) ∧ w' = w := by
  have H := hide (none_call p w h)
  go_enter Try.func31, Try.ntmps31
  go_wp2_with (go_at_call 27; refine (unhide H).mono ?_; rintro e w1 ⟨rfl, rfl⟩; clear H)
  go_ret2
  exact ⟨rfl, rfl⟩
theorem len_call (p : Option Addr) (w : World) (h : Z w p) : Calls Try.prog 11 #[.pointer p] w fun e w' => e = .returned (.int .i64 0) ∧ w' = w := by
  have H := hide (none_call p w h)
  go_enter Try.func11, Try.ntmps11
  go_wp2_with (go_at_call 27; refine (unhide H).mono ?_; rintro e w1 ⟨rfl, rfl⟩; clear H)
  go_ret
  exact ⟨rfl, rfl⟩
theorem room_call (p : Option Addr) (w : World) (h : Z w p) : Calls Try.prog 12 #[.pointer p] w fun e w' => e = .returned (.int .i64 0) ∧ w' = w := by
  have H := hide (none_call p w h)
  go_enter Try.func12, Try.ntmps12
  go_wp2_with (go_at_call 27; refine (unhide H).mono ?_; rintro e w1 ⟨rfl, rfl⟩; clear H)
  go_ret
  exact ⟨rfl, rfl⟩
theorem all_call (p : Option Addr) (w : World) (h : Z w p) : Calls Try.prog 18 #[.pointer p] w fun e w' => e = .returned (.slice none 0 0) ∧ w' = w := by
  have H := hide (none_call p w h)
  go_enter Try.func18, Try.ntmps18
  go_wp2_with (go_at_call 27; refine (unhide H).mono ?_; rintro e w1 ⟨rfl, rfl⟩; clear H)
  go_ret
  exact ⟨rfl, rfl⟩
theorem least_nil (w : World) : Calls Try.prog 28 #[.slice none 0 0] w fun e w' => e = .returned (.int .i64 4611686018427387904) ∧ w' = w := by
  go_enter Try.func28, Try.ntmps28
  go_wp2
  refine wp_loop_rounds 1 ?_
  rw [rounds_succ]
  go_wp2
  go_ret
  exact ⟨rfl, rfl⟩
theorem least_call (p : Option Addr) (w : World) (h : Z w p) : Calls Try.prog 14 #[.pointer p] w fun e w' => e = .returned (.int .i64 4611686018427387904) ∧ w' = w := by
  have H := hide (all_call p w h)
  go_enter Try.func14, Try.ntmps14
  go_wp2_with (first | (go_at_call 28; refine (least_nil _).mono ?_; rintro e w1 ⟨rfl, rfl⟩) | (go_at_call 18; refine (unhide H).mono ?_; rintro e w1 ⟨rfl, rfl⟩; clear H))
  refine wp_loop_rounds 1 ?_
  rw [rounds_succ]
  go_wp2
  go_ret
  exact ⟨rfl, rfl⟩
theorem peek_call (p : Option Addr) (n : Int) (w : World) (h : Z w p) : Calls Try.prog 16 #[.pointer p, .int .i64 n] w fun e w' => e = .returned (.tuple #[.agg #[.int .i64 0, .int .i64 0, .int .i64 0, .int .i64 0, .int .i64 0, .int .i64 0, .bool false, .int .i64 0], .int .i64 7]) ∧ Below w.heap.size w w' := by
  have hb : Below w.heap.size w (w.alloc (.cells #[.int .i64 0, .int .i64 0, .int .i64 0, .int .i64 0, .int .i64 0, .int .i64 0, .bool false, .int .i64 0] 35)) := (Below.refl w.heap.size w).alloc (Nat.le_refl _) _
  have H := hide (at_call p n (w.alloc (.cells #[.int .i64 0, .int .i64 0, .int .i64 0, .int .i64 0, .int .i64 0, .int .i64 0, .bool false, .int .i64 0] 35)) (h.below hb))
  have hu35 := Try.underlying35
  have hu33 := Try.underlying33
  have hu31 := Try.underlying31
  go_enter Try.func16, Try.ntmps16
  go_wp2_with (go_at_call 31; refine (unhide H).mono ?_; rintro e w1 ⟨rfl, rfl⟩; clear H)
  refine bodyPost_ret (v := .tuple #[.agg #[.int .i64 0, .int .i64 0, .int .i64 0, .int .i64 0, .int .i64 0, .int .i64 0, .bool false, .int .i64 0], .int .i64 7]) ?_ rfl ⟨rfl, hb⟩
  refine results_list (rs := [.cell 4 35, .tmp 5]) rfl (by simp) ?_
  exact Vals.cell w.heap.size 35 #[.int .i64 0, .int .i64 0, .int .i64 0, .int .i64 0, .int .i64 0, .int .i64 0, .bool false, .int .i64 0] (0, 0) _ rfl (heap_alloc_new w _) hu35 rfl (by kernel_rfl) (Vals.tmp Vals.nil)
theorem take_call (p : Option Addr) (n : Int) (w : World) (h : Z w p) : Calls Try.prog 17 #[.pointer p, .int .i64 n] w fun e w' => e = .returned (.tuple #[.agg #[.int .i64 0, .int .i64 0, .int .i64 0, .int .i64 0, .int .i64 0, .int .i64 0, .bool false, .int .i64 0], .int .i64 7]) ∧ Below w.heap.size w w' := by
  have hb : Below w.heap.size w (w.alloc (.cells #[.int .i64 0, .int .i64 0, .int .i64 0, .int .i64 0, .int .i64 0, .int .i64 0, .bool false, .int .i64 0] 35)) := (Below.refl w.heap.size w).alloc (Nat.le_refl _) _
  have H := hide (at_call p n _ (h.below hb))
  have hu35 := Try.underlying35
  have hu33 := Try.underlying33
  have hu31 := Try.underlying31
  go_enter Try.func17, Try.ntmps17
  go_wp2_with (go_at_call 31; refine (unhide H).mono ?_; rintro e w1 ⟨rfl, rfl⟩; clear H)
  refine bodyPost_ret (v := .tuple #[.agg #[.int .i64 0, .int .i64 0, .int .i64 0, .int .i64 0, .int .i64 0, .int .i64 0, .bool false, .int .i64 0], .int .i64 7]) ?_ rfl ⟨rfl, hb⟩
  refine results_list (rs := [.cell 4 35, .tmp 5]) rfl (by simp) ?_
  exact Vals.cell w.heap.size 35 #[.int .i64 0, .int .i64 0, .int .i64 0, .int .i64 0, .int .i64 0, .int .i64 0, .bool false, .int .i64 0] (0, 0) _ rfl (heap_alloc_new w _) hu35 rfl (by kernel_rfl) (Vals.tmp Vals.nil)
theorem put_call (p : Option Addr) (x : S35) (w : World) (h : Z w p) : Calls Try.prog 10 #[.pointer p, .agg #[.int .i64 x.f0.f0.f0, .int .i64 x.f0.f0.f1, .int .i64 x.f0.f0.f2, .int .i64 x.f0.f1, .int .i64 x.f0.f2, .int .i64 x.f0.f3, .bool x.f0.f4, .int .i64 x.f1]] w fun e w' => e = .returned (.int .i64 7) ∧ Below w.heap.size w w' := by
  have hb : Below w.heap.size w (w.alloc (.cells #[.int .i64 x.f0.f0.f0, .int .i64 x.f0.f0.f1, .int .i64 x.f0.f0.f2, .int .i64 x.f0.f1, .int .i64 x.f0.f2, .int .i64 x.f0.f3, .bool x.f0.f4, .int .i64 x.f1] 35)) := (Below.refl w.heap.size w).alloc (Nat.le_refl _) _
  have H := hide (none_call p _ (h.below hb))
  go_enter Try.func10, Try.ntmps10
  go_wp2_with (go_at_call 27; refine (unhide H).mono ?_; rintro e w1 ⟨rfl, rfl⟩; clear H)
  go_ret
  exact ⟨rfl, hb⟩
theorem put_gr (p : Option Addr) (x : S35) (w : World) (h : Z w p) : Calls Try.prog 10 #[.pointer p, .agg #[.int .i64 x.f0.f0.f0, .int .i64 x.f0.f0.f1, .int .i64 x.f0.f0.f2, .int .i64 x.f0.f1, .int .i64 x.f0.f2, .int .i64 x.f0.f3, .bool x.f0.f4, .int .i64 x.f1]] w fun e w' => e = .returned (.int .i64 7) ∧ Gr w w' := by
  have hb : Below w.heap.size w (w.alloc (.cells #[.int .i64 x.f0.f0.f0, .int .i64 x.f0.f0.f1, .int .i64 x.f0.f0.f2, .int .i64 x.f0.f1, .int .i64 x.f0.f2, .int .i64 x.f0.f3, .bool x.f0.f4, .int .i64 x.f1] 35)) := (Below.refl w.heap.size w).alloc (Nat.le_refl _) _
  have hg : Gr w (w.alloc (.cells #[.int .i64 x.f0.f0.f0, .int .i64 x.f0.f0.f1, .int .i64 x.f0.f0.f2, .int .i64 x.f0.f1, .int .i64 x.f0.f2, .int .i64 x.f0.f3, .bool x.f0.f4, .int .i64 x.f1] 35)) := (Gr.refl w).alloc _
  have H := hide (none_call p _ (h.below hb))
  go_enter Try.func10, Try.ntmps10
  go_wp2_with (go_at_call 27; refine (unhide H).mono ?_; rintro e w1 ⟨rfl, rfl⟩; clear H)
  go_ret
  exact ⟨rfl, hg⟩
theorem gr_same {P : Program} {f : FuncId} {args : Array Value} {v : Value} {w : World} (h : Calls P f args w fun e w' => e = .returned v ∧ w' = w) : Calls P f args w fun e w' => e = .returned v ∧ Gr w w' :=
  h.mono (by rintro e w' ⟨rfl, rfl⟩; exact ⟨rfl, Gr.refl _⟩)
end Go.Proofs.Ytdbdaalkmjcifaa.LinkZ
