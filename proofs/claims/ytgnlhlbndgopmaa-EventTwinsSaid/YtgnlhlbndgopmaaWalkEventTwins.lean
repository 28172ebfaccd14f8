/- The walk of EventTwins. -/
import Derived.Test.YtgnlhlbndgopmaaEvent
import Derived.Test.YtgnlhlbndgopmaaKindsEventTwins
import Derived.Laws.Rows
import Derived.Laws.NewBlocks
import Derived.Deep.RegionHeld3
namespace Go.Proofs.Ytgnlhlbndgopmaa.eventTwins
open Go.RowKit Go.Proofs.Ytgnlhlbndgopmaa.PEventPairs Go.Proofs.Ytgnlhlbndgopmaa.Event Go.Proofs.YtgnlhlbndgopmaaW.PrintWords Go.Proofs.YtgnlhlbndgopmaaW.PrintLast Go.Proofs.YtgnlhlbndgopmaaW.PrintMore
set_option linter.unusedVariables false
set_option linter.unusedSimpArgs false
attribute [local go_sem high] eqA29
theorem hide {p : Prop} (h : p) : Hid p := h
theorem unhide {p : Prop} (h : Hid p) : p := h
def Cells (W : World) (mb tb : Nat) (a0 a1 a2 a3 a4 a5 : Int) (a6 b6 : Bool) : Prop := W.cell? ⟨mb, 0, none⟩ = some (.int .i64 a0) ∧ W.cell? ⟨mb, 1, none⟩ = some (.int .i64 a1) ∧ W.cell? ⟨mb, 2, none⟩ = some (.int .i64 a2) ∧ W.cell? ⟨mb, 3, none⟩ = some (.int .i64 a3) ∧ W.cell? ⟨mb, 4, none⟩ = some (.int .i64 a4) ∧ W.cell? ⟨mb, 5, none⟩ = some (.int .i64 a5) ∧ W.cell? ⟨mb, 6, none⟩ = some (.bool a6) ∧ W.cell? ⟨tb, 0, none⟩ = some (.int .i64 a0) ∧ W.cell? ⟨tb, 1, none⟩ = some (.int .i64 a1) ∧ W.cell? ⟨tb, 2, none⟩ = some (.int .i64 a2) ∧ W.cell? ⟨tb, 3, none⟩ = some (.int .i64 a3) ∧ W.cell? ⟨tb, 4, none⟩ = some (.int .i64 a4) ∧ W.cell? ⟨tb, 5, none⟩ = some (.int .i64 a5) ∧ W.cell? ⟨tb, 6, none⟩ = some (.bool b6)
def Two (B : Nat) (w W : World) (mb tb : Nat) (a0 a1 a2 a3 a4 a5 : Int) (a6 b6 : Bool) : Prop :=
  W.heap[mb]? = some (.cells #[.int .i64 a0, .int .i64 a1, .int .i64 a2, .int .i64 a3, .int .i64 a4, .int .i64 a5, .bool a6] 29 (0, 0)) ∧ W.heap[tb]? = some (.cells #[.int .i64 a0, .int .i64 a1, .int .i64 a2, .int .i64 a3, .int .i64 a4, .int .i64 a5, .bool b6] 29 (0, 0)) ∧ Below B w W ∧ B ≤ W.heap.size
theorem lt_of {W : World} {g : Nat} {o : Obj} (h : W.heap[g]? = some o) : g < W.heap.size := (Array.getElem?_eq_some_iff.1 h).1
theorem Two.step {B : Nat} {w W W' : World} {mb tb : Nat} {a0 a1 a2 a3 a4 a5 : Int} {a6 b6 : Bool} (h : Two B w W mb tb a0 a1 a2 a3 a4 a5 a6 b6) (hb : Below W.heap.size W W') : Two B w W' mb tb a0 a1 a2 a3 a4 a5 a6 b6 :=
  ⟨(hb.block _ (lt_of h.1)).trans h.1, (hb.block _ (lt_of h.2.1)).trans h.2.1, h.2.2.1.trans (hb.mono h.2.2.2), Nat.le_trans h.2.2.2 hb.size⟩
theorem Two.drew {B : Nat} {w W : World} {mb tb : Nat} {a0 a1 a2 a3 a4 a5 : Int} {a6 b6 : Bool} (h : Two B w W mb tb a0 a1 a2 a3 a4 a5 a6 b6) : Two B w W.drew mb tb a0 a1 a2 a3 a4 a5 a6 b6 := ⟨h.1, h.2.1, h.2.2.1.drew, h.2.2.2⟩
theorem Two.cells {B : Nat} {w W : World} {mb tb : Nat} {a0 a1 a2 a3 a4 a5 : Int} {a6 b6 : Bool} (h : Two B w W mb tb a0 a1 a2 a3 a4 a5 a6 b6) : Cells W mb tb a0 a1 a2 a3 a4 a5 a6 b6 := by
  obtain ⟨h1, h2, _⟩ := h
  refine ⟨?_, ?_, ?_, ?_, ?_, ?_, ?_, ?_, ?_, ?_, ?_, ?_, ?_, ?_⟩
  · rw [cell_of_row W mb 0 _ _ _ h1]; rfl
  · rw [cell_of_row W mb 1 _ _ _ h1]; rfl
  · rw [cell_of_row W mb 2 _ _ _ h1]; rfl
  · rw [cell_of_row W mb 3 _ _ _ h1]; rfl
  · rw [cell_of_row W mb 4 _ _ _ h1]; rfl
  · rw [cell_of_row W mb 5 _ _ _ h1]; rfl
  · rw [cell_of_row W mb 6 _ _ _ h1]; rfl
  · rw [cell_of_row W tb 0 _ _ _ h2]; rfl
  · rw [cell_of_row W tb 1 _ _ _ h2]; rfl
  · rw [cell_of_row W tb 2 _ _ _ h2]; rfl
  · rw [cell_of_row W tb 3 _ _ _ h2]; rfl
  · rw [cell_of_row W tb 4 _ _ _ h2]; rfl
  · rw [cell_of_row W tb 5 _ _ _ h2]; rfl
  · rw [cell_of_row W tb 6 _ _ _ h2]; rfl

def Ans (f : FuncId) (args : Array Value) (v : Value) : Prop := ∀ W : World, Calls Try.prog f args W fun e w' => e = .returned v ∧ Below W.heap.size W w'
set_option maxHeartbeats 16000000 in
set_option maxRecDepth 100000 in
theorem core (a0 a1 a2 a3 a4 a5 : Int) (a6 b6 : Bool) (w : World) (T1 : Ans 22 #[.agg #[.int .i64 a0, .int .i64 a1, .int .i64 a2, .int .i64 a3, .int .i64 a4, .int .i64 a5, .bool a6]] (.agg #[.int .i64 a0, .int .i64 a1, .int .i64 a2, .int .i64 a3, .int .i64 a4, .int .i64 a5, .bool b6])) (T2 : Ans 22 #[.agg #[.int .i64 a0, .int .i64 a1, .int .i64 a2, .int .i64 a3, .int .i64 a4, .int .i64 a5, .bool b6]] (.agg #[.int .i64 a0, .int .i64 a1, .int .i64 a2, .int .i64 a3, .int .i64 a4, .int .i64 a5, .bool a6]))
    (T3 : Ans 20 #[.agg #[.int .i64 a0, .int .i64 a1, .int .i64 a2, .int .i64 a3, .int .i64 a4, .int .i64 a5, .bool a6], .agg #[.int .i64 a0, .int .i64 a1, .int .i64 a2, .int .i64 a3, .int .i64 a4, .int .i64 a5, .bool b6]] (.bool true)) (T4 : Ans 20 #[.agg #[.int .i64 a0, .int .i64 a1, .int .i64 a2, .int .i64 a3, .int .i64 a4, .int .i64 a5, .bool b6], .agg #[.int .i64 a0, .int .i64 a1, .int .i64 a2, .int .i64 a3, .int .i64 a4, .int .i64 a5, .bool a6]] (.bool true)) (T5 : Ans 18 #[.agg #[.int .i64 a0, .int .i64 a1, .int .i64 a2, .int .i64 a3, .int .i64 a4, .int .i64 a5, .bool a6], .agg #[.int .i64 a0, .int .i64 a1, .int .i64 a2, .int .i64 a3, .int .i64 a4, .int .i64 a5, .bool b6]] (.bool true))
    (T6 : Ans 20 #[.agg #[.int .i64 a0, .int .i64 a1, .int .i64 a2, .int .i64 a3, .int .i64 a4, .int .i64 a5, .bool a6], .agg #[.int .i64 a0, .int .i64 a1, .int .i64 a2, .int .i64 a3, .int .i64 a4, .int .i64 a5, .bool a6]] (.bool false)) (T7 : Ans 16 #[.agg #[.int .i64 a0, .int .i64 a1, .int .i64 a2, .int .i64 a3, .int .i64 a4, .int .i64 a5, .bool a6], .agg #[.int .i64 a0, .int .i64 a1, .int .i64 a2, .int .i64 a3, .int .i64 a4, .int .i64 a5, .bool b6]] (.bool false)) :
    Calls Try.prog 8 #[.agg #[.int .i64 a0, .int .i64 a1, .int .i64 a2, .int .i64 a3, .int .i64 a4, .int .i64 a5, .bool a6]] w fun e w' => e = .returned (.bool true) ∧ Below w.heap.size w w' := by
  have h0 : (w.alloc (.cells #[.int .i64 a0, .int .i64 a1, .int .i64 a2, .int .i64 a3, .int .i64 a4, .int .i64 a5, .bool a6] 29)).heap[w.heap.size]? = some (.cells #[.int .i64 a0, .int .i64 a1, .int .i64 a2, .int .i64 a3, .int .i64 a4, .int .i64 a5, .bool a6] 29 (0, 0)) := heap_alloc_new w _
  have H0 := hide h0
  clear h0
  go_enter Try.func8, Try.ntmps8
  go_wp2_with (go_at_call 22; refine (T1 _).mono ?_; rintro e w1 ⟨rfl, hb1⟩; have HB1 := hide hb1; clear hb1; clear T1)
  have hs : w.heap.size < w1.heap.size := by have := HB1.out.size; simp at this; omega
  have HT : Hid (Two w.heap.size w (w1.alloc (.cells #[.int .i64 a0, .int .i64 a1, .int .i64 a2, .int .i64 a3, .int .i64 a4, .int .i64 a5, .bool b6] 29)) w.heap.size w1.heap.size a0 a1 a2 a3 a4 a5 a6 b6) := by
    refine hide ⟨?_, heap_alloc_new w1 _, ?_, by simp; omega⟩
    · rw [Below.heap_alloc w1 _ _ hs, HB1.out.block w.heap.size (by simp)]
      exact H0.out
    · exact (((Below.refl w.heap.size w).alloc (Nat.le_refl _) _).trans (HB1.out.mono (by simp))).alloc (by omega) _
  clear HB1 H0 hs
  generalize w1.alloc (.cells #[.int .i64 a0, .int .i64 a1, .int .i64 a2, .int .i64 a3, .int .i64 a4, .int .i64 a5, .bool b6] 29) = W at HT ⊢
  generalize w1.heap.size = tb at HT ⊢
  obtain ⟨k0, k1, k2, k3, k4, k5, k6, k7, k8, k9, k10, k11, k12, k13⟩ := HT.out.cells
  go_region_held3 (fun w' => w'.cell? ⟨w.heap.size, 0, none⟩ = some (.int .i64 a0) ∧ w'.cell? ⟨w.heap.size, 1, none⟩ = some (.int .i64 a1) ∧ w'.cell? ⟨w.heap.size, 2, none⟩ = some (.int .i64 a2) ∧ w'.cell? ⟨w.heap.size, 3, none⟩ = some (.int .i64 a3) ∧ w'.cell? ⟨w.heap.size, 4, none⟩ = some (.int .i64 a4) ∧ w'.cell? ⟨w.heap.size, 5, none⟩ = some (.int .i64 a5) ∧ w'.cell? ⟨w.heap.size, 6, none⟩ = some (.bool a6) ∧ w'.cell? ⟨tb, 0, none⟩ = some (.int .i64 a0) ∧ w'.cell? ⟨tb, 1, none⟩ = some (.int .i64 a1) ∧ w'.cell? ⟨tb, 2, none⟩ = some (.int .i64 a2) ∧ w'.cell? ⟨tb, 3, none⟩ = some (.int .i64 a3) ∧ w'.cell? ⟨tb, 4, none⟩ = some (.int .i64 a4) ∧ w'.cell? ⟨tb, 5, none⟩ = some (.int .i64 a5) ∧ w'.cell? ⟨tb, 6, none⟩ = some (.bool b6)) (first | exact HT.out.cells | go_keep)
    (first | (go_at_call 22; refine (T2 _).mono ?_; rintro e w2 ⟨rfl, hb2⟩; (first | have H2 := hide (HT.out.step hb2) | have H2 := hide (HT.out.drew.step hb2)); clear HT hb2 T2; have HT := H2; clear H2) | (go_at_call 20; refine (T3 _).mono ?_; rintro e w3 ⟨rfl, hb3⟩; (first | have H3 := hide (HT.out.step hb3) | have H3 := hide (HT.out.drew.step hb3)); clear HT hb3 T3; have HT := H3; clear H3) | (go_at_call 20; refine (T4 _).mono ?_; rintro e w4 ⟨rfl, hb4⟩; (first | have H4 := hide (HT.out.step hb4) | have H4 := hide (HT.out.drew.step hb4)); clear HT hb4 T4; have HT := H4; clear H4) | (go_at_call 18; refine (T5 _).mono ?_; rintro e w5 ⟨rfl, hb5⟩; (first | have H5 := hide (HT.out.step hb5) | have H5 := hide (HT.out.drew.step hb5)); clear HT hb5 T5; have HT := H5; clear H5) | (go_at_call 20; refine (T6 _).mono ?_; rintro e w6 ⟨rfl, hb6⟩; (first | have H6 := hide (HT.out.step hb6) | have H6 := hide (HT.out.drew.step hb6)); clear HT hb6 T6; have HT := H6; clear H6) | (go_at_call 16; refine (T7 _).mono ?_; rintro e w7 ⟨rfl, hb7⟩; (first | have H7 := hide (HT.out.step hb7) | have H7 := hide (HT.out.drew.step hb7)); clear HT hb7 T7; have HT := H7; clear H7) | (go_at_call 15; refine (awake_call _).mono ?_; rintro e w9 ⟨rfl, hb9⟩; have H9 := hide (HT.out.step hb9); clear HT; have HT := H9; clear H9 hb9))
  all_goals go_wp2
  all_goals go_ret
  all_goals exact ⟨by first | rfl | simp, HT.out.2.2.1⟩
theorem walk (x0 : S29) (w0 : I29 x0) (w : World) :
    Calls Try.prog 8 #[.agg #[.int .i64 x0.f0.f0, .int .i64 x0.f0.f1, .int .i64 x0.f0.f2, .int .i64 x0.f1, .int .i64 x0.f2, .int .i64 x0.f3, .bool x0.f4]] w fun e w' => e = .returned (.bool true) ∧ Below w.heap.size w w' := by
  have hk : ∀ a b c : Int, ck a b c a b c = 0 := fun a b c => by unfold ck sg; simp
  have hbf : ∀ a b c d : Int, bef a b c d a b c d = false := fun a b c d => by unfold bef; rw [hk]; simp
  refine core _ _ _ _ _ _ _ (!x0.f4) w (twin_call _ _ _ _ _ _ _) ?_ ?_ ?_ ?_ ?_ ?_
  · intro W; have := twin_call x0.f0.f0 x0.f0.f1 x0.f0.f2 x0.f1 x0.f2 x0.f3 (!x0.f4) W; rwa [Bool.not_not] at this
  · intro W; have := twins_call x0.f0.f0 x0.f0.f1 x0.f0.f2 x0.f1 x0.f2 x0.f3 x0.f4 x0.f0.f0 x0.f0.f1 x0.f0.f2 x0.f1 x0.f2 x0.f3 (!x0.f4) W; simpa using this
  · intro W; have := twins_call x0.f0.f0 x0.f0.f1 x0.f0.f2 x0.f1 x0.f2 x0.f3 (!x0.f4) x0.f0.f0 x0.f0.f1 x0.f0.f2 x0.f1 x0.f2 x0.f3 x0.f4 W; simpa using this
  · intro W; have := one_call x0.f0.f0 x0.f0.f1 x0.f0.f2 x0.f1 x0.f2 x0.f3 x0.f4 x0.f0.f0 x0.f0.f1 x0.f0.f2 x0.f1 x0.f2 x0.f3 (!x0.f4) W; simpa using this
  · intro W; have := twins_call x0.f0.f0 x0.f0.f1 x0.f0.f2 x0.f1 x0.f2 x0.f3 x0.f4 x0.f0.f0 x0.f0.f1 x0.f0.f2 x0.f1 x0.f2 x0.f3 x0.f4 W
    have e : (x0.f4 == !x0.f4) = false := by cases x0.f4 <;> rfl
    simpa [e] using this
  · intro W; have := before_call x0.f0.f0 x0.f0.f1 x0.f0.f2 x0.f1 x0.f2 x0.f3 x0.f4 x0.f0.f0 x0.f0.f1 x0.f0.f2 x0.f1 x0.f2 x0.f3 (!x0.f4) W; rwa [hbf] at this
end Go.Proofs.Ytgnlhlbndgopmaa.eventTwins
