/- The walk of EventOrder. -/
import Derived.Test.YtgnlhlbndgopmaaEvent
import Derived.Test.YtgnlhlbndgopmaaKindsEventOrder
import Derived.Laws.Rows
import Derived.Laws.NewBlocks
namespace Go.Proofs.Ytgnlhlbndgopmaa.eventOrder
open Go.RowKit Go.Proofs.Ytgnlhlbndgopmaa.PEventPairs Go.Proofs.Ytgnlhlbndgopmaa.Event Go.Proofs.YtgnlhlbndgopmaaW.PrintWords Go.Proofs.YtgnlhlbndgopmaaW.PrintLast Go.Proofs.YtgnlhlbndgopmaaW.PrintMore
set_option linter.unusedVariables false
set_option linter.unusedSimpArgs false
attribute [local go_sem high] eqA23
theorem hide {p : Prop} (h : p) : Hid p := h
theorem unhide {p : Prop} (h : Hid p) : p := h
def Blk (w : World) (g : Nat) (x y z : Int) : Prop := w.heap[g]? = some (.cells #[.int .i64 x, .int .i64 y, .int .i64 z] 23 (0, 0))
structure Bx (n : Nat) (a0 a1 a2 b0 b1 b2 c0 c1 c2 : Int) (w W : World) : Prop where
  a : Blk W n a0 a1 a2
  b : Blk W (n + 1) b0 b1 b2
  c : Blk W (n + 2) c0 c1 c2
  bel : Below n w W
theorem blk_below {w W : World} {g : Nat} {x y z : Int} (h : Blk w g x y z) (hb : Below w.heap.size w W) : Blk W g x y z := by
  unfold Blk at *
  rcases Nat.lt_or_ge g w.heap.size with hlt | hge
  · rw [hb.block g hlt]; exact h
  · rw [Array.getElem?_eq_none hge] at h; cases h
theorem Bx.step {n : Nat} {a0 a1 a2 b0 b1 b2 c0 c1 c2 : Int} {w W W' : World} (h : Bx n a0 a1 a2 b0 b1 b2 c0 c1 c2 w W) (hn : n ≤ w.heap.size) (hb : Below W.heap.size W W') : Bx n a0 a1 a2 b0 b1 b2 c0 c1 c2 w W' :=
  ⟨blk_below h.a hb, blk_below h.b hb, blk_below h.c hb, h.bel.trans (hb.mono (by have := h.bel.size; omega))⟩
theorem cell_of {w : World} {g : Nat} {x y z : Int} (h : Blk w g x y z) : w.cell? ⟨g, 0, none⟩ = some (.int .i64 x) ∧ w.cell? ⟨g, 1, none⟩ = some (.int .i64 y) ∧ w.cell? ⟨g, 2, none⟩ = some (.int .i64 z) := by
  unfold Blk at h
  exact ⟨by rw [cell_of_row w g 0 _ _ _ h]; rfl, by rw [cell_of_row w g 1 _ _ _ h]; rfl, by rw [cell_of_row w g 2 _ _ _ h]; rfl⟩
theorem Bx.start (w : World) (a0 a1 a2 b0 b1 b2 c0 c1 c2 : Int) : Bx w.heap.size a0 a1 a2 b0 b1 b2 c0 c1 c2 w (((w.alloc (.cells #[.int .i64 a0, .int .i64 a1, .int .i64 a2] 23)).alloc (.cells #[.int .i64 b0, .int .i64 b1, .int .i64 b2] 23)).alloc (.cells #[.int .i64 c0, .int .i64 c1, .int .i64 c2] 23)) := by
  have e1 : ∀ (W : World) (o : Obj) (g : Nat), g < W.heap.size → (W.alloc o).heap[g]? = W.heap[g]? := fun W o g h => Below.heap_alloc W o g h
  refine ⟨?_, ?_, ?_, (((Below.refl w.heap.size w).alloc (Nat.le_refl _) _).alloc (by simp) _).alloc (by simp; omega) _⟩
  · unfold Blk
    rw [e1 _ _ _ (by simp; omega), e1 _ _ _ (by simp)]
    exact heap_alloc_new w _
  · unfold Blk
    rw [e1 _ _ _ (by simp)]
    have := heap_alloc_new (w.alloc (.cells #[.int .i64 a0, .int .i64 a1, .int .i64 a2] 23)) (.cells #[.int .i64 b0, .int .i64 b1, .int .i64 b2] 23)
    rwa [World.size_alloc] at this
  · unfold Blk
    have := heap_alloc_new ((w.alloc (.cells #[.int .i64 a0, .int .i64 a1, .int .i64 a2] 23)).alloc (.cells #[.int .i64 b0, .int .i64 b1, .int .i64 b2] 23)) (.cells #[.int .i64 c0, .int .i64 c1, .int .i64 c2] 23)
    rwa [World.size_alloc, World.size_alloc] at this
def hidc (f : FuncId) (args : Array Value) (r : Int) : Prop := ∀ w : World, Calls Try.prog f args w fun e w' => e = .returned (.int .i64 r) ∧ Below w.heap.size w w'
set_option maxHeartbeats 40000000 in
set_option maxRecDepth 100000 in
theorem core (a0 a1 a2 b0 b1 b2 c0 c1 c2 X Y Z : Int) (w : World)
    (HX : hidc 13 #[.agg #[.int .i64 a0, .int .i64 a1, .int .i64 a2], .agg #[.int .i64 b0, .int .i64 b1, .int .i64 b2]] X)
    (HY : hidc 13 #[.agg #[.int .i64 b0, .int .i64 b1, .int .i64 b2], .agg #[.int .i64 c0, .int .i64 c1, .int .i64 c2]] Y)
    (HZ : hidc 13 #[.agg #[.int .i64 a0, .int .i64 a1, .int .i64 a2], .agg #[.int .i64 c0, .int .i64 c1, .int .i64 c2]] Z)
    (HW : hidc 13 #[.agg #[.int .i64 b0, .int .i64 b1, .int .i64 b2], .agg #[.int .i64 a0, .int .i64 a1, .int .i64 a2]] (-X))
    (E : Bool) (hE : (a0 == b0 && (a1 == b1 && (a2 == b2))) = E) (tE : (X == 0) = E)
    (x1 : -1 ≤ X) (x2 : X ≤ 1) (y1 : -1 ≤ Y) (y2 : Y ≤ 1) (z1 : -1 ≤ Z) (z2 : Z ≤ 1)
    (h1 : 0 < X ∨ 0 < Y ∨ Z ≤ 0) (h2 : X < 0 ∨ Y < 0 ∨ 0 ≤ Z) :
    Calls Try.prog 4 #[.agg #[.int .i64 a0, .int .i64 a1, .int .i64 a2], .agg #[.int .i64 b0, .int .i64 b1, .int .i64 b2], .agg #[.int .i64 c0, .int .i64 c1, .int .i64 c2]] w fun e w' => e = .returned (.bool true) ∧ Below w.heap.size w w' := by
  have HB0 := hide (Bx.start w a0 a1 a2 b0 b1 b2 c0 c1 c2)
  rcases (show X = -1 ∨ X = 0 ∨ X = 1 by omega) with rfl | rfl | rfl <;> rcases (show Y = -1 ∨ Y = 0 ∨ Y = 1 by omega) with rfl | rfl | rfl <;> rcases (show Z = -1 ∨ Z = 0 ∨ Z = 1 by omega) with rfl | rfl | rfl
  all_goals (first | omega | skip)
  all_goals
    clear x1 x2 y1 y2 z1 z2 h1 h2
    cases E
    all_goals (first | (exact absurd tE (by decide)) | skip)
  all_goals
    clear tE
    go_enter Try.func4, Try.ntmps4
    go_wp2_with (first | (go_at_call 13; refine (HX _).mono ?_; rintro e w1 ⟨rfl, hb1⟩; have HB1 := hide (HB0.out.step (Nat.le_refl _) hb1); clear hb1; obtain ⟨p10, p11, p12⟩ := cell_of HB1.out.a; obtain ⟨q10, q11, q12⟩ := cell_of HB1.out.b; obtain ⟨r10, r11, r12⟩ := cell_of HB1.out.c; clear HB0 HX) | (go_at_call 13; refine (HY _).mono ?_; rintro e w2 ⟨rfl, hb2⟩; have HB2 := hide (HB1.out.step (Nat.le_refl _) hb2); clear hb2; obtain ⟨p20, p21, p22⟩ := cell_of HB2.out.a; obtain ⟨q20, q21, q22⟩ := cell_of HB2.out.b; obtain ⟨r20, r21, r22⟩ := cell_of HB2.out.c; clear HB1 HY p10 p11 p12 q10 q11 q12 r10 r11 r12) | (go_at_call 13; refine (HZ _).mono ?_; rintro e w3 ⟨rfl, hb3⟩; have HB3 := hide (HB2.out.step (Nat.le_refl _) hb3); clear hb3; obtain ⟨p30, p31, p32⟩ := cell_of HB3.out.a; obtain ⟨q30, q31, q32⟩ := cell_of HB3.out.b; obtain ⟨r30, r31, r32⟩ := cell_of HB3.out.c; clear HB2 HZ p20 p21 p22 q20 q21 q22 r20 r21 r22) | (go_at_call 13; refine (HW _).mono ?_; rintro e w4 ⟨rfl, hb4⟩; have HB4 := hide (HB3.out.step (Nat.le_refl _) hb4); clear hb4; obtain ⟨p40, p41, p42⟩ := cell_of HB4.out.a; obtain ⟨q40, q41, q42⟩ := cell_of HB4.out.b; obtain ⟨r40, r41, r42⟩ := cell_of HB4.out.c; clear HB3 HW p30 p31 p32 q30 q31 q32 r30 r31 r32) | (go_at_call 15; refine (awake_call _).mono ?_; rintro e w5 ⟨rfl, hb5⟩; have HB5 := hide (HB4.out.step (Nat.le_refl _) hb5)))
    go_ret
    exact ⟨by first | rfl | simp, HB5.out.bel⟩
theorem ck_range (a b c x y z : Int) : -1 ≤ ck a b c x y z ∧ ck a b c x y z ≤ 1 := by
  unfold ck sg
  repeat' split
  all_goals omega
theorem ck_neg (a b c x y z : Int) : ck x y z a b c = - ck a b c x y z := by
  unfold ck sg
  repeat' split
  all_goals omega
theorem ck_zero (a b c x y z : Int) : (ck a b c x y z == 0) = (a == x && (b == y && (c == z))) := by
  unfold ck sg
  by_cases h1 : a = x <;> by_cases h2 : b = y <;> by_cases h3 : c = z <;> simp [h1, h2, h3]
  all_goals (repeat' split)
  all_goals (first | omega | (simp; done) | (simp; omega))
theorem ck_lt_iff (a b c x y z : Int) : ck a b c x y z < 0 ↔ (a < x ∨ (a = x ∧ (b < y ∨ (b = y ∧ c < z)))) := by
  unfold ck sg
  by_cases h1 : a = x
  · by_cases h2 : b = y
    · rw [if_pos h1, if_pos h2]
      split
      · omega
      · split <;> omega
    · rw [if_pos h1, if_neg h2]
      split
      · omega
      · split <;> omega
  · rw [if_neg h1]
    split
    · omega
    · split <;> omega
theorem ck_gt_iff (a b c x y z : Int) : 0 < ck a b c x y z ↔ (x < a ∨ (x = a ∧ (y < b ∨ (y = b ∧ z < c)))) := by
  rw [← ck_lt_iff, ck_neg a b c x y z]
  omega
theorem ck_le (a0 a1 a2 b0 b1 b2 c0 c1 c2 : Int) : 0 < ck a0 a1 a2 b0 b1 b2 ∨ 0 < ck b0 b1 b2 c0 c1 c2 ∨ ck a0 a1 a2 c0 c1 c2 ≤ 0 := by
  have h1 := ck_gt_iff a0 a1 a2 b0 b1 b2
  have h2 := ck_gt_iff b0 b1 b2 c0 c1 c2
  have h3 := ck_gt_iff a0 a1 a2 c0 c1 c2
  generalize ck a0 a1 a2 b0 b1 b2 = X at *
  generalize ck b0 b1 b2 c0 c1 c2 = Y at *
  generalize ck a0 a1 a2 c0 c1 c2 = Z at *
  by_cases g1 : 0 < X
  · exact .inl g1
  · by_cases g2 : 0 < Y
    · exact .inr (.inl g2)
    · refine .inr (.inr ?_)
      by_cases g3 : 0 < Z
      · exfalso
        have k1 := mt h1.2 g1
        have k2 := mt h2.2 g2
        have k3 := h3.1 g3
        clear h1 h2 h3 g1 g2 g3
        omega
      · omega
theorem ck_ge (a0 a1 a2 b0 b1 b2 c0 c1 c2 : Int) : ck a0 a1 a2 b0 b1 b2 < 0 ∨ ck b0 b1 b2 c0 c1 c2 < 0 ∨ 0 ≤ ck a0 a1 a2 c0 c1 c2 := by
  have h1 := ck_lt_iff a0 a1 a2 b0 b1 b2
  have h2 := ck_lt_iff b0 b1 b2 c0 c1 c2
  have h3 := ck_lt_iff a0 a1 a2 c0 c1 c2
  generalize ck a0 a1 a2 b0 b1 b2 = X at *
  generalize ck b0 b1 b2 c0 c1 c2 = Y at *
  generalize ck a0 a1 a2 c0 c1 c2 = Z at *
  by_cases g1 : X < 0
  · exact .inl g1
  · by_cases g2 : Y < 0
    · exact .inr (.inl g2)
    · refine .inr (.inr ?_)
      by_cases g3 : Z < 0
      · exfalso
        have k1 := mt h1.2 g1
        have k2 := mt h2.2 g2
        have k3 := h3.1 g3
        clear h1 h2 h3 g1 g2 g3
        omega
      · omega
theorem walk (x0 : S23) (w0 : I23 x0) (x1 : S23) (w1 : I23 x1) (x2 : S23) (w2 : I23 x2) (w : World) :
    Calls Try.prog 4 #[.agg #[.int .i64 x0.f0, .int .i64 x0.f1, .int .i64 x0.f2], .agg #[.int .i64 x1.f0, .int .i64 x1.f1, .int .i64 x1.f2], .agg #[.int .i64 x2.f0, .int .i64 x2.f1, .int .i64 x2.f2]] w fun e w' => e = .returned (.bool true) ∧ Below w.heap.size w w' :=
  core _ _ _ _ _ _ _ _ _ _ _ _ w (cmp_call _ _ _ _ _ _) (cmp_call _ _ _ _ _ _) (cmp_call _ _ _ _ _ _) (by rw [← ck_neg]; exact cmp_call _ _ _ _ _ _) _ rfl (ck_zero _ _ _ _ _ _)
    (ck_range _ _ _ _ _ _).1 (ck_range _ _ _ _ _ _).2 (ck_range _ _ _ _ _ _).1 (ck_range _ _ _ _ _ _).2 (ck_range _ _ _ _ _ _).1 (ck_range _ _ _ _ _ _).2 (ck_le _ _ _ _ _ _ _ _ _) (ck_ge _ _ _ _ _ _ _ _ _)
end Go.Proofs.Ytgnlhlbndgopmaa.eventOrder
