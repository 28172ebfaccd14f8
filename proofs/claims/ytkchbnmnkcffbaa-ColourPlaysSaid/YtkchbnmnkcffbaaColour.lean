/- The contracts of colour.Tally. No law is proved here. -/
import Derived.Test.YtkchbnmnkcffbaaTypes
import Derived.Test.YtkchbnmnkcffbaaHeap
import Derived.Test.YtkchbnmnkcffbaaGrK
import Derived.Test.YtkchbnmnkcffbaaPColourCountsx1
import Derived.Laws.Rows
import Derived.Laws.NewBlocks
namespace Go.Proofs.Ytkchbnmnkcffbaa.Colour
open Go.RowKit Go.Sort Go.Proofs.Ytkchbnmnkcffbaa.GrK Go.Proofs.Ytkchbnmnkcffbaa.Types Go.Proofs.Ytkchbnmnkcffbaa.Heap Go.Proofs.YtkchbnmnkcffbaaW.PrintWords Go.Proofs.YtkchbnmnkcffbaaW.PrintLast Go.Proofs.YtkchbnmnkcffbaaW.PrintMore
attribute [local go_sem] max2_int min2_int max_two min_two max_three min_three max_four min_four
set_option linter.unusedVariables false
set_option linter.unusedSimpArgs false
def mn (a b : Int) : Int := if b < a then b else a
def cells (c n0 n1 m : Int) : Array Value := #[.bool true, .int .i64 c, .int .i64 n0, .int .i64 n1, .int .i64 m]
def Tl (w : World) (p : Nat) (c n0 n1 m : Int) : Prop := Blk w p 69 (cells c n0 n1 m)
theorem Tl.all {w : World} {p : Nat} {c n0 n1 m : Int} (h : Tl w p c n0 n1 m) : w.cell? ⟨p, 0, none⟩ = some (.bool true) ∧ w.cell? ⟨p, 1, none⟩ = some (.int .i64 c) ∧ w.cell? ⟨p, 2, none⟩ = some (.int .i64 n0) ∧ w.cell? ⟨p, 3, none⟩ = some (.int .i64 n1) ∧ w.cell? ⟨p, 4, none⟩ = some (.int .i64 m) :=
  ⟨Blk.cell h 0, Blk.cell h 1, Blk.cell h 2, Blk.cell h 3, Blk.cell h 4⟩
theorem new_call (w : World) : Calls Try.prog 7 #[] w fun e w' => e = .returned (.pointer (some ⟨w.heap.size, 0, none⟩)) ∧ Tl w' w.heap.size 0 0 0 4611686018427387904 ∧ Below w.heap.size w w' := by
  have HB := hide ((Below.refl w.heap.size w).alloc (Nat.le_refl _) (.cells (cells 0 0 0 4611686018427387904) 69))
  have HN := hide (Blk.new w 69 (cells 0 0 0 4611686018427387904))
  unfold cells at HB HN
  go_enter Try.func7, Try.ntmps7
  go_wp2
  go_ret
  exact ⟨rfl, HN.out, HB.out⟩
theorem none_call (w : World) (p : Nat) (c n0 n1 m : Int) (h : Tl w p c n0 n1 m) : Calls Try.prog 27 #[.pointer (some ⟨p, 0, none⟩)] w fun e w' => e = .returned (.bool false) ∧ w' = w := by
  obtain ⟨h0, h1, h2, h3, h4⟩ := h.all
  clear h
  go_enter Try.func27, Try.ntmps27
  go_wp2
  go_ret
  exact ⟨rfl, rfl⟩
theorem colour_call (w : World) (p : Nat) (c n0 n1 m : Int) (h : Tl w p c n0 n1 m) : Calls Try.prog 11 #[.pointer (some ⟨p, 0, none⟩)] w fun e w' => e = .returned (.int .i64 c) ∧ w' = w := by
  have H := hide (none_call w p c n0 n1 m h)
  obtain ⟨h0, h1, h2, h3, h4⟩ := h.all
  clear h
  go_enter Try.func11, Try.ntmps11
  go_wp2_with (go_at_call 27; refine (unhide H).mono ?_; rintro e w1 ⟨rfl, rfl⟩; clear H)
  go_ret
  exact ⟨rfl, rfl⟩
theorem red_call (w : World) (p : Nat) (c n0 n1 m : Int) (h : Tl w p c n0 n1 m) : Calls Try.prog 13 #[.pointer (some ⟨p, 0, none⟩)] w fun e w' => e = .returned (.int .i64 m) ∧ w' = w := by
  have H := hide (none_call w p c n0 n1 m h)
  obtain ⟨h0, h1, h2, h3, h4⟩ := h.all
  clear h
  go_enter Try.func13, Try.ntmps13
  go_wp2_with (go_at_call 27; refine (unhide H).mono ?_; rintro e w1 ⟨rfl, rfl⟩; clear H)
  go_ret
  exact ⟨rfl, rfl⟩
theorem net0_call (w : World) (p : Nat) (c n0 n1 m : Int) (h : Tl w p c n0 n1 m) : Calls Try.prog 12 #[.pointer (some ⟨p, 0, none⟩), .int .i64 0] w fun e w' => e = .returned (.int .i64 n0) ∧ w' = w := by
  have H := hide (none_call w p c n0 n1 m h)
  obtain ⟨h0, h1, h2, h3, h4⟩ := h.all
  clear h
  go_enter Try.func12, Try.ntmps12
  go_wp2_with (go_at_call 27; refine (unhide H).mono ?_; rintro e w1 ⟨rfl, rfl⟩; clear H)
  go_ret
  exact ⟨rfl, rfl⟩
theorem net1_call (w : World) (p : Nat) (c n0 n1 m : Int) (h : Tl w p c n0 n1 m) : Calls Try.prog 12 #[.pointer (some ⟨p, 0, none⟩), .int .i64 1] w fun e w' => e = .returned (.int .i64 n1) ∧ w' = w := by
  have H := hide (none_call w p c n0 n1 m h)
  obtain ⟨h0, h1, h2, h3, h4⟩ := h.all
  clear h
  go_enter Try.func12, Try.ntmps12
  go_wp2_with (go_at_call 27; refine (unhide H).mono ?_; rintro e w1 ⟨rfl, rfl⟩; clear H)
  go_ret
  exact ⟨rfl, rfl⟩
theorem least2_call (w : World) (g : Nat) (a b : Int) (ha : a ≤ 4611686018427387904) (h : Blk w g 2 #[.int .i64 a, .int .i64 b]) :
    Calls Try.prog 28 #[.slice (some ⟨g, 0, none⟩) 2 2] w fun e w' => e = .returned (.int .i64 (mn a b)) ∧ w = w' := by
  have h0 := h.cell 0
  have h1 := h.cell 1
  simp at h0 h1
  clear h
  obtain ⟨n, hn⟩ : ∃ n, mn a b = n := ⟨_, rfl⟩
  rw [hn]
  have hm_ : (if a < 4611686018427387904 then a else 4611686018427387904) = a := by split <;> omega
  have hn_ : (if b < a then b else a) = n := hn
  clear hn ha
  go_enter Try.func28, Try.ntmps28
  go_wp2
  refine wp_loop_rounds 3 ?_
  rw [rounds_succ]
  go_wp2
  rw [rounds_succ]
  go_wp2
  rw [rounds_succ]
  go_wp2
  go_ret
  exact ⟨rfl, rfl⟩
/-- What a call leaves that may write the tally at p. -/
def Left (w : World) (p : Nat) (c n0 n1 m : Int) (r : Value) : Ending → World → Prop := fun e w' => e = .returned r ∧ Tl w' p c n0 n1 m ∧ Only w w' (fun b => b = p)
theorem flip0_call (w : World) (p : Nat) (n0 n1 m : Int) (h : Tl w p 0 n0 n1 m) : Calls Try.prog 10 #[.pointer (some ⟨p, 0, none⟩)] w (Left w p 1 n0 n1 4611686018427387904 (.int .i64 0)) := by
  have H := hide (none_call w p 0 n0 n1 m h)
  obtain ⟨h0, h1, h2, h3, h4⟩ := h.all
  have f1 : w.frozen? ⟨p, 1, none⟩ = false := Blk.frozen h 1
  have f4 : w.frozen? ⟨p, 4, none⟩ = false := Blk.frozen h 4
  have HT := hide h
  clear h
  go_enter Try.func10, Try.ntmps10
  go_wp2_with (go_at_call 27; refine (unhide H).mono ?_; rintro e w1 ⟨rfl, rfl⟩; clear H)
  go_ret
  exact ⟨rfl, Blk.set_ (Blk.set_ HT.out 1 _) 4 _, ((Only.refl _ (fun b => b = p)).setCell (p := ⟨p, 1, none⟩) (.inl rfl) _).setCell (p := ⟨p, 4, none⟩) (.inl rfl) _⟩
theorem flip1_call (w : World) (p : Nat) (n0 n1 m : Int) (h : Tl w p 1 n0 n1 m) : Calls Try.prog 10 #[.pointer (some ⟨p, 0, none⟩)] w (Left w p 0 n0 n1 4611686018427387904 (.int .i64 0)) := by
  have H := hide (none_call w p 1 n0 n1 m h)
  obtain ⟨h0, h1, h2, h3, h4⟩ := h.all
  have f1 : w.frozen? ⟨p, 1, none⟩ = false := Blk.frozen h 1
  have f4 : w.frozen? ⟨p, 4, none⟩ = false := Blk.frozen h 4
  have HT := hide h
  clear h
  go_enter Try.func10, Try.ntmps10
  go_wp2_with (go_at_call 27; refine (unhide H).mono ?_; rintro e w1 ⟨rfl, rfl⟩; clear H)
  go_ret
  exact ⟨rfl, Blk.set_ (Blk.set_ HT.out 1 _) 4 _, ((Only.refl _ (fun b => b = p)).setCell (p := ⟨p, 1, none⟩) (.inl rfl) _).setCell (p := ⟨p, 4, none⟩) (.inl rfl) _⟩
theorem got0_call (w : World) (p : Nat) (c n0 n1 m : Int) (h : Tl w p c n0 n1 m) : Calls Try.prog 9 #[.pointer (some ⟨p, 0, none⟩), .int .i64 0] w (Left w p c (wrap64 (n0 - 1)) n1 m (.int .i64 0)) := by
  have H := hide (none_call w p c n0 n1 m h)
  obtain ⟨h0, h1, h2, h3, h4⟩ := h.all
  have f1 : w.frozen? ⟨p, 2, none⟩ = false := Blk.frozen h 2
  have HT := hide h
  clear h
  go_enter Try.func9, Try.ntmps9
  go_wp2_with (go_at_call 27; refine (unhide H).mono ?_; rintro e w1 ⟨rfl, rfl⟩; clear H)
  go_region
  go_wp2
  go_ret
  exact ⟨rfl, (Blk.set_ HT.out 2 _).drew, ((Only.refl _ (fun b => b = p)).setCell (p := ⟨p, 2, none⟩) (.inl rfl) _).drew⟩
theorem got1_call (w : World) (p : Nat) (c n0 n1 m : Int) (h : Tl w p c n0 n1 m) : Calls Try.prog 9 #[.pointer (some ⟨p, 0, none⟩), .int .i64 1] w (Left w p c n0 (wrap64 (n1 - 1)) m (.int .i64 0)) := by
  have H := hide (none_call w p c n0 n1 m h)
  obtain ⟨h0, h1, h2, h3, h4⟩ := h.all
  have f1 : w.frozen? ⟨p, 3, none⟩ = false := Blk.frozen h 3
  have HT := hide h
  clear h
  go_enter Try.func9, Try.ntmps9
  go_wp2_with (go_at_call 27; refine (unhide H).mono ?_; rintro e w1 ⟨rfl, rfl⟩; clear H)
  go_region
  go_wp2
  go_ret
  exact ⟨rfl, (Blk.set_ HT.out 3 _).drew, ((Only.refl _ (fun b => b = p)).setCell (p := ⟨p, 3, none⟩) (.inl rfl) _).drew⟩
theorem sent0_call (w : World) (p : Nat) (n0 n1 m t : Int) (hm : m ≤ 4611686018427387904) (h : Tl w p 0 n0 n1 m) : Calls Try.prog 8 #[.pointer (some ⟨p, 0, none⟩), .int .i64 t] w (Left w p 0 (wrap64 (n0 + 1)) n1 (mn m t) (.int .i64 0)) := by
  have H := hide (none_call w p 0 n0 n1 m h)
  obtain ⟨h0, h1, h2, h3, h4⟩ := h.all
  have f2 : w.frozen? ⟨p, 2, none⟩ = false := Blk.frozen h 2
  have HT := hide h
  have HM := hide hm
  clear h hm
  go_enter Try.func8, Try.ntmps8
  go_wp2_with (go_at_call 27; refine (unhide H).mono ?_; rintro e w1 ⟨rfl, rfl⟩; clear H)
  go_region
  go_wp2_with fail
  have HT2 : Hid (Tl (w1.setCell ⟨p, 2, none⟩ (.int .i64 (wrap64 (n0 + 1)))) p 0 (wrap64 (n0 + 1)) n1 m) := hide (Blk.set_ HT.out 2 _)
  have HO2 : Hid (Only w1 (w1.setCell ⟨p, 2, none⟩ (.int .i64 (wrap64 (n0 + 1)))) (fun b => b = p)) := hide ((Only.refl _ (fun b => b = p)).setCell (p := ⟨p, 2, none⟩) (.inl rfl) _)
  have HZ : Hid ((w1.setCell ⟨p, 2, none⟩ (.int .i64 (wrap64 (n0 + 1)))).heap.size = w1.heap.size) := hide (by simp [World.setCell])
  generalize (w1.setCell ⟨p, 2, none⟩ (.int .i64 (wrap64 (n0 + 1)))) = w2 at HT2 HO2 HZ ⊢
  have HG := hide ((Blk.new w2 2 #[.int .i64 m, .int .i64 t]).drew)
  have HT3 : Hid (Tl (w2.alloc (.cells #[.int .i64 m, .int .i64 t] 2)).drew p 0 (wrap64 (n0 + 1)) n1 m) := hide ((Blk.alloc HT2.out _).drew)
  have HO3 := hide ((HO2.out.alloc (.cells #[.int .i64 m, .int .i64 t] 2)).drew)
  rw [HZ.out] at HG
  generalize (w2.alloc (.cells #[.int .i64 m, .int .i64 t] 2)).drew = w3 at HG HT3 HO3 ⊢
  clear HT HT2 HO2 h0 h1 h2 h3 h4 f2
  obtain ⟨g, hg⟩ : ∃ g, w1.heap.size = g := ⟨_, rfl⟩
  rw [hg] at HG ⊢
  refine (least2_call w3 g m t HM.out HG.out).mono ?_
  rintro e w4 ⟨rfl, rfl⟩
  obtain ⟨h0, h1, h2, h3, h4⟩ := Tl.all HT3.out
  have f4 : w3.frozen? ⟨p, 4, none⟩ = false := Blk.frozen HT3.out 4
  go_wp2_with fail
  go_ret
  exact ⟨rfl, Blk.set_ HT3.out 4 _, HO3.out.setCell (p := ⟨p, 4, none⟩) (.inl rfl) _⟩
theorem sent1_call (w : World) (p : Nat) (n0 n1 m t : Int) (hm : m ≤ 4611686018427387904) (h : Tl w p 1 n0 n1 m) : Calls Try.prog 8 #[.pointer (some ⟨p, 0, none⟩), .int .i64 t] w (Left w p 1 n0 (wrap64 (n1 + 1)) (mn m t) (.int .i64 1)) := by
  have H := hide (none_call w p 1 n0 n1 m h)
  obtain ⟨h0, h1, h2, h3, h4⟩ := h.all
  have f2 : w.frozen? ⟨p, 3, none⟩ = false := Blk.frozen h 3
  have HT := hide h
  have HM := hide hm
  clear h hm
  go_enter Try.func8, Try.ntmps8
  go_wp2_with (go_at_call 27; refine (unhide H).mono ?_; rintro e w1 ⟨rfl, rfl⟩; clear H)
  go_region
  go_wp2_with fail
  have HT2 : Hid (Tl (w1.setCell ⟨p, 3, none⟩ (.int .i64 (wrap64 (n1 + 1)))) p 1 n0 (wrap64 (n1 + 1)) m) := hide (Blk.set_ HT.out 3 _)
  have HO2 : Hid (Only w1 (w1.setCell ⟨p, 3, none⟩ (.int .i64 (wrap64 (n1 + 1)))) (fun b => b = p)) := hide ((Only.refl _ (fun b => b = p)).setCell (p := ⟨p, 3, none⟩) (.inl rfl) _)
  have HZ : Hid ((w1.setCell ⟨p, 3, none⟩ (.int .i64 (wrap64 (n1 + 1)))).heap.size = w1.heap.size) := hide (by simp [World.setCell])
  generalize (w1.setCell ⟨p, 3, none⟩ (.int .i64 (wrap64 (n1 + 1)))) = w2 at HT2 HO2 HZ ⊢
  have HG := hide ((Blk.new w2 2 #[.int .i64 m, .int .i64 t]).drew)
  have HT3 : Hid (Tl (w2.alloc (.cells #[.int .i64 m, .int .i64 t] 2)).drew p 1 n0 (wrap64 (n1 + 1)) m) := hide ((Blk.alloc HT2.out _).drew)
  have HO3 := hide ((HO2.out.alloc (.cells #[.int .i64 m, .int .i64 t] 2)).drew)
  rw [HZ.out] at HG
  generalize (w2.alloc (.cells #[.int .i64 m, .int .i64 t] 2)).drew = w3 at HG HT3 HO3 ⊢
  clear HT HT2 HO2 h0 h1 h2 h3 h4 f2
  obtain ⟨g, hg⟩ : ∃ g, w1.heap.size = g := ⟨_, rfl⟩
  rw [hg] at HG ⊢
  refine (least2_call w3 g m t HM.out HG.out).mono ?_
  rintro e w4 ⟨rfl, rfl⟩
  obtain ⟨h0, h1, h2, h3, h4⟩ := Tl.all HT3.out
  have f4 : w3.frozen? ⟨p, 4, none⟩ = false := Blk.frozen HT3.out 4
  go_wp2_with fail
  go_ret
  exact ⟨rfl, Blk.set_ HT3.out 4 _, HO3.out.setCell (p := ⟨p, 4, none⟩) (.inl rfl) _⟩
theorem got_bad (w : World) (p : Nat) (c n0 n1 m k : Int) (h : Tl w p c n0 n1 m) (hk : k ≠ 0) (hk1 : k ≠ 1) : Calls Try.prog 9 #[.pointer (some ⟨p, 0, none⟩), .int .i64 k] w (Left w p c n0 n1 m (.int .i64 1)) := by
  have H := hide (none_call w p c n0 n1 m h)
  have HT := hide h
  clear h
  by_cases c1 : k < 0
  · clear hk hk1
    go_enter Try.func9, Try.ntmps9
    go_wp2_with (go_at_call 27; refine (unhide H).mono ?_; rintro e w1 ⟨rfl, rfl⟩; clear H)
    go_ret
    exact ⟨rfl, HT.out, Only.refl _ _⟩
  · have c2 : 1 < k := by omega
    clear hk hk1
    go_enter Try.func9, Try.ntmps9
    go_wp2_with (go_at_call 27; refine (unhide H).mono ?_; rintro e w1 ⟨rfl, rfl⟩; clear H)
    go_ret
    exact ⟨rfl, HT.out, Only.refl _ _⟩
theorem awake_call (w : World) : Calls Try.prog 14 #[] w fun e w' => e = .returned (.bool true) ∧ Below w.heap.size w w' := by
  go_enter Try.func14, Try.ntmps14
  go_wp2_with (go_at_call 7; refine (new_call _).mono ?_; rintro e w1 ⟨rfl, hT1, hB1⟩; have HT1 := hide hT1; have HB1 := hide hB1; clear hT1 hB1)
  go_wp2_with (go_at_call 8; refine (sent0_call _ _ 0 0 4611686018427387904 5 (by decide) HT1.out).mono ?_; rintro e w2 ⟨rfl, hT2, hO2⟩; have HT2 := hide hT2; have HB2 := hide (HB1.out.trans (hO2.below HB1.out.size (fun b hb => by omega))); clear hT2 hO2)
  go_wp2_with (go_at_call 13; refine (red_call _ _ _ _ _ _ HT2.out).mono ?_; rintro e w3 ⟨rfl, rfl⟩)
  go_ret
  exact ⟨rfl, HB2.out⟩
end Go.Proofs.Ytkchbnmnkcffbaa.Colour
