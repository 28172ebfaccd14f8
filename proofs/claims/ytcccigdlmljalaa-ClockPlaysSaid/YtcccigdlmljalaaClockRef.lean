/- The contracts of the reference's clocks. No law is proved here. -/
import Derived.Test.YtcccigdlmljalaaClock
namespace Go.Proofs.Ytcccigdlmljalaa.Clock
open Go.RowKit Go.Deep Go.Proofs.Ytcccigdlmljalaa.Heap Go.Proofs.YtcccigdlmljalaaW.PrintWords Go.Proofs.YtcccigdlmljalaaW.PrintLast Go.Proofs.YtcccigdlmljalaaW.PrintMore
set_option linter.unusedVariables false
set_option linter.unusedSimpArgs false
attribute [local go_sem] max2_int min2_int max_two min_two max_three min_three max_four min_four

/-- The reference's clocks: their struct's block p, their row's block g. -/
def Ref (w : World) (p g : Nat) (ts : List Int) : Prop :=
  Blk w p 38 #[.slice (some ⟨g, 0, none⟩) ts.length ts.length] ∧ Blk w g 2 (ints ts) ∧ ts.length ≤ 1024

set_option maxHeartbeats 4000000 in
set_option maxRecDepth 100000 in
theorem rnew_call (n : Nat) (hn : n ≤ 1024) (w : World) : Calls Try.prog 9 #[.int .i64 n] w fun e w' =>
    e = .returned (.tuple #[.pointer (some ⟨w.heap.size + 1, 0, none⟩), .int .i64 0]) ∧ Ref w' (w.heap.size + 1) w.heap.size (List.replicate n 0) ∧ Only w w' (fun _ => False) := by
  have hmk := run_make_row' (P := Try.prog) 36 2 (.int .i64 0) 8 Try.underlying36 info2 rfl .i64 .i64 n (by omega) (by omega)
  have h1 : decide ((n : Int) < 0) = false := decide_eq_false (by omega)
  have h2 : decide ((1024 : Int) < (n : Int)) = false := decide_eq_false (by omega)
  go_enter Try.func9, Try.ntmps9
  go_wp2
  go_ret2
  refine ⟨rfl, ?_, ((Only.refl _ _).alloc _).alloc _⟩
  have b1 := (Blk.new w 2 (madeCells #[Value.int .i64 0] n)).alloc (.cells #[.slice (some ⟨w.heap.size, 0, none⟩) n n] 38)
  have b2 := Blk.new (w.alloc (.cells (madeCells #[Value.int .i64 0] n) 2)) 38 #[.slice (some ⟨w.heap.size, 0, none⟩) n n]
  rw [World.size_alloc] at b2
  refine ⟨?_, by rw [← made_ints]; exact b1, by simpa using hn⟩
  simpa using b2

theorem rnew_bad (n : Int) (hn : n < 0 ∨ 1024 < n) (w : World) : Calls Try.prog 9 #[.int .i64 n] w fun e w' =>
    e = .returned (.tuple #[.pointer none, .int .i64 1]) ∧ w' = w := by
  rcases hn with hn | hn
  · go_enter Try.func9, Try.ntmps9
    go_wp2
    go_ret2
    exact ⟨rfl, rfl⟩
  · have h1 : ¬ n < 0 := by omega
    go_enter Try.func9, Try.ntmps9
    go_wp2
    go_ret2
    exact ⟨rfl, rfl⟩

theorem Ref.at_ {w : World} {p g : Nat} {ts : List Int} (h : Ref w p g ts) {i : Nat} (hi : i < ts.length) : w.cell? ⟨g, i, none⟩ = some (.int .i64 ts[i]) := by
  rw [h.2.1.cell i]
  simp [ints, hi]

theorem rtell_bad (w : World) (p g : Nat) (ts : List Int) (i t : Int) (h : Ref w p g ts) (hb : i < 0 ∨ (ts.length : Int) ≤ i ∨ t < 0 ∨ 4611686018427387904 < t) :
    Calls Try.prog 11 #[.pointer (some ⟨p, 0, none⟩), .int .i64 i, .int .i64 t] w fun e w' => e = .returned (.int .i64 1) ∧ w = w' := by
  have h1 := h.1.cell 0
  simp at h1
  clear h
  by_cases c1 : i < 0
  · go_enter Try.func11, Try.ntmps11
    go_wp2
    go_ret
    exact ⟨rfl, rfl⟩
  · by_cases c2 : (ts.length : Int) ≤ i
    · go_enter Try.func11, Try.ntmps11
      go_wp2
      go_ret
      exact ⟨rfl, rfl⟩
    · by_cases c3 : t < 0
      · go_enter Try.func11, Try.ntmps11
        go_wp2
        go_ret
        exact ⟨rfl, rfl⟩
      · have c4 : 4611686018427387904 < t := by omega
        go_enter Try.func11, Try.ntmps11
        go_wp2
        go_ret
        exact ⟨rfl, rfl⟩

theorem Ref.set_ {w : World} {p g : Nat} {ts : List Int} (h : Ref w p g ts) (hne : p ≠ g) (i : Nat) (t : Int) : Ref (w.setCell ⟨g, i, none⟩ (.int .i64 t)) p g (ts.set i t) := by
  obtain ⟨h1, h2, h3⟩ := h
  refine ⟨?_, ?_, by simpa using h3⟩
  · have := h1.far (p := ⟨g, i, none⟩) hne (.int .i64 t)
    simpa using this
  · have := h2.set_ i (.int .i64 t)
    have e : ints (ts.set i t) = (ints ts).setIfInBounds i (.int .i64 t) := by
      unfold ints
      simp [List.map_set]
    rw [e]
    exact this

set_option maxHeartbeats 4000000 in
set_option maxRecDepth 100000 in
theorem rtell_ok (w : World) (p g : Nat) (ts : List Int) (i : Nat) (t : Int) (h : Ref w p g ts) (hi : i < ts.length) (h0 : 0 ≤ t) (h1 : t ≤ 4611686018427387904) :
    Calls Try.prog 11 #[.pointer (some ⟨p, 0, none⟩), .int .i64 i, .int .i64 t] w fun e w' => e = .returned (.int .i64 0) ∧ Ref w' p g (ts.set i (mx ts[i] t)) ∧ Only w w' (fun b => b = g) := by
  have hne : p ≠ g := h.1.ne_ h.2.1 (by decide)
  have H := hide h
  have hc1 := h.1.cell 0
  simp at hc1
  have hcg := h.at_ hi
  have hfg := h.2.1.frozen i
  have hl := h.2.2
  clear h
  have hiz : (i : Int) < (ts.length : Int) := by omega
  obtain ⟨x, hx⟩ : ∃ x, x = ts[i] := ⟨_, rfl⟩
  obtain ⟨m, hm⟩ : ∃ m, mx x t = m := ⟨_, rfl⟩
  rw [← hx] at hcg ⊢
  rw [hm]
  have hm_ : (if x < t then t else x) = m := hm
  clear hx hm
  go_enter Try.func11, Try.ntmps11
  go_wp2
  go_region
  go_wp2
  go_ret
  exact ⟨rfl, Ref.set_ (w := w) H.out hne i m, Only.drew (Only.setCell (S := fun b => b = g) (Only.refl w _) (p := ⟨g, i, none⟩) (.inl rfl) _)⟩

def rbnd (ts : List Int) : Int := ts.foldl mn 4611686018427387904
theorem rbnd_succ (ts : List Int) (k : Nat) (h : k < ts.length) : rbnd (ts.take (k + 1)) = mn (rbnd (ts.take k)) ts[k] := by
  unfold rbnd
  rw [List.take_succ_eq_append_getElem h, List.foldl_append]
  rfl

theorem rleast_call (w : World) (g : Nat) (ts : List Int) (h : Blk w g 2 (ints ts)) (hl : ts.length ≤ 1024) :
    Calls Try.prog 22 #[.slice (some ⟨g, 0, none⟩) ts.length ts.length] w fun e w' => e = .returned (.int .i64 (rbnd ts)) ∧ w = w' := by
  have HB := hide h
  clear h
  go_enter Try.func22, Try.ntmps22
  go_wp2
  go_loop [3, 4] (fun a i => ∃ k : Nat, k ≤ ts.length ∧ i = .int .i64 k ∧ a = .int .i64 (rbnd (ts.take k))) (fun _ i => ts.length - (intOf i).toNat)
  case atStart => exact ⟨0, Nat.zero_le _, rfl, rfl⟩
  case round =>
    obtain ⟨k, hk, rfl, rfl⟩ := hrel
    by_cases hlt : k < ts.length
    · have hcell : w.cell? ⟨g, k, none⟩ = some (.int .i64 ts[k]) := by
        rw [HB.out.cell k]
        simp [ints, hlt]
      have HS := hide (rbnd_succ ts k hlt)
      obtain ⟨x, hx⟩ : ∃ x, x = ts[k] := ⟨_, rfl⟩
      rw [← hx] at hcell HS
      clear hx
      obtain ⟨y, hy⟩ : ∃ y, rbnd (ts.take k) = y := ⟨_, rfl⟩
      rw [hy] at HS ⊢
      obtain ⟨m, hm⟩ : ∃ m, mn y x = m := ⟨_, rfl⟩
      rw [hm] at HS
      have hm_ : (if x < y then x else y) = m := hm
      clear hy hm
      go_wp2
      go_round
      case rel => exact ⟨k + 1, by omega, by go_num, by rw [HS.out]⟩
      case measure => simp [intOf]; omega
    · have : k = ts.length := by omega
      subst this
      go_wp2
      go_ret
      exact ⟨by first | rfl | (rw [List.take_length]; rfl), rfl⟩

theorem rbound_call (w : World) (p g : Nat) (ts : List Int) (h : Ref w p g ts) :
    Calls Try.prog 13 #[.pointer (some ⟨p, 0, none⟩)] w fun e w' => e = .returned (.int .i64 (rbnd ts)) ∧ w = w' := by
  have HG := hide h.2.1
  have hl := h.2.2
  have hc1 := h.1.cell 0
  simp at hc1
  clear h
  go_enter Try.func13, Try.ntmps13
  go_wp2_with (go_at_call 22; refine (rleast_call _ g ts HG hl).mono ?_; rintro e w1 ⟨rfl, rfl⟩)
  go_ret
  exact ⟨rfl, rfl⟩

theorem bnd_eq (ts : List Int) : bnd ts = rbnd ts := by
  unfold bnd rbnd
  suffices H : ∀ a, a ≤ 4611686018427387904 → ts.foldl (fun a t => mn (mn 4611686018427387904 a) t) a = ts.foldl mn a from H _ (Int.le_refl _)
  induction ts with
  | nil => intro a _; rfl
  | cons t ts ih =>
    intro a ha
    have e : mn 4611686018427387904 a = a := by unfold mn; split <;> omega
    simp only [List.foldl_cons, e]
    exact ih _ (by unfold mn; split <;> omega)

set_option maxHeartbeats 4000000 in
set_option maxRecDepth 100000 in
theorem awake_call (w : World) : Calls Try.prog 15 #[] w fun e w' => e = .returned (.bool true) ∧ Below w.heap.size w w' := by
  have hnew : ∀ W : World, Calls Try.prog 8 #[.int .i64 1] W fun e w' => e = .returned (.tuple #[.pointer (some ⟨W.heap.size + 1, 0, none⟩), .int .i64 0]) ∧ Clk w' (W.heap.size + 1) W.heap.size [0] ∧ Only W w' (fun _ => False) := fun W => new_call 1 (by omega) W
  have htell : ∀ (W : World) (p g : Nat), Clk W p g [0] → Calls Try.prog 10 #[.pointer (some ⟨p, 0, none⟩), .int .i64 0, .int .i64 5] W fun e w' => e = .returned (.int .i64 0) ∧ Clk w' p g [5] ∧ Only W w' (fun b => b = g) := fun W p g h => tell_ok W p g [0] 0 5 h (by simp) (by omega) (by omega)
  have hbound : ∀ (W : World) (p g : Nat), Clk W p g [5] → Calls Try.prog 12 #[.pointer (some ⟨p, 0, none⟩)] W fun e w' => e = .returned (.int .i64 5) ∧ Below W.heap.size W w' := fun W p g h => bound_call W p g [5] h
  have HN := hide hnew
  have HT := hide htell
  have HBD := hide hbound
  clear hnew htell hbound
  go_enter Try.func15, Try.ntmps15
  go_wp2_with (first | (go_at_call 8; refine (HN.out _).mono ?_; rintro e w1 ⟨rfl, hC1, hO1⟩; have HC1 := hide hC1; clear hC1; have HO1 := hide hO1; clear hO1) | (go_at_call 10; refine (HT.out _ _ _ HC1.out).mono ?_; rintro e w2 ⟨rfl, hC2, hO2⟩; have HC2 := hide hC2; clear hC2; have HO2 := hide hO2; clear hO2) | (go_at_call 12; refine (HBD.out _ _ _ HC2.out).mono ?_; rintro e w3 ⟨rfl, hB3⟩))
  go_ret
  have o1 : Below w.heap.size w w1 := HO1.out.below (Nat.le_refl _) (fun _ h => h.elim)
  have o2 : Only w w2 (fun _ => False) := HO1.out.step HO2.out (fun i hi hlt => by omega)
  exact ⟨rfl, below_step (o2.below (Nat.le_refl _) (fun _ h => h.elim)) hB3⟩
end Go.Proofs.Ytcccigdlmljalaa.Clock
