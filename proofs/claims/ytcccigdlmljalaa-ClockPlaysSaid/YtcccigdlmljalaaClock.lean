/- The contracts of package clock's functions: what each does to a 'Clocks' that the law has made. No law is proved here. -/
import Derived.Test.YtcccigdlmljalaaProg
import Derived.Test.YtcccigdlmljalaaHeap
import Derived.Deep.OwnRows
import Derived.WalkSpells
namespace Go.Proofs.Ytcccigdlmljalaa.Clock
open Go.RowKit Go.Deep Go.Proofs.Ytcccigdlmljalaa.Heap Go.Proofs.YtcccigdlmljalaaW.PrintWords Go.Proofs.YtcccigdlmljalaaW.PrintLast Go.Proofs.YtcccigdlmljalaaW.PrintMore
set_option linter.unusedVariables false
set_option linter.unusedSimpArgs false
attribute [local go_sem] max2_int min2_int max_two min_two max_three min_three max_four min_four

def ints (ts : List Int) : Array Value := (ts.map (Value.int .i64)).toArray
/-- A 'Clocks' that New made: its struct's block p, its row's block g. -/
def Clk (w : World) (p g : Nat) (ts : List Int) : Prop :=
  Blk w p 49 #[.bool true, .slice (some ⟨g, 0, none⟩) ts.length ts.length] ∧ Blk w g 2 (ints ts) ∧ ts.length ≤ 1024

theorem info2 : (Try.prog.info? 2).map (fun i => (i.zero, i.size, i.bytes)) = some (some (.int .i64 0), 1, 8) := by kernel_rfl

theorem made_ints (n : Nat) : madeCells #[Value.int .i64 0] n = ints (List.replicate n 0) := by
  apply Array.ext
  · simp [madeCells, ints]
  · intro i h1 h2
    have : i % 1 = 0 := by omega
    simp [madeCells, ints, this]

set_option maxHeartbeats 4000000 in
set_option maxRecDepth 100000 in
theorem new_call (n : Nat) (hn : n ≤ 1024) (w : World) : Calls Try.prog 8 #[.int .i64 n] w fun e w' =>
    e = .returned (.tuple #[.pointer (some ⟨w.heap.size + 1, 0, none⟩), .int .i64 0]) ∧ Clk w' (w.heap.size + 1) w.heap.size (List.replicate n 0) ∧ Only w w' (fun _ => False) := by
  have hmk := run_make_row' (P := Try.prog) 36 2 (.int .i64 0) 8 Try.underlying36 info2 rfl .i64 .i64 n (by omega) (by omega)
  have h1 : decide ((n : Int) < 0) = false := decide_eq_false (by omega)
  have h2 : decide ((1024 : Int) < (n : Int)) = false := decide_eq_false (by omega)
  go_enter Try.func8, Try.ntmps8
  go_wp2
  go_ret2
  refine ⟨rfl, ?_, ((Only.refl _ _).alloc _).alloc _⟩
  have b1 := (Blk.new w 2 (madeCells #[Value.int .i64 0] n)).alloc (.cells #[.bool true, .slice (some ⟨w.heap.size, 0, none⟩) n n] 49)
  have b2 := Blk.new (w.alloc (.cells (madeCells #[Value.int .i64 0] n) 2)) 49 #[.bool true, .slice (some ⟨w.heap.size, 0, none⟩) n n]
  rw [World.size_alloc] at b2
  refine ⟨?_, by rw [← made_ints]; exact b1, by simpa using hn⟩
  simpa using b2

theorem new_bad (n : Int) (hn : n < 0 ∨ 1024 < n) (w : World) : Calls Try.prog 8 #[.int .i64 n] w fun e w' =>
    e = .returned (.tuple #[.pointer none, .int .i64 1]) ∧ w' = w := by
  rcases hn with hn | hn
  · go_enter Try.func8, Try.ntmps8
    go_wp2
    go_ret2
    exact ⟨rfl, rfl⟩
  · have h1 : ¬ n < 0 := by omega
    go_enter Try.func8, Try.ntmps8
    go_wp2
    go_ret2
    exact ⟨rfl, rfl⟩

/-- 'none' of a made one. -/
theorem none_call (w : World) (p : Nat) (x : Value) (h : Blk w p 49 #[.bool true, x]) : Calls Try.prog 18 #[.pointer (some ⟨p, 0, none⟩)] w fun e w' => e = .returned (.bool false) ∧ w = w' := by
  have h0 := h.cell 0
  simp at h0
  go_enter Try.func18, Try.ntmps18
  go_wp2
  go_ret
  exact ⟨rfl, rfl⟩

theorem Clk.at_ {w : World} {p g : Nat} {ts : List Int} (h : Clk w p g ts) {i : Nat} (hi : i < ts.length) : w.cell? ⟨g, i, none⟩ = some (.int .i64 ts[i]) := by
  rw [h.2.1.cell i]
  simp [ints, hi]

/-- Tell: what can't be. -/
theorem tell_bad (w : World) (p g : Nat) (ts : List Int) (i t : Int) (h : Clk w p g ts) (hb : i < 0 ∨ (ts.length : Int) ≤ i ∨ t < 0 ∨ 4611686018427387904 < t) :
    Calls Try.prog 10 #[.pointer (some ⟨p, 0, none⟩), .int .i64 i, .int .i64 t] w fun e w' => e = .returned (.int .i64 1) ∧ w = w' := by
  have HB := hide h.1
  have h1 := h.1.cell 1
  simp at h1
  by_cases c1 : i < 0
  · go_enter Try.func10, Try.ntmps10
    go_wp2_with (go_at_call 18; refine (none_call _ p _ HB).mono ?_; rintro e w' ⟨rfl, rfl⟩)
    go_ret
    exact ⟨rfl, rfl⟩
  · by_cases c2 : (ts.length : Int) ≤ i
    · go_enter Try.func10, Try.ntmps10
      go_wp2_with (go_at_call 18; refine (none_call _ p _ HB).mono ?_; rintro e w' ⟨rfl, rfl⟩)
      go_ret
      exact ⟨rfl, rfl⟩
    · by_cases c3 : t < 0
      · go_enter Try.func10, Try.ntmps10
        go_wp2_with (go_at_call 18; refine (none_call _ p _ HB).mono ?_; rintro e w' ⟨rfl, rfl⟩)
        go_ret
        exact ⟨rfl, rfl⟩
      · have c4 : 4611686018427387904 < t := by omega
        go_enter Try.func10, Try.ntmps10
        go_wp2_with (go_at_call 18; refine (none_call _ p _ HB).mono ?_; rintro e w' ⟨rfl, rfl⟩)
        go_ret
        exact ⟨rfl, rfl⟩

theorem Clk.set_ {w : World} {p g : Nat} {ts : List Int} (h : Clk w p g ts) (hne : p ≠ g) (i : Nat) (t : Int) : Clk (w.setCell ⟨g, i, none⟩ (.int .i64 t)) p g (ts.set i t) := by
  obtain ⟨h1, h2, h3⟩ := h
  refine ⟨?_, ?_, by simpa using h3⟩
  · have := h1.far (p := ⟨g, i, none⟩) hne (.int .i64 t)
    simpa using this
  · have := h2.set_ i (.int .i64 t)
    have e : ints (ts.set i t) = (ints ts).setIfInBounds i (.int .i64 t) := by
      unfold ints
      simp [List.map_set]
    rw [e]
    exact this

set_option maxHeartbeats 4000000 in
set_option maxRecDepth 100000 in
theorem tell_ok (w : World) (p g : Nat) (ts : List Int) (i : Nat) (t : Int) (h : Clk w p g ts) (hi : i < ts.length) (h0 : 0 ≤ t) (h1 : t ≤ 4611686018427387904) :
    Calls Try.prog 10 #[.pointer (some ⟨p, 0, none⟩), .int .i64 i, .int .i64 t] w fun e w' => e = .returned (.int .i64 0) ∧ Clk w' p g (ts.set i (mx ts[i] t)) ∧ Only w w' (fun b => b = g) := by
  have hne : p ≠ g := h.1.ne_ h.2.1 (by decide)
  have HB := hide h.1
  have H := hide h
  have hc1 := h.1.cell 1
  simp at hc1
  have hcg := h.at_ hi
  have hfg := h.2.1.frozen i
  have hl := h.2.2
  clear h
  have hiz : (i : Int) < (ts.length : Int) := by omega
  obtain ⟨x, hx⟩ : ∃ x, x = ts[i] := ⟨_, rfl⟩
  obtain ⟨m, hm⟩ : ∃ m, mx x t = m := ⟨_, rfl⟩
  rw [← hx] at hcg ⊢
  rw [hm]
  have hm_ : (if x < t then t else x) = m := hm
  clear hx hm
  go_enter Try.func10, Try.ntmps10
  go_wp2_with (go_at_call 18; refine (none_call _ p _ HB).mono ?_; rintro e w' ⟨rfl, rfl⟩)
  go_region
  go_wp2
  go_ret
  exact ⟨rfl, Clk.set_ (w := w) H.out hne i m, Only.drew (Only.setCell (S := fun b => b = g) (Only.refl w _) (p := ⟨g, i, none⟩) (.inl rfl) _)⟩

/-- At. -/
theorem at_in (w : World) (p g : Nat) (ts : List Int) (i : Nat) (h : Clk w p g ts) (hi : i < ts.length) :
    Calls Try.prog 14 #[.pointer (some ⟨p, 0, none⟩), .int .i64 i] w fun e w' => e = .returned (.int .i64 ts[i]) ∧ w = w' := by
  have HB := hide h.1
  have hc1 := h.1.cell 1
  simp at hc1
  have hcg := h.at_ hi
  clear h
  have hiz : (i : Int) < (ts.length : Int) := by omega
  obtain ⟨x, hx⟩ : ∃ x, x = ts[i] := ⟨_, rfl⟩
  rw [← hx] at hcg ⊢
  clear hx
  go_enter Try.func14, Try.ntmps14
  go_wp2_with (go_at_call 18; refine (none_call _ p _ HB).mono ?_; rintro e w' ⟨rfl, rfl⟩)
  go_ret
  exact ⟨rfl, rfl⟩

theorem at_out (w : World) (p g : Nat) (ts : List Int) (i : Int) (h : Clk w p g ts) (hi : i < 0 ∨ (ts.length : Int) ≤ i) :
    Calls Try.prog 14 #[.pointer (some ⟨p, 0, none⟩), .int .i64 i] w fun e w' => e = .returned (.int .i64 0) ∧ w = w' := by
  have HB := hide h.1
  have hc1 := h.1.cell 1
  simp at hc1
  clear h
  by_cases c1 : i < 0
  · go_enter Try.func14, Try.ntmps14
    go_wp2_with (go_at_call 18; refine (none_call _ p _ HB).mono ?_; rintro e w' ⟨rfl, rfl⟩)
    go_ret
    exact ⟨rfl, rfl⟩
  · have c2 : (ts.length : Int) ≤ i := by omega
    go_enter Try.func14, Try.ntmps14
    go_wp2_with (go_at_call 18; refine (none_call _ p _ HB).mono ?_; rintro e w' ⟨rfl, rfl⟩)
    go_ret
    exact ⟨rfl, rfl⟩

/-- Least of two. -/
theorem least2_call (w : World) (g : Nat) (a b : Int) (h : Blk w g 2 #[.int .i64 a, .int .i64 b]) :
    Calls Try.prog 21 #[.slice (some ⟨g, 0, none⟩) 2 2] w fun e w' => e = .returned (.int .i64 (mn (mn 4611686018427387904 a) b)) ∧ w = w' := by
  have h0 := h.cell 0
  have h1 := h.cell 1
  simp at h0 h1
  clear h
  obtain ⟨m, hm⟩ : ∃ m, mn 4611686018427387904 a = m := ⟨_, rfl⟩
  obtain ⟨n, hn⟩ : ∃ n, mn m b = n := ⟨_, rfl⟩
  rw [hm, hn]
  have hm_ : (if a < 4611686018427387904 then a else 4611686018427387904) = m := hm
  have hn_ : (if b < m then b else m) = n := hn
  clear hm hn
  go_enter Try.func21, Try.ntmps21
  go_wp2
  refine wp_loop_rounds 3 ?_
  rw [rounds_succ]
  go_wp2
  rw [rounds_succ]
  go_wp2
  rw [rounds_succ]
  go_wp2
  go_ret
  exact ⟨rfl, rfl⟩

theorem closure_call (w : World) (a b : Int) :
    Calls Try.prog 20 #[.int .i64 a, .int .i64 b] w fun e w' => e = .returned (.int .i64 (mn (mn 4611686018427387904 a) b)) ∧ Below w.heap.size w w' := by
  go_enter Try.func20, Try.ntmps20
  go_wp2_with (go_at_call 21; refine (least2_call _ w.heap.size a b (Blk.new w 2 #[.int .i64 a, .int .i64 b])).mono ?_; rintro e w' ⟨rfl, rfl⟩)
  go_ret
  exact ⟨rfl, (Below.refl _ _).alloc (Nat.le_refl _) _⟩

def bnd (ts : List Int) : Int := ts.foldl (fun a t => mn (mn 4611686018427387904 a) t) 4611686018427387904

theorem bnd_succ (ts : List Int) (k : Nat) (h : k < ts.length) : bnd (ts.take (k + 1)) = mn (mn 4611686018427387904 (bnd (ts.take k))) ts[k] := by
  unfold bnd
  rw [List.take_succ_eq_append_getElem h, List.foldl_append]
  rfl

theorem fold_call (w : World) (g : Nat) (ts : List Int) (h : Blk w g 2 (ints ts)) (hl : ts.length ≤ 1024) :
    Calls Try.prog 19 #[.slice (some ⟨g, 0, none⟩) ts.length ts.length, .int .i64 4611686018427387904, .func (.func 20) #[] #[]] w fun e w' =>
      e = .returned (.int .i64 (bnd ts)) ∧ Below w.heap.size w w' := by
  have HB := hide h
  clear h
  go_enter Try.func19, Try.ntmps19
  go_wp2
  go_loopw [1, 7, 10] (fun a x i wr => ∃ k : Nat, k ≤ ts.length ∧ i = .int .i64 k ∧ a = .int .i64 (bnd (ts.take k)) ∧ Below w.heap.size w wr) (fun _ _ i _ => ts.length - (intOf i).toNat)
  case atStart => exact ⟨0, Nat.zero_le _, rfl, rfl, Below.refl _ _⟩
  case round =>
    obtain ⟨k, hk, rfl, rfl, hb⟩ := hrel
    by_cases hlt : k < ts.length
    · have hcell : wr.cell? ⟨g, k, none⟩ = some (.int .i64 ts[k]) := by
        rw [(HB.out.below' hb).cell k]
        simp [ints, hlt]
      have HS := hide (bnd_succ ts k hlt)
      obtain ⟨x, hx⟩ : ∃ x, x = ts[k] := ⟨_, rfl⟩
      rw [← hx] at hcell HS
      clear hx
      have HBel := hide hb
      clear hb
      obtain ⟨y, hy⟩ : ∃ y, bnd (ts.take k) = y := ⟨_, rfl⟩
      rw [hy] at HS ⊢
      clear hy
      go_wp2_with (go_at_call 20; refine (closure_call _ _ _).mono ?_; rintro e w1 ⟨rfl, hb1⟩)
      go_roundw
      case rel => exact ⟨k + 1, by omega, by go_num, by rw [HS.out], below_step HBel.out hb1⟩
      case measure => simp [intOf]; omega
    · have : k = ts.length := by omega
      subst this
      go_wp2
      go_ret
      exact ⟨by first | rfl | (rw [List.take_length]; rfl), hb⟩

theorem bound_call (w : World) (p g : Nat) (ts : List Int) (h : Clk w p g ts) :
    Calls Try.prog 12 #[.pointer (some ⟨p, 0, none⟩)] w fun e w' => e = .returned (.int .i64 (bnd ts)) ∧ Below w.heap.size w w' := by
  have HB := hide h.1
  have HG := hide h.2.1
  have hl := h.2.2
  have hc1 := h.1.cell 1
  simp at hc1
  clear h
  go_enter Try.func12, Try.ntmps12
  go_wp2_with (first | (go_at_call 18; refine (none_call _ p _ HB).mono ?_; rintro e w' ⟨rfl, rfl⟩) | (go_at_call 19; refine (fold_call _ g ts HG hl).mono ?_; rintro e w1 ⟨rfl, hb1⟩))
  go_ret
  exact ⟨rfl, hb1⟩
end Go.Proofs.Ytcccigdlmljalaa.Clock
