/- Plain facts on rotation, SymMerge and the passes of Go's stable sort, in terms of lists. No program, no law. -/
import Derived.Test.YtkhdghlgkljdgaaSortPure
set_option linter.unusedVariables false
set_option linter.unusedSimpArgs false
set_option linter.unusedSectionVars false
namespace Go.Proofs.Ytkhdghlgkljdgaa.SortPure
open Go.Sort
variable {α : Type} [Inhabited α] {lt : α → α → Bool}

theorem list_at {α : Type} (l : List α) {k : Nat} (hk : k < l.length) : l = l.take k ++ l[k] :: l.drop (k + 1) := by
  conv => lhs; rw [← List.take_append_drop k l, List.drop_eq_getElem_cons hk]
theorem at_list {d : Array α} {A X R : List α} (h : d.toList = A ++ (X ++ R)) {k : Nat} (hk : k < X.length) {i : Nat} (hi : i = A.length + k) : d[i]! = X[k] := by
  refine get_at (A := A ++ X.take k) (B := X.drop (k + 1) ++ R) ?_ (by rw [List.length_append, List.length_take]; omega)
  rw [h]
  conv => lhs; rw [list_at X hk]
  simp only [List.append_assoc, List.cons_append]
theorem at_list2 {d : Array α} {A Z X R : List α} (h : d.toList = A ++ (Z ++ (X ++ R))) {k : Nat} (hk : k < X.length) {i : Nat} (hi : i = A.length + Z.length + k) : d[i]! = X[k] :=
  at_list (A := A ++ Z) (R := R) (by rw [h]; simp only [List.append_assoc]) hk (by rw [List.length_append]; omega)
/-- A round of swapRange. -/
theorem swr_step {d : Array α} {A U C V B : List α} {k n : Nat} (hU : U.length = n) (hV : V.length = n) (hk : k < n)
    (h : d.toList = A ++ (V.take k ++ (U.drop k ++ (C ++ (U.take k ++ (V.drop k ++ B)))))) {i j : Nat} (hi : i = A.length + k) (hj : j = A.length + n + C.length + k) :
    (swp d i j).toList = A ++ (V.take (k + 1) ++ (U.drop (k + 1) ++ (C ++ (U.take (k + 1) ++ (V.drop (k + 1) ++ B))))) := by
  have hu : k < U.length := by omega
  have hv : k < V.length := by omega
  have h2 : d.toList = (A ++ V.take k) ++ U[k] :: ((U.drop (k + 1) ++ (C ++ U.take k)) ++ V[k] :: (V.drop (k + 1) ++ B)) := by
    rw [h, List.drop_eq_getElem_cons hu, List.drop_eq_getElem_cons hv]
    simp only [List.append_assoc, List.cons_append]
  rw [swp_lists h2 (by rw [List.length_append, List.length_take]; omega) (by simp; omega), List.take_succ_eq_append_getElem hv, List.take_succ_eq_append_getElem hu]
  simp only [List.append_assoc, List.cons_append, List.nil_append]

/-- What a rotation is still to do. -/
def Rot (d : Array α) (T : List α) (m i j : Nat) : Prop := ∃ A P Q B : List α, d.toList = A ++ (P ++ (Q ++ B)) ∧ A.length + i = m ∧ P.length = i ∧ Q.length = j ∧ T = A ++ (Q ++ (P ++ B))
theorem Rot.gt {d : Array α} {T : List α} {m i j : Nat} (h : Rot d T m i j) (hij : j < i) :
    ∃ A U C V B : List α, d.toList = A ++ (U ++ (C ++ (V ++ B))) ∧ A.length = m - i ∧ U.length = j ∧ V.length = j ∧ m = A.length + j + C.length ∧ i ≤ m ∧
      ∀ d' : Array α, d'.toList = A ++ (V ++ (C ++ (U ++ B))) → Rot d' T m (i - j) j := by
  obtain ⟨A, P, Q, B, h1, h2, h3, h4, h5⟩ := h
  refine ⟨A, P.take j, P.drop j, Q, B, ?_, by omega, by simp; omega, h4, by simp; omega, by omega, ?_⟩
  · rw [h1, ← List.append_assoc (P.take j), List.take_append_drop]
  · intro d' hd
    refine ⟨A ++ Q, P.drop j, P.take j, B, by rw [hd]; simp, by simp; omega, by simp; omega, by simp; omega, ?_⟩
    rw [h5]
    conv => lhs; rw [← List.take_append_drop j P]
    simp only [List.append_assoc]
theorem Rot.less {d : Array α} {T : List α} {m i j : Nat} (h : Rot d T m i j) (hij : i < j) :
    ∃ A U C V B : List α, d.toList = A ++ (U ++ (C ++ (V ++ B))) ∧ A.length = m - i ∧ U.length = i ∧ V.length = i ∧ m + j - i = A.length + i + C.length ∧ i ≤ m ∧
      ∀ d' : Array α, d'.toList = A ++ (V ++ (C ++ (U ++ B))) → Rot d' T m i (j - i) := by
  obtain ⟨A, P, Q, B, h1, h2, h3, h4, h5⟩ := h
  refine ⟨A, P, Q.take (j - i), Q.drop (j - i), B, ?_, by omega, h3, by simp; omega, by simp; omega, by omega, ?_⟩
  · rw [h1, ← List.append_assoc (Q.take (j - i)), List.take_append_drop]
  · intro d' hd
    refine ⟨A, Q.drop (j - i), Q.take (j - i), P ++ B, by rw [hd], by omega, by simp; omega, by simp; omega, ?_⟩
    rw [h5]
    conv => lhs; rw [← List.take_append_drop (j - i) Q]
    simp only [List.append_assoc]
theorem Rot.eq {d : Array α} {T : List α} {m i : Nat} (h : Rot d T m i i) :
    ∃ A U V B : List α, d.toList = A ++ (U ++ ([] ++ (V ++ B))) ∧ A.length = m - i ∧ U.length = i ∧ V.length = i ∧ m = A.length + i ∧ i ≤ m ∧ T = A ++ (V ++ ([] ++ (U ++ B))) := by
  obtain ⟨A, P, Q, B, h1, h2, h3, h4, h5⟩ := h
  exact ⟨A, P, Q, B, by rw [h1]; rfl, by omega, h3, h4, by omega, by omega, by rw [h5]; rfl⟩

theorem Rot.sz {d : Array α} {T : List α} {m i j n : Nat} (h : Rot d T m i j) (hT : T.length = n) : d.size = n := by
  obtain ⟨A, P, Q, B, h1, h2, h3, h4, h5⟩ := h
  have := congrArg List.length h1
  rw [← hT, h5]
  simp at this ⊢
  omega

theorem Weak.irr (W : Weak lt) (a : α) : lt a a = false := by
  cases h : lt a a
  · rfl
  · have := W.asym a a h
    rw [h] at this
    cases this
theorem srt_head (W : Weak lt) {x : α} {l : List α} (h : Srt lt (x :: l)) : ∀ y ∈ x :: l, lt y x = false := by
  intro y hy
  rcases List.mem_cons.1 hy with rfl | hy
  · exact W.irr _
  · exact (srt_cons.1 h).1 y hy
theorem srt_last (W : Weak lt) {x : α} {l : List α} (h : Srt lt (l ++ [x])) : ∀ y ∈ l ++ [x], lt x y = false := by
  intro y hy
  rcases List.mem_append.1 hy with hy | hy
  · exact (srt_append.1 h).2.2 y hy x (by simp)
  · have : y = x := by simpa using hy
    subst this
    exact W.irr _

/-- Where the search of SymMerge has ended, the merge parts. -/
theorem sym_split (W : Weak lt) {d : Array α} {A X Y B : List α} (h : d.toList = A ++ (X ++ (Y ++ B))) (hX : Srt lt X) (hY : Srt lt Y) {a m b mid n lo hi s : Nat}
    (ha : a = A.length) (hm : m = a + X.length) (hb : b = m + Y.length) (hmid : mid = (a + b) / 2) (hn : n = mid + m) (hlh : (mid < m ∧ lo = n - b ∧ hi = mid) ∨ (m ≤ mid ∧ lo = a ∧ hi = m))
    (h0 : lo ≤ s) (h0' : s ≤ hi) (h1 : s = lo ∨ lt d[n - 1 - (s - 1)]! d[s - 1]! = false) (h2 : s = hi ∨ lt d[n - 1 - s]! d[s]! = true) :
    ∃ X1 X2 Y1 Y2, X = X1 ++ X2 ∧ Y = Y1 ++ Y2 ∧ a + X1.length = s ∧ m + Y1.length = n - s ∧ a ≤ s ∧ s ≤ m ∧ m ≤ n - s ∧ n - s ≤ b ∧ s ≤ mid ∧ merge lt X Y = merge lt X1 Y1 ++ merge lt X2 Y2 ∧ Srt lt X1 ∧ Srt lt X2 ∧ Srt lt Y1 ∧ Srt lt Y2 := by
  have a1 : a ≤ s := by omega
  have a2 : s ≤ m := by omega
  have a3 : s ≤ mid := by omega
  have a4 : n - s ≤ b := by omega
  have eX := List.take_append_drop (s - a) X
  have eY := List.take_append_drop (mid - s) Y
  have sX : Srt lt (X.take (s - a) ++ X.drop (s - a)) := by rw [eX]; exact hX
  have sY : Srt lt (Y.take (mid - s) ++ Y.drop (mid - s)) := by rw [eY]; exact hY
  obtain ⟨sx1, sx2, sx3⟩ := srt_append.1 sX
  obtain ⟨sy1, sy2, sy3⟩ := srt_append.1 sY
  refine ⟨X.take (s - a), X.drop (s - a), Y.take (mid - s), Y.drop (mid - s), eX.symm, eY.symm, by simp; omega, by simp; omega, a1, a2, by omega, a4, a3, ?_, sx1, sx2, sy1, sy2⟩
  conv => lhs; rw [← eX, ← eY]
  refine merge_split _ _ _ _ ?_ ?_
  · intro y hy x hx
    have q1 : s < m := by
      rcases Nat.lt_or_ge s m with q | q
      · exact q
      · rw [List.drop_of_length_le (by omega)] at hx; cases hx
    have q2 : s < mid := by
      rcases Nat.lt_or_ge s mid with q | q
      · exact q
      · rw [show mid - s = 0 by omega] at hy; simp at hy
    have q3 : lt d[n - 1 - s]! d[s]! = true := by
      rcases h2 with q | q
      · omega
      · exact q
    have k1 : s - a < X.length := by omega
    have k2 : mid - s - 1 < Y.length := by omega
    have g1 : d[s]! = X[s - a] := at_list h (by omega) (by omega)
    have g2 : d[n - 1 - s]! = Y[mid - s - 1] := at_list2 h (by omega) (by (try simp only [List.length_singleton]); omega)
    rw [g1, g2] at q3
    rw [List.drop_eq_getElem_cons k1] at hx sx2
    rw [show mid - s = mid - s - 1 + 1 by omega, List.take_succ_eq_append_getElem k2] at hy sy1
    have r1 := srt_head W sx2 x hx
    have r2 := srt_last W sy1 y hy
    cases r : lt y x
    · have := W.tr _ _ _ (W.tr _ _ _ r2 r) r1
      rw [q3] at this
      cases this
    · rfl
  · intro x hx y hy
    have q1 : a < s := by
      rcases Nat.lt_or_ge a s with q | q
      · exact q
      · rw [show s - a = 0 by omega] at hx; simp at hx
    have q2 : n - s < b := by
      rcases Nat.lt_or_ge (n - s) b with q | q
      · exact q
      · rw [List.drop_of_length_le (by omega)] at hy; cases hy
    have q3 : lt d[n - 1 - (s - 1)]! d[s - 1]! = false := by
      rcases h1 with q | q
      · omega
      · exact q
    have k1 : s - a - 1 < X.length := by omega
    have k2 : mid - s < Y.length := by omega
    have g1 : d[s - 1]! = X[s - a - 1] := at_list h (by omega) (by omega)
    have g2 : d[n - 1 - (s - 1)]! = Y[mid - s] := at_list2 h (by omega) (by (try simp only [List.length_singleton]); omega)
    rw [g1, g2] at q3
    rw [List.drop_eq_getElem_cons k2] at hy sy2
    rw [show s - a = s - a - 1 + 1 by omega, List.take_succ_eq_append_getElem k1] at hx sx1
    have r1 := srt_head W sy2 y hy
    have r2 := srt_last W sx1 x hx
    exact W.tr _ _ _ (W.tr _ _ _ r1 q3) r2

/-- One on the left. -/
theorem one_left (W : Weak lt) {d : Array α} {A Y B : List α} {x : α} (h : d.toList = A ++ ([x] ++ (Y ++ B))) (hY : Srt lt Y) {a m b i : Nat} (ha : a = A.length) (hm : m = a + 1) (hb : b = m + Y.length)
    (h0 : m ≤ i) (h0' : i ≤ b) (h1 : i = m ∨ lt d[i - 1]! d[a]! = true) (h2 : i = b ∨ lt d[i]! d[a]! = false) :
    ∃ Y1 Y2, Y = Y1 ++ Y2 ∧ m + Y1.length = i ∧ merge lt [x] Y = Y1 ++ x :: Y2 := by
  have eY := List.take_append_drop (i - m) Y
  have sY : Srt lt (Y.take (i - m) ++ Y.drop (i - m)) := by rw [eY]; exact hY
  obtain ⟨sy1, sy2, sy3⟩ := srt_append.1 sY
  have g0 : d[a]! = x := get_at (A := A) (B := Y ++ B) (by rw [h]; rfl) ha
  rw [g0] at h1 h2
  refine ⟨Y.take (i - m), Y.drop (i - m), eY.symm, by simp; omega, ?_⟩
  conv => lhs; rw [← eY]
  have := merge_split (lt := lt) [] [x] (Y.take (i - m)) (Y.drop (i - m)) ?_ (by simp)
  · rw [List.nil_append, merge_nil_left] at this
    rw [this]
    congr 1
    cases hd : Y.drop (i - m) with
    | nil => rw [merge_nil_right]
    | cons y Y2 =>
      have k1 : i - m < Y.length := by
        rcases Nat.lt_or_ge (i - m) Y.length with q | q
        · exact q
        · rw [List.drop_of_length_le q] at hd; cases hd
      have g : d[i]! = Y[i - m] := at_list2 h (by omega) (by (try simp only [List.length_singleton]); omega)
      rw [List.drop_eq_getElem_cons k1] at hd
      have e : Y[i - m] = y := by injection hd
      have q3 : lt y x = false := by
        rcases h2 with q | q
        · omega
        · rwa [g, e] at q
      rw [merge_cons, q3, if_neg (by simp), merge_nil_left]
  · intro y hy z hz
    have : z = x := by simpa using hz
    subst this
    have q1 : m < i := by
      rcases Nat.lt_or_ge m i with q | q
      · exact q
      · rw [show i - m = 0 by omega] at hy; simp at hy
    have k1 : i - m - 1 < Y.length := by omega
    have g : d[i - 1]! = Y[i - m - 1] := at_list2 h (by omega) (by (try simp only [List.length_singleton]); omega)
    have q3 : lt Y[i - m - 1] z = true := by
      rcases h1 with q | q
      · omega
      · rwa [g] at q
    rw [show i - m = i - m - 1 + 1 by omega, List.take_succ_eq_append_getElem k1] at hy sy1
    have r2 := srt_last W sy1 y hy
    cases r : lt y z
    · have := W.tr _ _ _ r2 r
      rw [q3] at this
      cases this
    · rfl

/-- One on the right. -/
theorem one_right (W : Weak lt) {d : Array α} {A X B : List α} {y : α} (h : d.toList = A ++ (X ++ ([y] ++ B))) (hX : Srt lt X) {a m i : Nat} (ha : a = A.length) (hm : m = a + X.length)
    (h0 : a ≤ i) (h0' : i ≤ m) (h1 : i = a ∨ lt d[m]! d[i - 1]! = false) (h2 : i = m ∨ lt d[m]! d[i]! = true) :
    ∃ X1 X2, X = X1 ++ X2 ∧ a + X1.length = i ∧ merge lt X [y] = X1 ++ y :: X2 := by
  have eX := List.take_append_drop (i - a) X
  have sX : Srt lt (X.take (i - a) ++ X.drop (i - a)) := by rw [eX]; exact hX
  obtain ⟨sx1, sx2, sx3⟩ := srt_append.1 sX
  have g0 : d[m]! = y := get_at (A := A ++ X) (B := B) (by rw [h]; simp) (by simp; omega)
  rw [g0] at h1 h2
  refine ⟨X.take (i - a), X.drop (i - a), eX.symm, by simp; omega, ?_⟩
  conv => lhs; rw [← eX]
  have := merge_split (lt := lt) (X.take (i - a)) (X.drop (i - a)) [] [y] (by simp) ?_
  · rw [List.nil_append, merge_nil_right] at this
    rw [this]
    congr 1
    cases hd : X.drop (i - a) with
    | nil => rw [merge_nil_left]
    | cons x X2 =>
      have k1 : i - a < X.length := by
        rcases Nat.lt_or_ge (i - a) X.length with q | q
        · exact q
        · rw [List.drop_of_length_le q] at hd; cases hd
      have g : d[i]! = X[i - a] := at_list h (by omega) (by omega)
      rw [List.drop_eq_getElem_cons k1] at hd
      have e : X[i - a] = x := by injection hd
      have q3 : lt y x = true := by
        rcases h2 with q | q
        · omega
        · rwa [g, e] at q
      rw [merge_cons, q3, if_pos rfl, merge_nil_right]
  · intro x hx z hz
    have : z = y := by simpa using hz
    subst this
    have q1 : a < i := by
      rcases Nat.lt_or_ge a i with q | q
      · exact q
      · rw [show i - a = 0 by omega] at hx; simp at hx
    have k1 : i - a - 1 < X.length := by omega
    have g : d[i - 1]! = X[i - a - 1] := at_list h (by omega) (by omega)
    have q3 : lt z X[i - a - 1] = false := by
      rcases h1 with q | q
      · omega
      · rwa [g] at q
    rw [show i - a = i - a - 1 + 1 by omega, List.take_succ_eq_append_getElem k1] at hx sx1
    exact W.tr _ _ _ q3 (srt_last W sx1 x hx)

/-- A round of the shift to the right. -/
theorem right_step {d : Array α} {A Y R : List α} {x : α} {k : Nat} (hk : k < Y.length) (h : d.toList = A ++ (Y.take k ++ x :: (Y.drop k ++ R))) {i j : Nat} (hi : i = A.length + k) (hj : j = i + 1) :
    (swp d i j).toList = A ++ (Y.take (k + 1) ++ x :: (Y.drop (k + 1) ++ R)) := by
  have h2 : d.toList = (A ++ Y.take k) ++ x :: ([] ++ Y[k] :: (Y.drop (k + 1) ++ R)) := by
    rw [h, List.drop_eq_getElem_cons hk]
    simp only [List.append_assoc, List.cons_append, List.nil_append]
  rw [swp_lists h2 (by rw [List.length_append, List.length_take]; omega) (by rw [List.length_append, List.length_take]; simp; omega), List.take_succ_eq_append_getElem hk]
  simp only [List.append_assoc, List.cons_append, List.nil_append]
/-- A round of the shift to the left. -/
theorem left_step {d : Array α} {A X R : List α} {y : α} {k : Nat} (hk : k < X.length) (h : d.toList = A ++ (X.take (k + 1) ++ y :: (X.drop (k + 1) ++ R))) {i j : Nat} (hi : i = A.length + k + 1) (hj : j + 1 = i) :
    (swp d i j).toList = A ++ (X.take k ++ y :: (X.drop k ++ R)) := by
  have h2 : d.toList = (A ++ X.take k) ++ X[k] :: ([] ++ y :: (X.drop (k + 1) ++ R)) := by
    rw [h, List.take_succ_eq_append_getElem hk]
    simp only [List.append_assoc, List.cons_append, List.nil_append]
  rw [swp_lists' h2 (i := j) (j := i) (by rw [List.length_append, List.length_take]; omega) (by rw [List.length_append, List.length_take]; simp; omega)]
  conv => rhs; rw [List.drop_eq_getElem_cons hk]
  simp only [List.append_assoc, List.cons_append, List.nil_append]

/-! ### the passes -/
/-- The first pass, at a: what stands sorted in blocks, and what is to come. -/
def Pass1 (lt : α → α → Bool) (L : List α) (bs a : Nat) (d : Array α) : Prop := ∃ S, d.toList = S ++ L.drop a ∧ S.length = a ∧ a ≤ L.length ∧ S ++ blocks lt bs (L.drop a) = blocks lt bs L
theorem pass1_start (d : Array α) (bs : Nat) : Pass1 lt d.toList bs 0 d := ⟨[], by simp, rfl, Nat.zero_le _, by simp⟩
theorem Pass1.step {L : List α} {bs a b : Nat} {d : Array α} (h : Pass1 lt L bs a d) (h0 : 0 < bs) (hb : b = a + bs) (hL : b ≤ L.length) : Pass1 lt L bs b (insertionSort lt d a b) := by
  obtain ⟨S, h1, h2, h3, h4⟩ := h
  have hd : d.toList = S ++ ((L.drop a).take bs ++ (L.drop a).drop bs) := by rw [List.take_append_drop]; exact h1
  have hl : ((L.drop a).take bs).length = bs := by simp; omega
  have := insertionSort_list (lt := lt) S _ _ d hd (a := a) (b := b) (by omega) (by omega)
  refine ⟨S ++ isort lt ((L.drop a).take bs), ?_, by rw [List.length_append, length_isort, hl]; omega, hL, ?_⟩
  · rw [this, List.drop_drop, hb]
    simp
  · rw [← h4, blocks_step bs (L.drop a) h0 (by simp; omega), List.drop_drop, hb]
    simp
theorem Pass1.last {L : List α} {bs a n : Nat} {d : Array α} (h : Pass1 lt L bs a d) (hn : n = L.length) (hb : n < a + bs) : (insertionSort lt d a n).toList = blocks lt bs L := by
  obtain ⟨S, h1, h2, h3, h4⟩ := h
  have hd : d.toList = S ++ (L.drop a ++ []) := by rw [h1]; simp
  have := insertionSort_list (lt := lt) S _ _ d hd (a := a) (b := n) (by omega) (by simp; omega)
  rw [this, ← h4, blocks_le _ _ (by simp; omega)]
  simp
/-- A merging pass, at a. -/
def Pass2 (lt : α → α → Bool) (L : List α) (bs a : Nat) (d : Array α) : Prop := ∃ S, d.toList = S ++ blocks lt bs (L.drop a) ∧ S.length = a ∧ a ≤ L.length ∧ S ++ blocks lt (2 * bs) (L.drop a) = blocks lt (2 * bs) L
theorem pass2_start {L : List α} {bs : Nat} {d : Array α} (h : d.toList = blocks lt bs L) : Pass2 lt L bs 0 d := ⟨[], by simp [h], rfl, Nat.zero_le _, by simp⟩
theorem Pass2.go (W : Weak lt) {L : List α} {bs a : Nat} {d : Array α} (h : Pass2 lt L bs a d) (h0 : 0 < bs) (hL : a + 2 * bs ≤ L.length) :
    ∃ A X Y B, d.toList = A ++ (X ++ (Y ++ B)) ∧ A.length = a ∧ X.length = bs ∧ Y.length = bs ∧ Srt lt X ∧ Srt lt Y ∧ ∀ d' : Array α, d'.toList = A ++ (merge lt X Y ++ B) → Pass2 lt L bs (a + 2 * bs) d' := by
  obtain ⟨S, h1, h2, h3, h4⟩ := h
  obtain ⟨M, hM⟩ : ∃ M, L.drop a = M := ⟨_, rfl⟩
  have hl : M.length = L.length - a := by rw [← hM]; simp
  have e1 : blocks lt bs M = isort lt (M.take bs) ++ (isort lt ((M.drop bs).take bs) ++ blocks lt bs (M.drop (2 * bs))) := by
    rw [blocks_step bs M h0 (by omega), blocks_step bs (M.drop bs) h0 (by simp; omega), List.drop_drop, show bs + bs = 2 * bs by omega]
  refine ⟨S, isort lt (M.take bs), isort lt ((M.drop bs).take bs), blocks lt bs (M.drop (2 * bs)), by rw [h1, hM, e1], h2, by rw [length_isort]; simp; omega, by rw [length_isort]; simp; omega, srt_isort W _, srt_isort W _, ?_⟩
  intro d' hd
  have e2 : M.take bs ++ (M.drop bs).take bs = M.take (2 * bs) := by rw [show 2 * bs = bs + bs by omega, List.take_add]
  rw [merge_isort W, e2] at hd
  refine ⟨S ++ isort lt (M.take (2 * bs)), ?_, by rw [List.length_append, length_isort]; simp; omega, by omega, ?_⟩
  · rw [hd, ← List.drop_drop, hM]
    simp
  · rw [← h4, ← List.drop_drop, hM, blocks_step (2 * bs) M (by omega) (by omega)]
    simp
theorem Pass2.rest (W : Weak lt) {L : List α} {bs a : Nat} {d : Array α} (h : Pass2 lt L bs a d) (h0 : 0 < bs) (hL : L.length < a + 2 * bs) (hm : a + bs < L.length) :
    ∃ A X Y B, d.toList = A ++ (X ++ (Y ++ B)) ∧ A.length = a ∧ X.length = bs ∧ Y.length = L.length - (a + bs) ∧ Srt lt X ∧ Srt lt Y ∧ ∀ d' : Array α, d'.toList = A ++ (merge lt X Y ++ B) → d'.toList = blocks lt (2 * bs) L := by
  obtain ⟨S, h1, h2, h3, h4⟩ := h
  obtain ⟨M, hM⟩ : ∃ M, L.drop a = M := ⟨_, rfl⟩
  have hl : M.length = L.length - a := by rw [← hM]; simp
  have e1 : blocks lt bs M = isort lt (M.take bs) ++ (isort lt (M.drop bs) ++ []) := by
    rw [blocks_step bs M h0 (by omega), blocks_le bs (M.drop bs) (by simp; omega), List.append_nil]
  refine ⟨S, isort lt (M.take bs), isort lt (M.drop bs), [], by rw [h1, hM, e1], h2, by rw [length_isort]; simp; omega, by rw [length_isort]; simp; omega, srt_isort W _, srt_isort W _, ?_⟩
  intro d' hd
  rw [merge_isort W, List.take_append_drop] at hd
  rw [hd, ← h4, hM, blocks_le (2 * bs) M (by omega), List.append_nil]
theorem Pass2.last {L : List α} {bs a : Nat} {d : Array α} (h : Pass2 lt L bs a d) (hm : L.length ≤ a + bs) : d.toList = blocks lt (2 * bs) L := by
  obtain ⟨S, h1, h2, h3, h4⟩ := h
  have hl : (L.drop a).length ≤ bs := by simp; omega
  rw [h1, ← h4, blocks_le _ _ hl, blocks_le _ _ (by omega)]
end Go.Proofs.Ytkhdghlgkljdgaa.SortPure
