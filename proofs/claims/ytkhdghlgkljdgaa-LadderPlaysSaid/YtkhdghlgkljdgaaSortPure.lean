/- Plain facts on a stable sort over lists: insertion from behind, the merge of two, and Go's array exchanges in terms of lists. No program, no law. -/
import Derived.Sort.WalkA
import Derived.Sort.LotA
set_option linter.unusedVariables false
set_option linter.unusedSimpArgs false
set_option linter.unusedSectionVars false
namespace Go.Proofs.Ytkhdghlgkljdgaa.SortPure
open Go.Sort

theorem revInd {α : Type} {p : List α → Prop} (nil : p []) (snoc : ∀ l a, p l → p (l ++ [a])) (l : List α) : p l := by
  have h : ∀ m : List α, p m.reverse := by
    intro m
    induction m with
    | nil => exact nil
    | cons a m ih => rw [List.reverse_cons]; exact snoc _ _ ih
  have := h l.reverse
  rwa [List.reverse_reverse] at this
section
variable {α : Type} (lt : α → α → Bool)

/-- What Before must be: no two are ahead of one another; 'not behind' goes on. -/
structure Weak : Prop where
  asym : ∀ a b, lt a b = true → lt b a = false
  tr : ∀ a b c, lt a b = false → lt b c = false → lt a c = false

/-- Into a list from behind, on the list turned round. -/
def insRev : List α → α → List α
  | [], x => [x]
  | y :: ys, x => if lt x y then y :: insRev ys x else x :: y :: ys
def ins (l : List α) (x : α) : List α := (insRev lt l.reverse x).reverse
def isort (l : List α) : List α := l.foldl (ins lt) []
def merge : List α → List α → List α
  | [], ys => ys
  | x :: xs, [] => x :: xs
  | x :: xs, y :: ys => if lt y x then y :: merge (x :: xs) ys else x :: merge xs (y :: ys)
termination_by xs ys => xs.length + ys.length
/-- In order: none is behind a later one. -/
def Srt (l : List α) : Prop := l.Pairwise (fun a b => lt b a = false)
end

section
variable {α : Type} {lt : α → α → Bool}
theorem ins_nil (x : α) : ins lt [] x = [x] := rfl
theorem ins_yes (l : List α) (y x : α) (h : lt x y = true) : ins lt (l ++ [y]) x = ins lt l x ++ [y] := by
  simp [ins, List.reverse_append, insRev, h]
theorem ins_no (l : List α) (y x : α) (h : lt x y = false) : ins lt (l ++ [y]) x = l ++ [y, x] := by
  simp [ins, List.reverse_append, insRev, h]
theorem length_insRev (l : List α) (x : α) : (insRev lt l x).length = l.length + 1 := by
  induction l with
  | nil => rfl
  | cons y ys ih => unfold insRev; split <;> simp [ih]
theorem length_ins (l : List α) (x : α) : (ins lt l x).length = l.length + 1 := by simp [ins, length_insRev]
theorem length_foldl_ins (l s : List α) : (l.foldl (ins lt) s).length = s.length + l.length := by
  induction l generalizing s with
  | nil => simp
  | cons x xs ih => rw [List.foldl_cons, ih, length_ins]; simp; omega
theorem length_isort (l : List α) : (isort lt l).length = l.length := by unfold isort; rw [length_foldl_ins]; simp
theorem isort_nil : isort lt [] = [] := rfl
theorem isort_snoc (l : List α) (x : α) : isort lt (l ++ [x]) = ins lt (isort lt l) x := by simp [isort, List.foldl_append]
theorem isort_one (x : α) : isort lt [x] = [x] := rfl
theorem foldl_isort (l m : List α) : m.foldl (ins lt) (isort lt l) = isort lt (l ++ m) := by simp [isort, List.foldl_append]
theorem mem_insRev (l : List α) (x z : α) : z ∈ insRev lt l x ↔ z = x ∨ z ∈ l := by
  induction l with
  | nil => simp [insRev]
  | cons y ys ih =>
    unfold insRev
    split
    · simp [ih]; constructor
      · rintro (h | h | h) <;> simp [h]
      · rintro (h | h | h) <;> simp [h]
    · simp
theorem mem_ins (l : List α) (x z : α) : z ∈ ins lt l x ↔ z = x ∨ z ∈ l := by simp [ins, mem_insRev]
theorem perm_insRev (l : List α) (x : α) : (insRev lt l x).Perm (x :: l) := by
  induction l with
  | nil => exact List.Perm.refl _
  | cons y ys ih =>
    unfold insRev
    split
    · exact (List.Perm.cons y ih).trans (List.Perm.swap x y ys)
    · exact List.Perm.refl _
theorem perm_ins (l : List α) (x : α) : (ins lt l x).Perm (x :: l) := by
  unfold ins
  exact (List.reverse_perm _).trans ((perm_insRev _ _).trans (List.Perm.cons x (List.reverse_perm l)))
theorem perm_foldl_ins (l s : List α) : (l.foldl (ins lt) s).Perm (s ++ l) := by
  induction l generalizing s with
  | nil => simp
  | cons x xs ih =>
    rw [List.foldl_cons]
    refine (ih _).trans ?_
    refine ((perm_ins s x).append_right xs).trans ?_
    exact (List.perm_middle (l₁ := s) (l₂ := xs) (a := x)).symm
theorem perm_isort (l : List α) : (isort lt l).Perm l := by
  have := perm_foldl_ins (lt := lt) l []
  simpa [isort] using this

/-- Where the place is known. -/
theorem ins_split (l1 l2 : List α) (x : α) (h1 : ∀ y ∈ l1, lt x y = false) (h2 : ∀ y ∈ l2, lt x y = true) : ins lt (l1 ++ l2) x = l1 ++ x :: l2 := by
  induction l2 using revInd with
  | nil =>
    rw [List.append_nil]
    rcases List.eq_nil_or_concat l1 with rfl | ⟨l, y, rfl⟩
    · rfl
    · rw [List.concat_eq_append, ins_no _ _ _ (h1 y (by simp))]
      simp
  | snoc l y ih =>
    rw [← List.append_assoc, ins_yes _ _ _ (h2 y (by simp)), ih (fun z hz => h2 z (by simp [hz]))]
    simp

theorem Srt.nil : Srt lt [] := List.Pairwise.nil
theorem srt_append {l1 l2 : List α} : Srt lt (l1 ++ l2) ↔ Srt lt l1 ∧ Srt lt l2 ∧ ∀ a ∈ l1, ∀ b ∈ l2, lt b a = false := List.pairwise_append
theorem srt_cons {a : α} {l : List α} : Srt lt (a :: l) ↔ (∀ b ∈ l, lt b a = false) ∧ Srt lt l := List.pairwise_cons

/-- In an ordered list the ones that x is ahead of stand behind the others. -/
theorem Srt.part (W : Weak lt) {l : List α} (h : Srt lt l) (x : α) : ∃ l1 l2, l = l1 ++ l2 ∧ (∀ y ∈ l1, lt x y = false) ∧ (∀ y ∈ l2, lt x y = true) := by
  induction l with
  | nil => exact ⟨[], [], rfl, by simp, by simp⟩
  | cons a l ih =>
    obtain ⟨ha, hl⟩ := srt_cons.1 h
    cases hx : lt x a
    · obtain ⟨l1, l2, rfl, h1, h2⟩ := ih hl
      exact ⟨a :: l1, l2, rfl, by simpa [hx] using h1, h2⟩
    · refine ⟨[], a :: l, rfl, by simp, ?_⟩
      intro y hy
      rcases List.mem_cons.1 hy with rfl | hy
      · exact hx
      · cases hxy : lt x y
        · have := W.tr x y a hxy (ha y hy)
          rw [this] at hx
          cases hx
        · rfl
theorem Srt.ins (W : Weak lt) {l : List α} (h : Srt lt l) (x : α) : Srt lt (ins lt l x) := by
  obtain ⟨l1, l2, rfl, h1, h2⟩ := h.part W x
  rw [ins_split _ _ _ h1 h2]
  obtain ⟨s1, s2, s3⟩ := srt_append.1 h
  refine srt_append.2 ⟨s1, srt_cons.2 ⟨fun b hb => W.asym _ _ (h2 b hb), s2⟩, ?_⟩
  intro a ha b hb
  rcases List.mem_cons.1 hb with rfl | hb
  · exact h1 a ha
  · exact s3 a ha b hb
theorem srt_isort (W : Weak lt) (l : List α) : Srt lt (isort lt l) := by
  induction l using revInd with
  | nil => exact Srt.nil
  | snoc l x ih => rw [isort_snoc]; exact ih.ins W x
/-- What is in order stays. -/
theorem isort_of_srt (W : Weak lt) (l : List α) (h : Srt lt l) : isort lt l = l := by
  induction l using revInd with
  | nil => rfl
  | snoc l x ih =>
    obtain ⟨s1, s2, s3⟩ := srt_append.1 h
    rw [isort_snoc, ih s1]
    have := ins_split (lt := lt) l [] x (fun y hy => s3 y hy x (by simp)) (by simp)
    rw [List.append_nil] at this
    exact this

/-! ### the merge -/
theorem merge_nil_left (ys : List α) : merge lt [] ys = ys := by unfold merge; rfl
theorem merge_nil_right (xs : List α) : merge lt xs [] = xs := by cases xs <;> (unfold merge; rfl)
theorem merge_cons (x y : α) (xs ys : List α) : merge lt (x :: xs) (y :: ys) = if lt y x then y :: merge lt (x :: xs) ys else x :: merge lt xs (y :: ys) := by
  conv => lhs; unfold merge
theorem length_merge (xs ys : List α) : (merge lt xs ys).length = xs.length + ys.length := by
  induction xs generalizing ys with
  | nil => simp [merge_nil_left]
  | cons x xs ih =>
    induction ys with
    | nil => simp [merge_nil_right]
    | cons y ys ih2 =>
      rw [merge_cons]
      split
      · rw [List.length_cons, ih2]; simp; omega
      · rw [List.length_cons, ih]; simp; omega
theorem merge_split (X1 X2 Y1 Y2 : List α) (h1 : ∀ y ∈ Y1, ∀ x ∈ X2, lt y x = true) (h2 : ∀ x ∈ X1, ∀ y ∈ Y2, lt y x = false) : merge lt (X1 ++ X2) (Y1 ++ Y2) = merge lt X1 Y1 ++ merge lt X2 Y2 := by
  induction X1 generalizing Y1 with
  | nil =>
    rw [List.nil_append, merge_nil_left]
    induction Y1 with
    | nil => rfl
    | cons y Y ih =>
      rw [List.cons_append]
      cases X2 with
      | nil => rw [merge_nil_left, merge_nil_left]; rfl
      | cons x X =>
        rw [merge_cons, if_pos (h1 y (by simp) x (by simp)), ih (fun z hz => h1 z (by simp [hz]))]
        rfl
  | cons x X ih =>
    induction Y1 with
    | nil =>
      rw [List.nil_append, merge_nil_right, List.cons_append]
      have hX := ih [] (by simp) (fun z hz => h2 z (by simp [hz]))
      rw [List.nil_append, merge_nil_right] at hX
      cases Y2 with
      | nil => rw [merge_nil_right, merge_nil_right]; rfl
      | cons y Y => rw [merge_cons, if_neg (by rw [h2 x (by simp) y (by simp)]; simp), hX]; rfl
    | cons y Y ih2 =>
      rw [List.cons_append, List.cons_append, merge_cons, merge_cons]
      split
      · rw [← List.cons_append, ih2 (fun z hz => h1 z (by simp [hz]))]
        rfl
      · rw [← List.cons_append, ih (y :: Y) h1 (fun z hz => h2 z (by simp [hz]))]
        rfl
theorem merge_ins (W : Weak lt) (X Y : List α) (hX : Srt lt X) (hY : Srt lt Y) (y : α) : merge lt X (ins lt Y y) = ins lt (merge lt X Y) y := by
  obtain ⟨X1, X2, rfl, a1, a2⟩ := hX.part W y
  obtain ⟨Y1, Y2, rfl, b1, b2⟩ := hY.part W y
  obtain ⟨sx1, sx2, sx3⟩ := srt_append.1 hX
  have c1 : ∀ z ∈ Y1, ∀ x ∈ X2, lt z x = true := fun z hz x hx => by
    cases hzx : lt z x
    · have := W.tr y z x (b1 z hz) hzx
      rw [a2 x hx] at this
      cases this
    · rfl
  have c2 : ∀ x ∈ X1, ∀ z ∈ Y2, lt z x = false := fun x hx z hz => W.tr z y x (W.asym y z (b2 z hz)) (a1 x hx)
  have m : ∀ z, z ∈ merge lt X1 Y1 → z ∈ X1 ∨ z ∈ Y1 := mem_merge X1 Y1
  have m2 : ∀ z, z ∈ merge lt X2 Y2 → z ∈ X2 ∨ z ∈ Y2 := mem_merge X2 Y2
  rw [ins_split _ _ _ b1 b2, merge_split X1 X2 Y1 Y2 c1 c2, ins_split _ _ _ (fun z hz => by rcases m z hz with h | h; exact a1 z h; exact b1 z h) (fun z hz => by rcases m2 z hz with h | h; exact a2 z h; exact b2 z h)]
  rw [merge_split X1 X2 Y1 (y :: Y2) c1 (fun x hx z hz => by rcases List.mem_cons.1 hz with rfl | hz; exact a1 x hx; exact c2 x hx z hz)]
  congr 1
  cases X2 with
  | nil => rw [merge_nil_left, merge_nil_left]
  | cons x X => rw [merge_cons, if_pos (a2 x (by simp))]
where
  mem_merge : ∀ (X Y : List α) (z : α), z ∈ merge lt X Y → z ∈ X ∨ z ∈ Y := by
    intro X
    induction X with
    | nil => intro Y z hz; rw [merge_nil_left] at hz; exact .inr hz
    | cons x X ih =>
      intro Y
      induction Y with
      | nil => intro z hz; rw [merge_nil_right] at hz; exact .inl hz
      | cons y Y ih2 =>
        intro z hz
        rw [merge_cons] at hz
        split at hz
        · rcases List.mem_cons.1 hz with rfl | hz
          · simp
          · rcases ih2 z hz with h | h
            · exact .inl h
            · exact .inr (by simp [h])
        · rcases List.mem_cons.1 hz with rfl | hz
          · simp
          · rcases ih _ z hz with h | h
            · exact .inl (by simp [h])
            · exact .inr h
theorem merge_isort (W : Weak lt) (X Y : List α) : merge lt (isort lt X) (isort lt Y) = isort lt (X ++ Y) := by
  induction Y using revInd with
  | nil => rw [isort_nil, merge_nil_right, List.append_nil]
  | snoc Y y ih => rw [isort_snoc, merge_ins W _ _ (srt_isort W X) (srt_isort W Y), ih, ← List.append_assoc, isort_snoc]

/-! ### in blocks -/
variable (lt)
def blocks (b : Nat) (l : List α) : List α := if h : l = [] ∨ b = 0 then isort lt l else isort lt (l.take b) ++ blocks b (l.drop b)
termination_by l.length
decreasing_by
  simp only [not_or] at h
  have := List.length_pos_iff.2 h.1
  simp
  omega
variable {lt}
theorem blocks_le (b : Nat) (l : List α) (h : l.length ≤ b) : blocks lt b l = isort lt l := by
  unfold blocks
  split
  · rfl
  · rw [List.take_of_length_le h, List.drop_of_length_le h]
    unfold blocks
    simp [isort_nil]
theorem blocks_step (b : Nat) (l : List α) (hb : 0 < b) (h : b ≤ l.length) : blocks lt b l = isort lt (l.take b) ++ blocks lt b (l.drop b) := by
  conv => lhs; unfold blocks
  rw [dif_neg]
  rintro (rfl | rfl)
  · simp at h; omega
  · omega
theorem length_blocks (b : Nat) (l : List α) : (blocks lt b l).length = l.length := by
  by_cases hb : b = 0
  · subst hb; unfold blocks; simp [length_isort]
  · obtain ⟨n, hn⟩ : ∃ n, n = l.length := ⟨_, rfl⟩
    induction n using Nat.strongRecOn generalizing l with
    | _ n ih =>
      by_cases h : l.length ≤ b
      · rw [blocks_le _ _ h, length_isort]
      · rw [blocks_step _ _ (by omega) (by omega), List.length_append, length_isort, ih (l.drop b).length (by rw [List.length_drop]; omega) _ rfl]
        simp
        omega
end

/-! ### arrays -/
section
variable {α : Type} [Inhabited α] {lt : α → α → Bool}
theorem get_toList (d : Array α) (i : Nat) : d[i]! = d.toList[i]! := by simp [Array.getElem!_eq_getD, Array.getD_eq_getD_getElem?]
theorem get_at {d : Array α} {A B : List α} {x : α} (h : d.toList = A ++ x :: B) {i : Nat} (hi : i = A.length) : d[i]! = x := by
  subst hi
  rw [get_toList, h]
  simp
theorem set_at (A B : List α) (x y : α) : (A ++ x :: B).set A.length y = A ++ y :: B := by
  rw [List.set_append_right _ _ (Nat.le_refl _)]
  simp
theorem swp_lists {d : Array α} {A M B : List α} {x y : α} (h : d.toList = A ++ x :: (M ++ y :: B)) {i j : Nat} (hi : i = A.length) (hj : j = A.length + 1 + M.length) :
    (swp d i j).toList = A ++ y :: (M ++ x :: B) := by
  have e1 : d[i]! = x := get_at h hi
  have h' : d.toList = (A ++ x :: M) ++ y :: B := by rw [h]; simp
  have e2 : d[j]! = y := get_at h' (by rw [hj]; simp; omega)
  unfold swp
  rw [e1, e2, Array.toList_setIfInBounds, Array.toList_setIfInBounds, h, hi, set_at]
  have e3 : A ++ y :: (M ++ y :: B) = (A ++ y :: M) ++ y :: B := by simp
  have e4 : j = (A ++ y :: M).length := by rw [hj]; simp; omega
  rw [e3, e4, set_at]
  simp
theorem swp_lists' {d : Array α} {A M B : List α} {x y : α} (h : d.toList = A ++ x :: (M ++ y :: B)) {i j : Nat} (hi : i = A.length) (hj : j = A.length + 1 + M.length) :
    (swp d j i).toList = A ++ y :: (M ++ x :: B) := by
  have e1 : d[i]! = x := get_at h hi
  have h' : d.toList = (A ++ x :: M) ++ y :: B := by rw [h]; simp
  have e2 : d[j]! = y := get_at h' (by rw [hj]; simp; omega)
  unfold swp
  have e4 : j = (A ++ x :: M).length := by rw [hj]; simp; omega
  rw [e1, e2, Array.toList_setIfInBounds, Array.toList_setIfInBounds, h', e4, set_at, hi]
  have e3 : (A ++ x :: M) ++ x :: B = A ++ x :: (M ++ x :: B) := by simp
  rw [e3, set_at]

theorem insInner_list (A P B : List α) (x : α) (d : Array α) (h : d.toList = A ++ (P ++ x :: B)) {j : Nat} (hj : j = A.length + P.length) :
    (insInner lt A.length j d).toList = A ++ (ins lt P x ++ B) := by
  induction P using revInd generalizing B d j with
  | nil =>
    simp at hj
    rw [insInner_stop _ _ _ _ (Or.inl (by omega)), h]
    rfl
  | snoc P y ih =>
    simp at hj
    have hd : d.toList = (A ++ P) ++ y :: ([] ++ x :: B) := by rw [h]; simp
    have hd2 : d.toList = (A ++ P ++ [y]) ++ x :: B := by rw [h]; simp
    have g1 : d[j]! = x := get_at hd2 (by simp; omega)
    have g2 : d[j - 1]! = y := get_at hd (by simp; omega)
    cases hl : lt x y
    · rw [insInner_stop _ _ _ _ (Or.inr (by rw [g1, g2]; exact hl)), ins_no _ _ _ hl, h]
      simp
    · rw [insInner_go _ _ _ _ (by omega) (by rw [g1, g2]; exact hl)]
      have hs := swp_lists' hd (i := j - 1) (j := j) (by simp; omega) (by simp; omega)
      rw [ih (y :: B) (swp d j (j - 1)) (by rw [hs]; simp) (by omega), ins_yes _ _ _ hl]
      simp
theorem insOuter_list (A S Y B : List α) (d : Array α) (h : d.toList = A ++ (S ++ (Y ++ B))) {i b : Nat} (hi : i = A.length + S.length) (hb : b = i + Y.length) :
    (insOuter lt A.length b i d).toList = A ++ (Y.foldl (ins lt) S ++ B) := by
  induction Y generalizing S d i with
  | nil => rw [insOuter_stop _ _ _ _ _ (by simp at hb; omega), h]; simp
  | cons y Y ih =>
    rw [insOuter_go _ _ _ _ _ (by simp at hb; omega)]
    have h1 := insInner_list (lt := lt) A S (Y ++ B) y d (by rw [h]; simp) hi
    rw [ih (ins lt S y) _ (by rw [h1]) (by rw [length_ins]; omega) (by simp at hb; omega)]
    rfl
theorem insertionSort_list (A X B : List α) (d : Array α) (h : d.toList = A ++ (X ++ B)) {a b : Nat} (ha : a = A.length) (hb : b = A.length + X.length) :
    (insertionSort lt d a b).toList = A ++ (isort lt X ++ B) := by
  subst ha
  unfold insertionSort
  cases X with
  | nil => rw [insOuter_stop _ _ _ _ _ (by simp at hb; omega), h]; rfl
  | cons x X =>
    rw [insOuter_list A [x] X B d (by rw [h]; simp) (by simp) (by simp at hb; omega)]
    rfl
end
end Go.Proofs.Ytkhdghlgkljdgaa.SortPure
