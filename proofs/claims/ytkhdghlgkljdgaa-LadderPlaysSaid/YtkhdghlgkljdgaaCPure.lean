/- The calendar's days as parts of one list in order. No law is proved here. -/
import Derived.Test.YtkhdghlgkljdgaaRef02H
namespace Go.Proofs.Ytkhdghlgkljdgaa.CQ
open Go.Proofs Go.RowKit Go.Proofs.Ytkhdghlgkljdgaa.SortPure Go.Proofs.Ytkhdghlgkljdgaa.Types Go.Proofs.Ytkhdghlgkljdgaa.Ord Go.Proofs.Ytkhdghlgkljdgaa.Sorted
set_option linter.unusedVariables false
set_option linter.unusedSimpArgs false
abbrev isOf (x y : Int) (m : M) : Prop := m.f0.f1 = x ∧ m.f3 = y
/-- No two of one sending. -/
def Uq (l : List M) : Prop := l.Pairwise (fun a b => ¬ isOf a.f0.f1 a.f3 b)
theorem isOf_symm {x y : M} (h : isOf x.f0.f1 x.f3 y) : isOf y.f0.f1 y.f3 x := ⟨h.1.symm, h.2.symm⟩
theorem Uq.perm {a b : List M} (h : a.Perm b) : Uq a ↔ Uq b := List.Perm.pairwise_iff (fun h q => h (isOf_symm q)) h
theorem Uq.eq {l : List M} (h : Uq l) {x y : M} (hx : x ∈ l) (hy : y ∈ l) (e : isOf x.f0.f1 x.f3 y) : x = y := by
  obtain ⟨i, hi, rfl⟩ := List.getElem_of_mem hx
  obtain ⟨j, hj, rfl⟩ := List.getElem_of_mem hy
  have hp := List.pairwise_iff_getElem.1 h
  rcases Nat.lt_trichotomy i j with q | q | q
  · exact absurd e (hp i j hi hj q)
  · subst q; rfl
  · exact absurd (isOf_symm e) (hp j i hj hi q)
theorem Uq.idx {l : List M} (h : Uq l) {x y : Int} {i j : Nat} (hi : i < l.length) (hj : j < l.length) (h1 : isOf x y l[i]) (h2 : isOf x y l[j]) : i = j := by
  have hp := List.pairwise_iff_getElem.1 h
  rcases Nat.lt_trichotomy i j with q | q | q
  · exact absurd ⟨h2.1.trans h1.1.symm, h2.2.trans h1.2.symm⟩ (hp i j hi hj q)
  · exact q
  · exact absurd ⟨h1.1.trans h2.1.symm, h1.2.trans h2.2.symm⟩ (hp j i hj hi q)
theorem befM_irr (z : M) : befM z z = false := by
  cases h : befM z z
  · rfl
  · have := weakM.asym _ _ h; rw [h] at this; cases this
theorem alike_of {x y : M} (h1 : befM x y = false) (h2 : befM y x = false) : isOf x.f0.f1 x.f3 y := by
  have n1 : ¬ (x.f0.f0 < y.f0.f0 ∨ (x.f0.f0 = y.f0.f0 ∧ (x.f0.f1 < y.f0.f1 ∨ (x.f0.f1 = y.f0.f1 ∧ (x.f0.f2 < y.f0.f2 ∨ (x.f0.f2 = y.f0.f2 ∧ x.f3 < y.f3)))))) := fun q => by rw [(befM_iff x y).2 q] at h1; cases h1
  have n2 : ¬ (y.f0.f0 < x.f0.f0 ∨ (y.f0.f0 = x.f0.f0 ∧ (y.f0.f1 < x.f0.f1 ∨ (y.f0.f1 = x.f0.f1 ∧ (y.f0.f2 < x.f0.f2 ∨ (y.f0.f2 = x.f0.f2 ∧ y.f3 < x.f3)))))) := fun q => by rw [(befM_iff y x).2 q] at h2; cases h2
  exact ⟨by omega, by omega⟩
/-- In order, the same bag, no two of one sending: the same list. -/
theorem srt_uq_eq : ∀ {a b : List M}, Srt befM a → Srt befM b → a.Perm b → Uq a → a = b
  | [], b, _, _, hp, _ => hp.nil_eq
  | x :: a, [], _, _, hp, _ => by have := hp.length_eq; simp at this
  | x :: a, y :: b, ha, hb, hp, hu => by
    have h1 : befM y x = false := by
      rcases List.mem_cons.1 (hp.mem_iff.2 (List.mem_cons_self (a := y) (l := b))) with e | e
      · rw [e]; exact befM_irr x
      · exact (srt_cons.1 ha).1 _ e
    have h2 : befM x y = false := by
      rcases List.mem_cons.1 (hp.mem_iff.1 (List.mem_cons_self (a := x) (l := a))) with e | e
      · rw [e]; exact befM_irr y
      · exact (srt_cons.1 hb).1 _ e
    have e : x = y := hu.eq List.mem_cons_self (hp.mem_iff.2 List.mem_cons_self) (alike_of h2 h1)
    subst e
    rw [srt_uq_eq (srt_cons.1 ha).2 (srt_cons.1 hb).2 hp.cons_inv (List.pairwise_cons.1 hu).2]
/-- The messages of a day. -/
def row (wd : Int) (sl : List M) (d : Int) : List M := sl.filter (fun m => m.f0.f0 / wd == d)
theorem mem_row {wd : Int} {sl : List M} {d : Int} {m : M} : m ∈ row wd sl d ↔ m ∈ sl ∧ m.f0.f0 / wd = d := by simp [row]
theorem row_le (wd : Int) (sl : List M) (d : Int) : (row wd sl d).length ≤ sl.length := List.length_filter_le _ _
theorem row_srt {wd : Int} {sl : List M} (h : Srt befM sl) (d : Int) : Srt befM (row wd sl d) := List.Pairwise.filter _ h
theorem row_uq {wd : Int} {sl : List M} (h : Uq sl) (d : Int) : Uq (row wd sl d) := List.Pairwise.filter _ h
/-- A list in order, one put in, and a part of it. -/
theorem ins_filter {sl : List M} (h : Srt befM sl) (m : M) (p : M → Bool) : (ins befM sl m).filter p = if p m = true then ins befM (sl.filter p) m else sl.filter p := by
  obtain ⟨l1, l2, rfl, h1, h2⟩ := h.part weakM m
  rw [ins_split l1 l2 m h1 h2, List.filter_append, List.filter_cons, List.filter_append]
  split
  · rw [ins_split (l1.filter p) (l2.filter p) m (fun y hy => h1 y (List.mem_filter.1 hy).1) (fun y hy => h2 y (List.mem_filter.1 hy).1)]
  · rfl
theorem row_ins {wd : Int} {sl : List M} (h : Srt befM sl) (m : M) (d : Int) : row wd (ins befM sl m) d = if m.f0.f0 / wd = d then ins befM (row wd sl d) m else row wd sl d := by
  unfold row
  rw [ins_filter h]
  simp
/-- How many are ahead: none of those is behind. -/
theorem ahead_ok {l : List M} (h : Srt befM l) (m : M) {i : Nat} (hi : i < l.length) (hk : i < (l.filter (befM · m)).length) : befM m l[i] = false := by
  obtain ⟨l1, l2, rfl, h1, h2⟩ := h.part weakM m
  have e : l2.filter (befM · m) = [] := by
    rw [List.filter_eq_nil_iff]
    intro y hy q
    have := weakM.asym _ _ (h2 y hy)
    rw [this] at q
    cases q
  rw [List.filter_append, e, List.append_nil] at hk
  have hl : i < l1.length := Nat.lt_of_lt_of_le hk (List.length_filter_le _ _)
  rw [List.getElem_append_left hl]
  exact h1 _ (List.getElem_mem hl)
/-- The place found: what is put in there. -/
theorem ins_at {l : List M} (h : Srt befM l) (m : M) {k : Nat} (hk : k ≤ l.length) (h1 : ∀ i (hi : i < l.length), i < k → befM m l[i] = false) (h2 : ∀ hk : k < l.length, befM m l[k] = true) : ins befM l m = l.take k ++ m :: l.drop k := by
  have hs : l = l.take k ++ l.drop k := (List.take_append_drop k l).symm
  have q1 : ∀ y ∈ l.take k, befM m y = false := by
    intro y hy
    obtain ⟨i, hi, rfl⟩ := List.getElem_of_mem hy
    have hi' : i < k ∧ i < l.length := by rw [List.length_take] at hi; omega
    rw [List.getElem_take]
    exact h1 i hi'.2 hi'.1
  have q2 : ∀ y ∈ l.drop k, befM m y = true := by
    intro y hy
    obtain ⟨i, hi, rfl⟩ := List.getElem_of_mem hy
    have hi' : k + i < l.length := by rw [List.length_drop] at hi; omega
    have hk' : k < l.length := by omega
    rw [List.getElem_drop]
    have hb := h2 hk'
    rcases Nat.eq_zero_or_pos i with e | e
    · subst e; exact hb
    · have hp := List.pairwise_iff_getElem.1 h k (k + i) hk' hi' (by omega)
      cases q : befM m l[k + i]
      · have := weakM.tr _ _ _ q hp
        rw [this] at hb
        cases hb
      · rfl
  have := ins_split _ _ m q1 q2
  rwa [← hs] at this
/-- Those of another sending. -/
def oth (x y : Int) (m : M) : Bool := !(m.f0.f1 == x && m.f3 == y)
theorem oth_false {x y : Int} {m : M} : oth x y m = false ↔ isOf x y m := by simp [oth, isOf]
theorem oth_true {x y : Int} {m : M} : oth x y m = true ↔ ¬ isOf x y m := by
  rw [← oth_false]
  cases oth x y m <;> simp
theorem erase_filter {l : List M} (h : Uq l) {x y : Int} : ∀ {k : Nat} (hk : k < l.length), isOf x y l[k] → l.eraseIdx k = l.filter (oth x y) := by
  intro k hk hi
  have hp := List.pairwise_iff_getElem.1 h
  rw [List.eraseIdx_eq_take_drop_succ]
  conv => rhs; rw [list_at l hk]
  rw [List.filter_append, List.filter_cons, if_neg (by rw [oth_false.2 hi]; simp)]
  congr 1
  · symm
    rw [List.filter_eq_self]
    intro z hz
    obtain ⟨i, hi2, rfl⟩ := List.getElem_of_mem hz
    rw [List.getElem_take, oth_true]
    intro q
    have hi3 : i < k := by rw [List.length_take] at hi2; omega
    have := h.idx (by omega) hk q hi
    omega
  · symm
    rw [List.filter_eq_self]
    intro z hz
    obtain ⟨i, hi2, rfl⟩ := List.getElem_of_mem hz
    rw [List.getElem_drop, oth_true]
    intro q
    have := h.idx (by rw [List.length_drop] at hi2; omega) hk q hi
    omega
theorem row_oth (wd : Int) (sl : List M) (x y : Int) (d : Int) : row wd (sl.filter (oth x y)) d = (row wd sl d).filter (oth x y) := by
  simp only [row, List.filter_filter, Bool.and_comm]
theorem filter_oth_none {l : List M} {x y : Int} (h : ∀ m ∈ l, ¬ isOf x y m) : l.filter (oth x y) = l := List.filter_eq_self.2 (fun m hm => oth_true.2 (h m hm))
/-- The days in time. -/
theorem day_le {wd : Int} (hw : 0 < wd) {x y : M} (h : befM y x = false) : x.f0.f0 / wd ≤ y.f0.f0 / wd := by
  have : x.f0.f0 ≤ y.f0.f0 := by
    rcases Int.lt_or_le y.f0.f0 x.f0.f0 with q | q
    · rw [(befM_iff y x).2 (.inl q)] at h; cases h
    · exact q
  exact Int.ediv_le_ediv hw this
theorem first_day {wd : Int} (hw : 0 < wd) {z : M} {s : List M} (h : Srt befM (z :: s)) {d : Int} (hd : row wd (z :: s) d ≠ []) : z.f0.f0 / wd ≤ d := by
  obtain ⟨y, hy⟩ := List.exists_mem_of_ne_nil _ hd
  obtain ⟨h1, h2⟩ := mem_row.1 hy
  rw [← h2]
  rcases List.mem_cons.1 h1 with e | e
  · rw [e]; exact Int.le_refl _
  · exact day_le hw ((srt_cons.1 h).1 y e)
theorem first_row (wd : Int) (z : M) (s : List M) : row wd (z :: s) (z.f0.f0 / wd) = z :: row wd s (z.f0.f0 / wd) := by simp [row]
end Go.Proofs.Ytkhdghlgkljdgaa.CQ
