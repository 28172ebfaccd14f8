/- The heap's list as a bag: what is in it behind Push and Cut. No law is proved here. -/
import Derived.Test.YtipgigbnfdgfmaaHD
import Derived.Test.YtipgigbnfdgfmaaHPure
namespace Go.Proofs.Ytipgigbnfdgfmaa.HQ
open Go.Proofs Go.Shelf Go.RowKit Go.Deep Go.Sort Go.Proofs.Ytipgigbnfdgfmaa.Types Go.Proofs.Ytipgigbnfdgfmaa.Heap Go.Proofs.Ytipgigbnfdgfmaa.Row Go.Proofs.Ytipgigbnfdgfmaa.Ord Go.Proofs.Ytipgigbnfdgfmaa.Sorted Go.Proofs.Ytipgigbnfdgfmaa.HU Go.Proofs.YtipgigbnfdgfmaaW.PrintWords Go.Proofs.YtipgigbnfdgfmaaW.PrintLast Go.Proofs.YtipgigbnfdgfmaaW.PrintMore
set_option linter.unusedVariables false
set_option linter.unusedSimpArgs false
theorem push_perm (l : List M) (m : M) : (upA befM (l ++ [m]).toArray l.length).toList.Perm (m :: l) := by
  refine (up_perm befM l.length _ (by simp)).trans ?_
  simp only [List.toList_toArray]
  exact List.perm_append_comm
theorem get_cons_erase {α : Type} (l : List α) : ∀ (k : Nat) (hk : k < l.length), (l[k] :: l.eraseIdx k).Perm l := by
  induction l with
  | nil => intro k hk; simp at hk
  | cons a l ih =>
    intro k hk
    cases k with
    | zero => exact List.Perm.refl _
    | succ k => exact (List.Perm.swap a (l[k]'(by simpa using hk)) (l.eraseIdx k)).trans ((ih k (by simpa using hk)).cons a)
theorem set_cons_erase {α : Type} (l : List α) : ∀ (k : Nat) (hk : k < l.length) (y : α), (l.set k y).Perm (y :: l.eraseIdx k) := by
  induction l with
  | nil => intro k hk; simp at hk
  | cons a l ih =>
    intro k hk y
    cases k with
    | zero => exact List.Perm.refl _
    | succ k => exact ((ih k (by simpa using hk) y).cons a).trans (List.Perm.swap y a (l.eraseIdx k))
theorem take_set_perm (l : List M) (i : Nat) (hi : i < l.length) : ((l.set i (l[l.length - 1]?.getD default)).take (l.length - 1)).Perm (l.eraseIdx i) := by
  obtain ⟨p, y, rfl⟩ : ∃ p y, l = p ++ [y] := by
    rcases List.eq_nil_or_concat l with e | ⟨p, y, e⟩
    · rw [e] at hi; simp at hi
    · exact ⟨p, y, by rw [e, List.concat_eq_append]⟩
  have hy : (p ++ [y])[(p ++ [y]).length - 1]?.getD default = y := by simp
  rw [hy]
  have hn : (p ++ [y]).length - 1 = p.length := by simp
  rw [hn]
  by_cases e : i < p.length
  · rw [List.set_append_left _ _ e, List.take_append_of_le_length (by rw [List.length_set]; exact Nat.le_refl _), List.take_of_length_le (by rw [List.length_set]; exact Nat.le_refl _), List.eraseIdx_append_of_lt_length e]
    exact (set_cons_erase _ _ e y).trans (List.perm_append_comm (l₁ := [y]))
  · have hi2 : i = p.length := by simp at hi; omega
    subst hi2
    rw [List.set_append_right _ _ (Nat.le_refl _), Nat.sub_self, List.take_left', List.eraseIdx_append_of_length_le (Nat.le_refl _), Nat.sub_self]
    · simp
    · rfl
theorem cutL_perm (l : List M) (i : Nat) (hi : i < l.length) : (cutL l i).Perm (l.eraseIdx i) := by
  have hl : ((l.set i (l[l.length - 1]?.getD default)).take (l.length - 1)).toArray.size = l.length - 1 := by simp
  unfold cutL
  split
  · rename_i h
    refine (up_perm befM i _ ?_).trans ((down_perm befM _ i _ rfl ?_).trans (take_set_perm l i hi))
    · rw [size_downA befM _ _ _ rfl, hl]; exact h
    · rw [hl]; exact h
  · exact take_set_perm l i hi
/-- The bag holds x once of its sending, and R besides. -/
def Bag (l : List M) (x : M) (R : List M) : Prop := l.Perm (x :: R) ∧ ∀ m ∈ R, ¬ isOf x.f0.f1 x.f3 m
theorem Bag.mem {l : List M} {x : M} {R : List M} (h : Bag l x R) : x ∈ l := h.1.mem_iff.2 (List.mem_cons_self)
theorem Bag.len {l : List M} {x : M} {R : List M} (h : Bag l x R) : l.length = R.length + 1 := by rw [h.1.length_eq]; rfl
theorem Bag.push {l l' : List M} {x m : M} {R : List M} (h : Bag l x R) (hl : l'.Perm (m :: l)) (hm : ¬ isOf x.f0.f1 x.f3 m) : Bag l' x (m :: R) :=
  ⟨hl.trans ((h.1.cons m).trans (List.Perm.swap x m R)), fun q hq => by
    rcases List.mem_cons.1 hq with e | e
    · rw [e]; exact hm
    · exact h.2 q e⟩
theorem Bag.cut {l l' : List M} {x : M} {R : List M} (h : Bag l x R) {k : Nat} (hk : k < l.length) (hi : isOf x.f0.f1 x.f3 l[k]) (hl : l'.Perm (l.eraseIdx k)) : l[k] = x ∧ l'.Perm R := by
  have hm : l[k] ∈ x :: R := h.1.mem_iff.1 (List.getElem_mem hk)
  have hx : l[k] = x := by
    rcases List.mem_cons.1 hm with e | e
    · exact e
    · exact absurd hi (h.2 _ e)
  refine ⟨hx, hl.trans ?_⟩
  have q := (get_cons_erase l k hk).trans h.1
  rw [hx] at q
  exact q.cons_inv
def pushL (l : List M) (m : M) : List M := (upA befM (l ++ [m]).toArray l.length).toList
theorem pushL_perm (l : List M) (m : M) : (pushL l m).Perm (m :: l) := push_perm l m
/-- A heap of a law's own: at g; its row lies from block F on; what was there in w0 lies as it lay. -/
structure Qs (F : Nat) (w0 w : World) (g : Nat) (l : List M) : Prop where
  at_ : ∃ (A : Option Addr) (c : Nat), QAt w F g (.slice A l.length c) l
  bel : Below w0.heap.size w0 w
  fF : w0.heap.size ≤ F
  fg : w0.heap.size ≤ g
  sz : F ≤ w.heap.size
section
variable {F g : Nat} {w0 w w' : World} {l : List M}
theorem Qs.below (h : Qs F w0 w g l) (hb : Below w.heap.size w w') : Qs F w0 w' g l := by
  obtain ⟨A, c, q⟩ := h.at_
  exact ⟨⟨A, c, q.below hb⟩, below_step h.bel hb, h.fF, h.fg, Nat.le_trans h.sz hb.size⟩
theorem Qs.drew (h : Qs F w0 w g l) : Qs F w0 w.drew g l := h.below (below_drewN (Below.refl _ _) 1)
theorem Qs.alloc (h : Qs F w0 w g l) (o : Obj) : Qs F w0 (w.alloc o) g l := h.below ((Below.refl _ _).alloc (Nat.le_refl _) _)
theorem Qs.lt (h : Qs F w0 w g l) : g < w.heap.size := by obtain ⟨A, c, q⟩ := h.at_; exact q.blk.lt
/-- Behind a step that changes just the blocks of S. -/
theorem Qs.only {S : Nat → Prop} (h : Qs F w0 w g l) (hO : Only w w' S) (hg : ¬ S g) (hF : ∀ b, F ≤ b → ¬ S b) (h0 : ∀ b, S b → w0.heap.size ≤ b) : Qs F w0 w' g l := by
  obtain ⟨A, c, q⟩ := h.at_
  exact ⟨⟨A, c, q.blk.only hO hg, q.own.only hO (fun b hb => hF b (q.own.blk b hb).1)⟩, h.bel.trans (hO.below h.bel.size h0), h.fF, h.fg, Nat.le_trans h.sz hO.size⟩
theorem qs_of {A : Option Addr} {c : Nat} {l' : List M} {v : Value} (h : Qs F w0 w g l) (hv : ∀ b, v.ownBlock = some b → F ≤ b) (hq : QAt w' F g (.slice A l'.length c) l') (hO : Only w w' (fun b => b = g ∨ v.ownBlock = some b)) : Qs F w0 w' g l' ∧ Only w w' (fun b => b = g ∨ F ≤ b) := by
  have hO' : Only w w' (fun b => b = g ∨ F ≤ b) := hO.mono (fun b hb => by
    rcases hb with e | e
    · exact .inl e
    · exact .inr (hv b e))
  refine ⟨⟨⟨A, c, hq⟩, h.bel.trans (hO'.below h.bel.size (fun b hb => ?_)), h.fF, h.fg, Nat.le_trans h.sz hO.size⟩, hO'⟩
  rcases hb with e | e
  · rw [e]; exact h.fg
  · exact Nat.le_trans h.fF e
theorem qs_new (F : Nat) (w0 w : World) (hb : Below w0.heap.size w0 w) (hF : w0.heap.size ≤ F) (hF2 : F ≤ w.heap.size) : Calls Try.prog 8 #[] w fun e w' => e = .returned (.pointer (some ⟨w.heap.size, 0, none⟩)) ∧ Qs F w0 w' w.heap.size [] ∧ Below w.heap.size w w' := by
  refine (new_call w F).mono ?_
  rintro e w' ⟨rfl, h1, h2⟩
  exact ⟨rfl, ⟨⟨none, 0, h1⟩, below_step hb h2, hF, hb.size, Nat.le_trans hF2 h2.size⟩, h2⟩
theorem qs_push_new (h : Qs F w0 w g l) (m : M) (hl : l.length < 16384) (hn : ∀ x ∈ l, ¬ isOf m.f0.f1 m.f3 x) : Calls Try.prog 9 #[.pointer (some ⟨g, 0, none⟩), .agg (cM m).toArray] w fun e w' => e = .returned (.int .i64 0) ∧ Qs F w0 w' g (pushL l m) ∧ Only w w' (fun b => b = g ∨ F ≤ b) := by
  obtain ⟨A, c, q⟩ := h.at_
  refine (push_new w F g A c l m q hl h.sz hn).mono ?_
  rintro e w' ⟨rfl, A', c', hq, ho, _⟩
  exact ⟨rfl, qs_of h (fun b hb => (q.own.blk b hb).1) hq ho⟩
theorem qs_push_twice (h : Qs F w0 w g l) (m : M) (hl : l.length ≤ 16384) (hn : ∃ x ∈ l, isOf m.f0.f1 m.f3 x) : Calls Try.prog 9 #[.pointer (some ⟨g, 0, none⟩), .agg (cM m).toArray] w fun e w' => e = .returned (.int .i64 8) ∧ Qs F w0 w' g l ∧ Below w.heap.size w w' := by
  obtain ⟨A, c, q⟩ := h.at_
  refine (push_twice w F g A c l m q hl hn).mono ?_
  rintro e w' ⟨rfl, hb⟩
  exact ⟨rfl, h.below hb, hb⟩
theorem qs_len (h : Qs F w0 w g l) : Calls Try.prog 10 #[.pointer (some ⟨g, 0, none⟩)] w fun e w' => e = .returned (.int .i64 (l.length : Nat)) ∧ w' = w := by
  obtain ⟨A, c, q⟩ := h.at_
  exact len_call g w F A c l q
theorem qs_cut_none (h : Qs F w0 w g l) (x y : Int) (hl : l.length ≤ 16384) (hn : ∀ m ∈ l, ¬ isOf x y m) : Calls Try.prog 11 #[.pointer (some ⟨g, 0, none⟩), .int .i64 x, .int .i64 y] w fun e w' => e = .returned (.tuple #[zA, .int .i64 6]) ∧ Qs F w0 w' g l ∧ Below w.heap.size w w' := by
  obtain ⟨A, c, q⟩ := h.at_
  refine (cut_none w F g A c l x y q hl hn).mono ?_
  rintro e w' ⟨rfl, hb⟩
  exact ⟨rfl, h.below hb, hb⟩
/-- Where there is just one of a sending. -/
theorem qs_cut_bag (h : Qs F w0 w g l) (x : M) (R : List M) (hl : l.length ≤ 16384) (hB : Bag l x R) : Calls Try.prog 11 #[.pointer (some ⟨g, 0, none⟩), .int .i64 x.f0.f1, .int .i64 x.f3] w fun e w' => e = .returned (.tuple #[.agg (cM x).toArray, .int .i64 0]) ∧ (∃ l', Qs F w0 w' g l' ∧ l'.Perm R) ∧ Only w w' (fun b => b = g ∨ F ≤ b) := by
  obtain ⟨A, c, q⟩ := h.at_
  refine (cut_some w F g A c l x.f0.f1 x.f3 q hl ⟨x, hB.mem, rfl, rfl⟩).mono ?_
  rintro e w' ⟨k, hk, hi, rfl, hq, ho⟩
  obtain ⟨e1, e2⟩ := hB.cut hk hi (cutL_perm l k hk)
  obtain ⟨q1, q2⟩ := qs_of h (fun b hb => (q.own.blk b hb).1) hq ho
  exact ⟨by rw [e1], ⟨_, q1, e2⟩, q2⟩
end
end Go.Proofs.Ytipgigbnfdgfmaa.HQ
