/- Two heaps beside one another. No law is proved here. -/
import Derived.Test.YtipgigbnfdgfmaaHI
namespace Go.Proofs.Ytipgigbnfdgfmaa.HQ
open Go.Proofs Go.Shelf Go.RowKit Go.Deep Go.Sort Go.Proofs.Ytipgigbnfdgfmaa.SortPure Go.Proofs.Ytipgigbnfdgfmaa.Types Go.Proofs.Ytipgigbnfdgfmaa.Heap Go.Proofs.Ytipgigbnfdgfmaa.Row Go.Proofs.Ytipgigbnfdgfmaa.Ord Go.Proofs.Ytipgigbnfdgfmaa.Sorted Go.Proofs.Ytipgigbnfdgfmaa.HU Go.Proofs.YtipgigbnfdgfmaaW.PrintWords Go.Proofs.YtipgigbnfdgfmaaW.PrintLast Go.Proofs.YtipgigbnfdgfmaaW.PrintMore
set_option linter.unusedVariables false
set_option linter.unusedSimpArgs false
/-- Two heaps, at gq and gp; the blocks of X are no one's of theirs. -/
structure Two (X : Nat → Prop) (F : Nat) (w0 w : World) (gq gp : Nat) (lq lp : List M) : Prop where
  at_ : ∃ (A : Option Addr) (c : Nat) (A' : Option Addr) (c' : Nat), QAt w F gq (.slice A lq.length c) lq ∧ QAt w F gp (.slice A' lp.length c') lp ∧ (∀ b, (Value.slice A lq.length c).ownBlock = some b → (Value.slice A' lp.length c').ownBlock ≠ some b) ∧ (∀ x, X x → (Value.slice A lq.length c).ownBlock ≠ some x ∧ (Value.slice A' lp.length c').ownBlock ≠ some x)
  ne : gq ≠ gp
  prot : ∀ x, X x → x ≠ gq ∧ x ≠ gp ∧ x < w.heap.size
  bel : Below w0.heap.size w0 w
  fF : w0.heap.size ≤ F
  fq : w0.heap.size ≤ gq
  fp : w0.heap.size ≤ gp
  sz : F ≤ w.heap.size
section
variable {X : Nat → Prop} {F gq gp : Nat} {w0 w w' : World} {lq lp : List M}
theorem Two.swap (h : Two X F w0 w gq gp lq lp) : Two X F w0 w gp gq lp lq := by
  obtain ⟨A, c, A', c', h1, h2, h3, h4⟩ := h.at_
  exact ⟨⟨A', c', A, c, h2, h1, fun b hb e => h3 b e hb, fun x hx => ⟨(h4 x hx).2, (h4 x hx).1⟩⟩, fun e => h.ne e.symm, fun x hx => ⟨(h.prot x hx).2.1, (h.prot x hx).1, (h.prot x hx).2.2⟩, h.bel, h.fF, h.fp, h.fq, h.sz⟩
theorem Two.below (h : Two X F w0 w gq gp lq lp) (hb : Below w.heap.size w w') : Two X F w0 w' gq gp lq lp := by
  obtain ⟨A, c, A', c', h1, h2, h3, h4⟩ := h.at_
  exact ⟨⟨A, c, A', c', h1.below hb, h2.below hb, h3, h4⟩, h.ne, fun x hx => ⟨(h.prot x hx).1, (h.prot x hx).2.1, Nat.lt_of_lt_of_le (h.prot x hx).2.2 hb.size⟩, below_step h.bel hb, h.fF, h.fq, h.fp, Nat.le_trans h.sz hb.size⟩
/-- A block that lies behind all that was. -/
theorem Two.add (h : Two X F w0 w gq gp lq lp) (o : Obj) : Two (fun x => X x ∨ x = w.heap.size) F w0 (w.alloc o) gq gp lq lp := by
  have h' := h.below ((Below.refl w.heap.size w).alloc (Nat.le_refl _) o)
  obtain ⟨A, c, A', c', h1, h2, h3, h4⟩ := h.at_
  have hb := (Below.refl w.heap.size w).alloc (Nat.le_refl _) o
  refine ⟨⟨A, c, A', c', h1.below hb, h2.below hb, h3, fun x hx => ?_⟩, h.ne, fun x hx => ?_, h'.bel, h.fF, h.fq, h.fp, h'.sz⟩
  · rcases hx with e | e
    · exact h4 x e
    · subst e
      exact ⟨fun e => by have := (h1.own.blk _ e).2; omega, fun e => by have := (h2.own.blk _ e).2; omega⟩
  · rcases hx with e | e
    · exact ⟨(h.prot x e).1, (h.prot x e).2.1, by have := (h.prot x e).2.2; simp; omega⟩
    · subst e
      exact ⟨by have := h1.blk.lt; omega, by have := h2.blk.lt; omega, by simp⟩
theorem Two.less {Y : Nat → Prop} (h : Two X F w0 w gq gp lq lp) (hY : ∀ x, Y x → X x) : Two Y F w0 w gq gp lq lp := by
  obtain ⟨A, c, A', c', h1, h2, h3, h4⟩ := h.at_
  exact ⟨⟨A, c, A', c', h1, h2, h3, fun x hx => h4 x (hY x hx)⟩, h.ne, fun x hx => h.prot x (hY x hx), h.bel, h.fF, h.fq, h.fp, h.sz⟩
/-- A store into a block of X. -/
theorem Two.set_ (h : Two X F w0 w gq gp lq lp) {p : Addr} (hp : X p.block) (h0 : w0.heap.size ≤ p.block) (u : Value) : Two X F w0 (w.setCell p u) gq gp lq lp := by
  obtain ⟨A, c, A', c', h1, h2, h3, h4⟩ := h.at_
  have hs : (w.setCell p u).heap.size = w.heap.size := by simp [World.setCell]
  refine ⟨⟨A, c, A', c', h1.far (fun e => (h.prot _ hp).1 e.symm) (h4 _ hp).1 u, h2.far (fun e => (h.prot _ hp).2.1 e.symm) (h4 _ hp).2 u, h3, h4⟩, h.ne, fun x hx => by rw [hs]; exact h.prot x hx, h.bel.setCell h0 u, h.fF, h.fq, h.fp, by rw [hs]; exact h.sz⟩
/-- What a call on the heap at gq leaves. -/
theorem two_of {A A1 : Option Addr} {c c1 : Nat} {l1 : List M} (h : Two X F w0 w gq gp lq lp) (hQ : QAt w F gq (.slice A lq.length c) lq) {A' : Option Addr} {c' : Nat} (hP : QAt w F gp (.slice A' lp.length c') lp) (hd : ∀ b, (Value.slice A lq.length c).ownBlock = some b → (Value.slice A' lp.length c').ownBlock ≠ some b) (hX : ∀ x, X x → (Value.slice A lq.length c).ownBlock ≠ some x ∧ (Value.slice A' lp.length c').ownBlock ≠ some x)
    (hQ1 : QAt w' F gq (.slice A1 l1.length c1) l1) (hO : Only w w' (fun b => b = gq ∨ (Value.slice A lq.length c).ownBlock = some b)) (hn : ∀ b, (Value.slice A1 l1.length c1).ownBlock = some b → (Value.slice A lq.length c).ownBlock = some b ∨ w.heap.size ≤ b) :
    Two X F w0 w' gq gp l1 lp ∧ ∀ x, X x → w'.heap[x]? = w.heap[x]? := by
  refine ⟨⟨⟨A1, c1, A', c', hQ1, ⟨hP.blk.only hO (fun e => ?_), hP.own.only hO (fun b hb e => ?_)⟩, fun b hb e => ?_, fun x hx => ⟨fun e => ?_, (hX x hx).2⟩⟩, h.ne, fun x hx => ⟨(h.prot x hx).1, (h.prot x hx).2.1, Nat.lt_of_lt_of_le (h.prot x hx).2.2 hO.size⟩, h.bel.trans (hO.below h.bel.size (fun b e => ?_)), h.fF, h.fq, h.fp, Nat.le_trans h.sz hO.size⟩, fun x hx => hO.block x (h.prot x hx).2.2 (fun e => ?_)⟩
  · rcases e with e | e
    · exact h.ne e.symm
    · exact own_blk_ne hQ.own hP.blk (by decide) e
  · rcases e with e | e
    · exact own_blk_ne hP.own hQ.blk (by decide) (e ▸ hb)
    · exact hd b e hb
  · rcases hn b hb with q | q
    · exact hd b q e
    · have := (hP.own.blk b e).2; omega
  · rcases hn x e with q | q
    · exact (hX x hx).1 q
    · have := (h.prot x hx).2.2; omega
  · rcases e with e | e
    · rw [e]; exact h.fq
    · exact Nat.le_trans h.fF (hQ.own.blk b e).1
  · rcases e with e | e
    · exact (h.prot x hx).1 e
    · exact (hX x hx).1 e
theorem two_push (h : Two X F w0 w gq gp lq lp) (m : M) (hl : lq.length < 16384) (hn : ∀ x ∈ lq, ¬ isOf m.f0.f1 m.f3 x) : Calls Try.prog 9 #[.pointer (some ⟨gq, 0, none⟩), .agg (cM m).toArray] w fun e w' => e = .returned (.int .i64 0) ∧ Two X F w0 w' gq gp (pushL lq m) lp ∧ ∀ x, X x → w'.heap[x]? = w.heap[x]? := by
  obtain ⟨A, c, A', c', h1, h2, h3, h4⟩ := h.at_
  refine (push_new w F gq A c lq m h1 hl h.sz hn).mono ?_
  rintro e w' ⟨rfl, A1, c1, hq, ho, hf⟩
  exact ⟨rfl, two_of h h1 h2 h3 h4 hq ho hf⟩
theorem two_cut_bag (h : Two X F w0 w gq gp lq lp) (x : M) (R : List M) (hl : lq.length ≤ 16384) (hB : Bag lq x R) (hH : Hq lq) : Calls Try.prog 11 #[.pointer (some ⟨gq, 0, none⟩), .int .i64 x.f0.f1, .int .i64 x.f3] w fun e w' => e = .returned (.tuple #[.agg (cM x).toArray, .int .i64 0]) ∧ (∃ l', Two X F w0 w' gq gp l' lp ∧ l'.Perm R ∧ Hq l') ∧ ∀ y, X y → w'.heap[y]? = w.heap[y]? := by
  obtain ⟨A, c, A', c', h1, h2, h3, h4⟩ := h.at_
  refine (cut_some w F gq A c lq x.f0.f1 x.f3 h1 hl ⟨x, hB.mem, rfl, rfl⟩).mono ?_
  rintro e w' ⟨k, hk, hi, rfl, hq, ho⟩
  obtain ⟨e1, e2⟩ := hB.cut hk hi (cutL_perm lq k hk)
  obtain ⟨q1, q2⟩ := two_of h h1 h2 h3 h4 hq ho (fun b hb => .inl (by cases A <;> exact hb))
  exact ⟨by rw [e1], ⟨_, q1, e2, hq_cut hH k hk⟩, q2⟩
theorem two_cut_none (h : Two X F w0 w gq gp lq lp) (x y : Int) (hl : lq.length ≤ 16384) (hn : ∀ m ∈ lq, ¬ isOf x y m) : Calls Try.prog 11 #[.pointer (some ⟨gq, 0, none⟩), .int .i64 x, .int .i64 y] w fun e w' => e = .returned (.tuple #[zA, .int .i64 6]) ∧ Two X F w0 w' gq gp lq lp ∧ Below w.heap.size w w' := by
  obtain ⟨A, c, A', c', h1, h2, h3, h4⟩ := h.at_
  refine (cut_none w F gq A c lq x y h1 hl hn).mono ?_
  rintro e w' ⟨rfl, hb⟩
  exact ⟨rfl, h.below hb, hb⟩
theorem two_qs (h : Two X F w0 w gq gp lq lp) : Qs F w0 w gq lq := by
  obtain ⟨A, c, A', c', h1, h2, h3, h4⟩ := h.at_
  exact ⟨⟨A, c, h1⟩, h.bel, h.fF, h.fq, h.sz⟩
end
/-- In order, the same bag, no two of one number: the same list. -/
theorem srt_perm_eq : ∀ {a b : List M}, Srt befM a → Srt befM b → a.Perm b → (∀ x ∈ a, ∀ y ∈ a, x.f3 = y.f3 → x = y) → a = b
  | [], b, _, _, hp, _ => hp.nil_eq
  | x :: a, [], _, _, hp, _ => by have := hp.length_eq; simp at this
  | x :: a, y :: b, ha, hb, hp, hu => by
    have irr : ∀ z : M, befM z z = false := fun z => by
      cases h : befM z z
      · rfl
      · have := weakM.asym _ _ h; rw [h] at this; cases this
    have h1 : befM y x = false := by
      rcases List.mem_cons.1 (hp.mem_iff.2 (List.mem_cons_self (a := y) (l := b))) with e | e
      · rw [e]; exact irr x
      · exact (srt_cons.1 ha).1 _ e
    have h2 : befM x y = false := by
      rcases List.mem_cons.1 (hp.mem_iff.1 (List.mem_cons_self (a := x) (l := a))) with e | e
      · rw [e]; exact irr y
      · exact (srt_cons.1 hb).1 _ e
    have e : x = y := hu x List.mem_cons_self y (hp.mem_iff.2 List.mem_cons_self) (alike_uid h2 h1).2
    subst e
    rw [srt_perm_eq (srt_cons.1 ha).2 (srt_cons.1 hb).2 hp.cons_inv (fun p hp q hq => hu p (List.mem_cons_of_mem _ hp) q (List.mem_cons_of_mem _ hq))]
end Go.Proofs.Ytipgigbnfdgfmaa.HQ
