/- The heap and the reference's heap beside one another. No law is proved here. -/
import Derived.Test.YtipgigbnfdgfmaaHT
import Derived.Test.YtipgigbnfdgfmaaHV
namespace Go.Proofs.Ytipgigbnfdgfmaa.HQ
open Go.Proofs Go.Shelf Go.RowKit Go.Deep Go.Sort Go.Proofs.Ytipgigbnfdgfmaa.SortPure Go.Proofs.Ytipgigbnfdgfmaa.Types Go.Proofs.Ytipgigbnfdgfmaa.Heap Go.Proofs.Ytipgigbnfdgfmaa.Row Go.Proofs.Ytipgigbnfdgfmaa.Ord Go.Proofs.Ytipgigbnfdgfmaa.Sorted Go.Proofs.Ytipgigbnfdgfmaa.HU Go.Proofs.YtipgigbnfdgfmaaW.PrintWords Go.Proofs.YtipgigbnfdgfmaaW.PrintLast Go.Proofs.YtipgigbnfdgfmaaW.PrintMore
set_option linter.unusedVariables false
set_option linter.unusedSimpArgs false
/-- No two of one sending. -/
def Uq (l : List M) : Prop := l.Pairwise (fun a b => ¬ isOf a.f0.f1 a.f3 b)
theorem isOf_symm {x y : M} (h : isOf x.f0.f1 x.f3 y) : isOf y.f0.f1 y.f3 x := ⟨h.1.symm, h.2.symm⟩
theorem Uq.perm {a b : List M} (h : a.Perm b) : Uq a ↔ Uq b := List.Perm.pairwise_iff (fun h q => h (isOf_symm q)) h
theorem Uq.eq {l : List M} (h : Uq l) {x y : M} (hx : x ∈ l) (hy : y ∈ l) (e : isOf x.f0.f1 x.f3 y) : x = y := by
  obtain ⟨i, hi, rfl⟩ := List.getElem_of_mem hx
  obtain ⟨j, hj, rfl⟩ := List.getElem_of_mem hy
  have hp := List.pairwise_iff_getElem.1 h
  rcases Nat.lt_trichotomy i j with q | q | q
  · exact absurd e (hp i j hi hj q)
  · subst q; rfl
  · exact absurd (isOf_symm e) (hp j i hj hi q)
theorem Uq.idx {l : List M} (h : Uq l) {x y : Int} {i j : Nat} (hi : i < l.length) (hj : j < l.length) (h1 : isOf x y l[i]) (h2 : isOf x y l[j]) : i = j := by
  have hp := List.pairwise_iff_getElem.1 h
  rcases Nat.lt_trichotomy i j with q | q | q
  · exact absurd ⟨h2.1.trans h1.1.symm, h2.2.trans h1.2.symm⟩ (hp i j hi hj q)
  · exact q
  · exact absurd ⟨h1.1.trans h2.1.symm, h1.2.trans h2.2.symm⟩ (hp j i hj hi q)
theorem befM_irr (z : M) : befM z z = false := by
  cases h : befM z z
  · rfl
  · have := weakM.asym _ _ h; rw [h] at this; cases this
theorem alike_of {x y : M} (h1 : befM x y = false) (h2 : befM y x = false) : isOf x.f0.f1 x.f3 y := ⟨by rw [(alike_uid h1 h2).1], (alike_uid h1 h2).2.symm⟩
/-- In order, the same bag, no two of one sending: the same list. -/
theorem srt_uq_eq : ∀ {a b : List M}, Srt befM a → Srt befM b → a.Perm b → Uq a → a = b
  | [], b, _, _, hp, _ => hp.nil_eq
  | x :: a, [], _, _, hp, _ => by have := hp.length_eq; simp at this
  | x :: a, y :: b, ha, hb, hp, hu => by
    have h1 : befM y x = false := by
      rcases List.mem_cons.1 (hp.mem_iff.2 (List.mem_cons_self (a := y) (l := b))) with e | e
      · rw [e]; exact befM_irr x
      · exact (srt_cons.1 ha).1 _ e
    have h2 : befM x y = false := by
      rcases List.mem_cons.1 (hp.mem_iff.1 (List.mem_cons_self (a := x) (l := a))) with e | e
      · rw [e]; exact befM_irr y
      · exact (srt_cons.1 hb).1 _ e
    have e : x = y := hu.eq List.mem_cons_self (hp.mem_iff.2 List.mem_cons_self) (alike_of h2 h1)
    subst e
    rw [srt_uq_eq (srt_cons.1 ha).2 (srt_cons.1 hb).2 hp.cons_inv (List.pairwise_cons.1 hu).2]
/-- A heap's list and the reference's. -/
structure St (lq sl : List M) : Prop where
  hq : Hq lq
  srt : Srt befM sl
  perm : sl.Perm lq
  uq : Uq sl
  len : lq.length ≤ 16384
theorem St.nil : St [] [] := ⟨hq_nil, List.Pairwise.nil, List.Perm.refl _, List.Pairwise.nil, by simp⟩
section
variable {lq sl : List M}
theorem St.lens (h : St lq sl) : sl.length = lq.length := h.perm.length_eq
theorem St.all (h : St lq sl) : isort befM lq = sl := (srt_uq_eq h.srt (srt_isort weakM lq) (h.perm.trans (perm_isort lq).symm) h.uq).symm
theorem St.push (h : St lq sl) (m : M) (hl : lq.length < 16384) (hn : ∀ x ∈ lq, ¬ isOf m.f0.f1 m.f3 x) : St (pushL lq m) (ins befM sl m) :=
  ⟨hq_push h.hq m, Srt.ins weakM h.srt m, (perm_ins sl m).trans ((h.perm.cons m).trans (pushL_perm lq m).symm), (Uq.perm (perm_ins sl m)).2 (List.pairwise_cons.2 ⟨fun x hx => hn x (h.perm.mem_iff.1 hx), h.uq⟩), by rw [(pushL_perm lq m).length_eq]; simp; omega⟩
theorem St.first {z : M} {l : List M} (h : St (z :: l) sl) : ∃ s, sl = z :: s := by
  cases sl with
  | nil => have := h.lens; simp at this
  | cons y s =>
    have h1 : befM y z = false := by have := hq_first h.hq (by simp) y (h.perm.mem_iff.1 List.mem_cons_self); exact this
    have h2 : befM z y = false := by
      rcases List.mem_cons.1 (h.perm.mem_iff.2 (List.mem_cons_self (a := z) (l := l))) with e | e
      · rw [e]; exact befM_irr y
      · exact (srt_cons.1 h.srt).1 _ e
    have e : y = z := h.uq.eq List.mem_cons_self (h.perm.mem_iff.2 List.mem_cons_self) (alike_of h1 h2)
    exact ⟨s, by rw [e]⟩
theorem St.cut (h : St lq sl) {x y : Int} {k j : Nat} (hk : k < lq.length) (hj : j < sl.length) (h1 : isOf x y lq[k]) (h2 : isOf x y sl[j]) : lq[k] = sl[j] ∧ St (cutL lq k) (sl.eraseIdx j) := by
  have e : lq[k] = sl[j] := h.uq.eq (h.perm.mem_iff.2 (List.getElem_mem hk)) (List.getElem_mem hj) ⟨h2.1.trans h1.1.symm, h2.2.trans h1.2.symm⟩
  have hp : (sl.eraseIdx j).Perm (lq.eraseIdx k) := by
    have q := ((get_cons_erase sl j hj).trans h.perm).trans (get_cons_erase lq k hk).symm
    rw [e] at q
    exact q.cons_inv
  have hl := h.len
  exact ⟨e, hq_cut h.hq k hk, List.Pairwise.sublist (List.eraseIdx_sublist sl j) h.srt, hp.trans (cutL_perm lq k hk).symm, List.Pairwise.sublist (List.eraseIdx_sublist sl j) h.uq, by rw [(cutL_perm lq k hk).length_eq, List.length_eraseIdx]; split <;> omega⟩
theorem St.pop {z : M} {l s : List M} (h : St (z :: l) (z :: s)) : St (cutL (z :: l) 0) s :=
  (h.cut (x := z.f0.f1) (y := z.f3) (k := 0) (j := 0) (by simp) (by simp) ⟨rfl, rfl⟩ ⟨rfl, rfl⟩).2
end
/-- Both, the heap at g, the reference's at r; the blocks of X are no one's of theirs. -/
structure Both (X : Nat → Prop) (F : Nat) (w0 w : World) (g r : Nat) (lq sl : List M) : Prop where
  at_ : ∃ (A : Option Addr) (c : Nat) (A' : Option Addr) (c' : Nat), QAt w F g (.slice A lq.length c) lq ∧ RAt w F r A' c' sl ∧ (∀ ad, A' = some ad → 0 < sl.length → (Value.slice A lq.length c).ownBlock ≠ some ad.block) ∧ (∀ x, X x → (Value.slice A lq.length c).ownBlock ≠ some x) ∧ (∀ x, X x → ∀ ad, A' = some ad → 0 < sl.length → ad.block ≠ x)
  ne : g ≠ r
  lt : g < F ∧ r < F
  prot : ∀ x, X x → x ≠ g ∧ x ≠ r ∧ x < w.heap.size
  bel : Below w0.heap.size w0 w
  fs : w0.heap.size ≤ g ∧ w0.heap.size ≤ r
  sz : F ≤ w.heap.size
section
variable {X : Nat → Prop} {F g r : Nat} {w0 w w' : World} {lq sl : List M}
theorem Both.below (h : Both X F w0 w g r lq sl) (hb : Below w.heap.size w w') : Both X F w0 w' g r lq sl := by
  obtain ⟨A, c, A', c', h1, h2, h3, h4, h5⟩ := h.at_
  exact ⟨⟨A, c, A', c', h1.below hb, h2.below hb, h3, h4, h5⟩, h.ne, h.lt, fun x hx => ⟨(h.prot x hx).1, (h.prot x hx).2.1, Nat.lt_of_lt_of_le (h.prot x hx).2.2 hb.size⟩, below_step h.bel hb, h.fs, Nat.le_trans h.sz hb.size⟩
/-- A block that lies behind all that was. -/
theorem Both.add (h : Both X F w0 w g r lq sl) (o : Obj) : Both (fun x => X x ∨ x = w.heap.size) F w0 (w.alloc o) g r lq sl := by
  have hb := (Below.refl w.heap.size w).alloc (Nat.le_refl _) o
  have h' := h.below hb
  obtain ⟨A, c, A', c', h1, h2, h3, h4, h5⟩ := h.at_
  refine ⟨⟨A, c, A', c', h1.below hb, h2.below hb, h3, fun x hx => ?_, fun x hx ad e hl => ?_⟩, h.ne, h.lt, fun x hx => ?_, h'.bel, h.fs, h'.sz⟩
  · rcases hx with e | e
    · exact h4 x e
    · subst e
      exact fun e => by have := (h1.own.blk _ e).2; omega
  · rcases hx with q | q
    · exact h5 x q ad e hl
    · subst q
      have := h2.lt ad e hl
      omega
  · rcases hx with e | e
    · exact ⟨(h.prot x e).1, (h.prot x e).2.1, by have := (h.prot x e).2.2; simp; omega⟩
    · subst e
      exact ⟨by have := h1.blk.lt; omega, by have := h2.blk.lt; omega, by simp⟩
theorem Both.less {Y : Nat → Prop} (h : Both X F w0 w g r lq sl) (hY : ∀ x, Y x → X x) : Both Y F w0 w g r lq sl := by
  obtain ⟨A, c, A', c', h1, h2, h3, h4, h5⟩ := h.at_
  exact ⟨⟨A, c, A', c', h1, h2, h3, fun x hx => h4 x (hY x hx), fun x hx => h5 x (hY x hx)⟩, h.ne, h.lt, fun x hx => h.prot x (hY x hx), h.bel, h.fs, h.sz⟩
/-- A store into a block of X. -/
theorem Both.set_ (h : Both X F w0 w g r lq sl) {p : Addr} (hp : X p.block) (h0 : w0.heap.size ≤ p.block) (u : Value) : Both X F w0 (w.setCell p u) g r lq sl := by
  obtain ⟨A, c, A', c', h1, h2, h3, h4, h5⟩ := h.at_
  have hs : (w.setCell p u).heap.size = w.heap.size := by simp [World.setCell]
  refine ⟨⟨A, c, A', c', h1.far (fun e => (h.prot _ hp).1 e.symm) (h4 _ hp) u, h2.only (S := fun b => b = p.block) ((Only.refl w (fun b => b = p.block)).setCell (p := p) (.inl rfl) u) (fun e => (h.prot _ hp).2.1 e.symm) (fun ad e hl q => h5 _ hp ad e hl q), h3, h4, h5⟩, h.ne, h.lt, fun x hx => by rw [hs]; exact h.prot x hx, h.bel.setCell h0 u, h.fs, by rw [hs]; exact h.sz⟩
theorem both_store7 {go : Nat} (h : Both X F w0 w g r lq sl) (hx : X go) (h0 : w0.heap.size ≤ go) (z z' : M) (hO : Blk w go 25 (cM z).toArray) :
    Both X F w0 (w.setCells go 0 (c25 z')) g r lq sl ∧ Blk (w.setCells go 0 (c25 z')) go 25 (cM z').toArray := by
  unfold c25
  simp only [World.setCells, Nat.reduceAdd, Nat.zero_add]
  refine ⟨?_, ?_⟩
  · skip
    have a0 := h.set_ (p := ⟨go, 0, none⟩) (by exact hx) (by exact h0) (.int .i64 z'.f0.f0)
    have a1 := a0.set_ (p := ⟨go, 1, none⟩) (by exact hx) (by exact h0) (.int .i64 z'.f0.f1)
    have a2 := a1.set_ (p := ⟨go, 2, none⟩) (by exact hx) (by exact h0) (.int .i64 z'.f0.f2)
    have a3 := a2.set_ (p := ⟨go, 3, none⟩) (by exact hx) (by exact h0) (.int .i64 z'.f1)
    have a4 := a3.set_ (p := ⟨go, 4, none⟩) (by exact hx) (by exact h0) (.int .i64 z'.f2)
    have a5 := a4.set_ (p := ⟨go, 5, none⟩) (by exact hx) (by exact h0) (.int .i64 z'.f3)
    have a6 := a5.set_ (p := ⟨go, 6, none⟩) (by exact hx) (by exact h0) (.bool z'.f4)
    exact a6
  · have hO' : Blk w go 25 #[.int .i64 z.f0.f0, .int .i64 z.f0.f1, .int .i64 z.f0.f2, .int .i64 z.f1, .int .i64 z.f2, .int .i64 z.f3, .bool z.f4] := hO
    have := ((((((hO'.set_ 0 (.int .i64 z'.f0.f0)).set_ 1 (.int .i64 z'.f0.f1)).set_ 2 (.int .i64 z'.f0.f2)).set_ 3 (.int .i64 z'.f1)).set_ 4 (.int .i64 z'.f2)).set_ 5 (.int .i64 z'.f3)).set_ 6 (.bool z'.f4)
    simp only [List.setIfInBounds_toArray, List.set_cons_zero, List.set_cons_succ] at this
    exact (show Blk _ go 25 #[.int .i64 z'.f0.f0, .int .i64 z'.f0.f1, .int .i64 z'.f0.f2, .int .i64 z'.f1, .int .i64 z'.f2, .int .i64 z'.f3, .bool z'.f4] from this)
/-- What a call on the heap leaves. -/
theorem both_q {A A1 A' : Option Addr} {c c1 c' : Nat} {l1 : List M} (h : Both X F w0 w g r lq sl) (hQ : QAt w F g (.slice A lq.length c) lq) (hP : RAt w F r A' c' sl) (hd : ∀ ad, A' = some ad → 0 < sl.length → (Value.slice A lq.length c).ownBlock ≠ some ad.block) (hX : ∀ x, X x → (Value.slice A lq.length c).ownBlock ≠ some x) (hX2 : ∀ x, X x → ∀ ad, A' = some ad → 0 < sl.length → ad.block ≠ x)
    (hQ1 : QAt w' F g (.slice A1 l1.length c1) l1) (hO : Only w w' (fun b => b = g ∨ (Value.slice A lq.length c).ownBlock = some b)) (hn : ∀ b, (Value.slice A1 l1.length c1).ownBlock = some b → (Value.slice A lq.length c).ownBlock = some b ∨ w.heap.size ≤ b) :
    Both X F w0 w' g r l1 sl ∧ ∀ x, X x → w'.heap[x]? = w.heap[x]? := by
  have hl := h.lt
  have hf := h.fs
  refine ⟨⟨⟨A1, c1, A', c', hQ1, hP.only hO (fun e => ?_) (fun ad e hl q => ?_), fun ad e hl q => ?_, fun x hx e => ?_, hX2⟩, h.ne, h.lt, fun x hx => ⟨(h.prot x hx).1, (h.prot x hx).2.1, Nat.lt_of_lt_of_le (h.prot x hx).2.2 hO.size⟩, h.bel.trans (hO.below h.bel.size (fun b e => ?_)), h.fs, Nat.le_trans h.sz hO.size⟩, fun x hx => hO.block x (h.prot x hx).2.2 (fun e => ?_)⟩
  · rcases e with e | e
    · exact h.ne e.symm
    · have := (hQ.own.blk _ e).1; omega
  · rcases q with q | q
    · have := hP.far ad e hl; omega
    · exact hd ad e hl q
  · rcases hn _ q with q2 | q2
    · exact hd ad e hl q2
    · have := hP.lt ad e hl; omega
  · rcases hn x e with q | q
    · exact hX x hx q
    · have := (h.prot x hx).2.2; omega
  · rcases e with e | e
    · omega
    · have := (hQ.own.blk b e).1; omega
  · rcases e with e | e
    · exact (h.prot x hx).1 e
    · exact hX x hx e
/-- What a call on the reference leaves. -/
theorem both_r {A A' A1 : Option Addr} {c c' c1 : Nat} {s1 : List M} (h : Both X F w0 w g r lq sl) (hQ : QAt w F g (.slice A lq.length c) lq) (hP : RAt w F r A' c' sl) (hX : ∀ x, X x → (Value.slice A lq.length c).ownBlock ≠ some x)
    (hP1 : RAt w' F r A1 c1 s1) (hO : Only w w' (fun b => b = r)) (hn : ∀ ad, A1 = some ad → 0 < s1.length → (Value.slice A lq.length c).ownBlock ≠ some ad.block ∧ ∀ x, X x → ad.block ≠ x) :
    Both X F w0 w' g r lq s1 ∧ ∀ x, X x → w'.heap[x]? = w.heap[x]? := by
  have hl := h.lt
  have hf := h.fs
  exact ⟨⟨⟨A, c, A1, c1, ⟨hQ.blk.only hO h.ne, hQ.own.only hO (fun b hb e => by have := (hQ.own.blk b hb).1; omega)⟩, hP1, fun ad e hl => (hn ad e hl).1, hX, fun x hx ad e hl => (hn ad e hl).2 x hx⟩, h.ne, h.lt, fun x hx => ⟨(h.prot x hx).1, (h.prot x hx).2.1, Nat.lt_of_lt_of_le (h.prot x hx).2.2 hO.size⟩, h.bel.trans (hO.below h.bel.size (fun b e => by omega)), h.fs, Nat.le_trans h.sz hO.size⟩, fun x hx => hO.block x (h.prot x hx).2.2 (fun e => (h.prot x hx).2.1 e)⟩
/-- A new row of the reference's is far from all. -/
theorem both_rnew {A A' A1 : Option Addr} {c c' c1 : Nat} {s1 : List M} (h : Both X F w0 w g r lq sl) (hQ : QAt w F g (.slice A lq.length c) lq) (hP : RAt w F r A' c' sl) (hX : ∀ x, X x → (Value.slice A lq.length c).ownBlock ≠ some x)
    (hP1 : RAt w' F r A1 c1 s1) (hO : Only w w' (fun b => b = r)) (hn : ∀ ad, A1 = some ad → 0 < s1.length → w.heap.size ≤ ad.block) :
    Both X F w0 w' g r lq s1 ∧ ∀ x, X x → w'.heap[x]? = w.heap[x]? :=
  both_r h hQ hP hX hP1 hO (fun ad e hl => ⟨fun q => by have := (hQ.own.blk _ q).2; have := hn ad e hl; omega, fun x hx q => by have := (h.prot x hx).2.2; have := hn ad e hl; omega⟩)
abbrev Kp (X : Nat → Prop) (w w' : World) : Prop := ∀ x, X x → w'.heap[x]? = w.heap[x]?
theorem Both.kp (h : Both X F w0 w g r lq sl) (hb : Below w.heap.size w w') : Kp X w w' := fun x hx => hb.block x (h.prot x hx).2.2
theorem bq_push_new (h : Both X F w0 w g r lq sl) (m : M) (hl : lq.length < 16384) (hn : ∀ x ∈ lq, ¬ isOf m.f0.f1 m.f3 x) : Calls Try.prog 9 #[.pointer (some ⟨g, 0, none⟩), .agg (cM m).toArray] w fun e w' => e = .returned (.int .i64 0) ∧ Both X F w0 w' g r (pushL lq m) sl ∧ Kp X w w' := by
  obtain ⟨A, c, A', c', h1, h2, h3, h4, h5⟩ := h.at_
  refine (push_new w F g A c lq m h1 hl h.sz hn).mono ?_
  rintro e w' ⟨rfl, A1, c1, hq, ho, hf⟩
  exact ⟨rfl, both_q h h1 h2 h3 h4 h5 hq ho hf⟩
theorem bq_push_old (h : Both X F w0 w g r lq sl) (m : M) (hl : lq.length ≤ 16384) (hn : ∃ x ∈ lq, isOf m.f0.f1 m.f3 x) : Calls Try.prog 9 #[.pointer (some ⟨g, 0, none⟩), .agg (cM m).toArray] w fun e w' => e = .returned (.int .i64 8) ∧ Both X F w0 w' g r lq sl ∧ Kp X w w' := by
  obtain ⟨A, c, A', c', h1, h2, h3, h4, h5⟩ := h.at_
  refine (push_twice w F g A c lq m h1 hl hn).mono ?_
  rintro e w' ⟨rfl, hb⟩
  exact ⟨rfl, h.below hb, h.kp hb⟩
theorem bq_push_full (h : Both X F w0 w g r lq sl) (m : M) (hl : lq.length = 16384) (hn : ∀ x ∈ lq, ¬ isOf m.f0.f1 m.f3 x) : Calls Try.prog 9 #[.pointer (some ⟨g, 0, none⟩), .agg (cM m).toArray] w fun e w' => e = .returned (.int .i64 9) ∧ Both X F w0 w' g r lq sl ∧ Kp X w w' := by
  obtain ⟨A, c, A', c', h1, h2, h3, h4, h5⟩ := h.at_
  refine (push_full w F g A c lq m h1 hl hn).mono ?_
  rintro e w' ⟨rfl, hb⟩
  exact ⟨rfl, h.below hb, h.kp hb⟩
theorem br_push_new (h : Both X F w0 w g r lq sl) (m : M) (hl : sl.length < 16384) (hn : ∀ x ∈ sl, ¬ isOf m.f0.f1 m.f3 x) : Calls Try.prog 27 #[.pointer (some ⟨r, 0, none⟩), .agg (cM m).toArray] w fun e w' => e = .returned (.int .i64 0) ∧ Both X F w0 w' g r lq (ins befM sl m) ∧ Kp X w w' := by
  obtain ⟨A, c, A', c', h1, h2, h3, h4, h5⟩ := h.at_
  refine (rpush_new w F r A' c' sl m h2 hl h.sz hn).mono ?_
  rintro e w' ⟨rfl, ⟨A1, c1, hq, hf⟩, ho⟩
  exact ⟨rfl, both_rnew h h1 h2 h4 hq ho hf⟩
theorem br_push_old (h : Both X F w0 w g r lq sl) (m : M) (hl : sl.length ≤ 16384) (hn : ∃ x ∈ sl, isOf m.f0.f1 m.f3 x) : Calls Try.prog 27 #[.pointer (some ⟨r, 0, none⟩), .agg (cM m).toArray] w fun e w' => e = .returned (.int .i64 8) ∧ Both X F w0 w' g r lq sl ∧ Kp X w w' := by
  obtain ⟨A, c, A', c', h1, h2, h3, h4, h5⟩ := h.at_
  refine (rpush_twice w F r A' c' sl m h2 hl hn).mono ?_
  rintro e w' ⟨rfl, hb⟩
  exact ⟨rfl, h.below hb, h.kp hb⟩
theorem br_push_full (h : Both X F w0 w g r lq sl) (m : M) (hl : sl.length = 16384) (hn : ∀ x ∈ sl, ¬ isOf m.f0.f1 m.f3 x) : Calls Try.prog 27 #[.pointer (some ⟨r, 0, none⟩), .agg (cM m).toArray] w fun e w' => e = .returned (.int .i64 9) ∧ Both X F w0 w' g r lq sl ∧ Kp X w w' := by
  obtain ⟨A, c, A', c', h1, h2, h3, h4, h5⟩ := h.at_
  refine (rpush_full w F r A' c' sl m h2 hl hn).mono ?_
  rintro e w' ⟨rfl, hb⟩
  exact ⟨rfl, h.below hb, h.kp hb⟩
/-- What both answer at a push, and what they hold then. -/
theorem both_push (m : M) (hs : St lq sl) : ∃ (a : Int) (lq' sl' : List M), St lq' sl' ∧ (∀ {X w}, Both X F w0 w g r lq sl → Calls Try.prog 9 #[.pointer (some ⟨g, 0, none⟩), .agg (cM m).toArray] w fun e w' => e = .returned (.int .i64 a) ∧ Both X F w0 w' g r lq' sl ∧ Kp X w w') ∧ (∀ {X w}, Both X F w0 w g r lq' sl → Calls Try.prog 27 #[.pointer (some ⟨r, 0, none⟩), .agg (cM m).toArray] w fun e w' => e = .returned (.int .i64 a) ∧ Both X F w0 w' g r lq' sl' ∧ Kp X w w') := by
  have hlen := hs.lens
  have hl2 := hs.len
  by_cases hn : ∃ x ∈ lq, isOf m.f0.f1 m.f3 x
  · obtain ⟨x, hx, hq⟩ := hn
    exact ⟨8, lq, sl, hs, fun h => bq_push_old h m hs.len ⟨x, hx, hq⟩, fun h => br_push_old h m (by omega) ⟨x, hs.perm.mem_iff.2 hx, hq⟩⟩
  · have hn1 : ∀ x ∈ lq, ¬ isOf m.f0.f1 m.f3 x := fun x hx hq => hn ⟨x, hx, hq⟩
    have hn2 : ∀ x ∈ sl, ¬ isOf m.f0.f1 m.f3 x := fun x hx => hn1 x (hs.perm.mem_iff.1 hx)
    by_cases hl : lq.length < 16384
    · exact ⟨0, pushL lq m, ins befM sl m, hs.push m hl hn1, fun h => bq_push_new h m hl hn1, fun h => br_push_new h m (by omega) hn2⟩
    · exact ⟨9, lq, sl, hs, fun h => bq_push_full h m (by omega) hn1, fun h => br_push_full h m (by omega) hn2⟩
/-- What both answer at First, Pop, Cut: a message and a number. -/
def Ans (f1 f2 : Nat) (a1 a2 : Array Value) (F : Nat) (w0 : World) (g r : Nat) (lq sl : List M) : Prop := ∃ (z : M) (a : Int) (lq' sl' : List M), St lq' sl' ∧ (∀ {X w}, Both X F w0 w g r lq sl → Calls Try.prog f1 a1 w fun e w' => e = .returned (.tuple #[.agg (cM z).toArray, .int .i64 a]) ∧ Both X F w0 w' g r lq' sl ∧ Kp X w w') ∧ (∀ {X w}, Both X F w0 w g r lq' sl → Calls Try.prog f2 a2 w fun e w' => e = .returned (.tuple #[.agg (cM z).toArray, .int .i64 a]) ∧ Both X F w0 w' g r lq' sl' ∧ Kp X w w')
theorem zA_eq : zA = .agg (cM (default : M)).toArray := rfl
theorem both_first (hs : St lq sl) : Ans 16 28 #[.pointer (some ⟨g, 0, none⟩)] #[.pointer (some ⟨r, 0, none⟩)] F w0 g r lq sl := by
  cases lq with
  | nil =>
    have e : sl = [] := List.eq_nil_of_length_eq_zero (by rw [hs.lens]; rfl)
    subst e
    refine ⟨default, 6, [], [], hs, fun h => ?_, fun h => ?_⟩
    · obtain ⟨A, c, A', c', h1, h2, h3, h4, h5⟩ := h.at_
      refine (first_none _ F g A c h1).mono ?_
      rintro e w' ⟨rfl, hb⟩
      exact ⟨rfl, h.below hb, h.kp hb⟩
    · obtain ⟨A, c, A', c', h1, h2, h3, h4, h5⟩ := h.at_
      refine (rfirst_none _ F r A' c' h2).mono ?_
      rintro e w' ⟨rfl, hb⟩
      exact ⟨rfl, h.below hb, h.kp hb⟩
  | cons z l =>
    obtain ⟨s, rfl⟩ := hs.first
    have hl := hs.lens
    have hl2 := hs.len
    refine ⟨z, 0, z :: l, z :: s, hs, fun h => ?_, fun h => ?_⟩
    · obtain ⟨A, c, A', c', h1, h2, h3, h4, h5⟩ := h.at_
      refine (first_some _ F g A c z l h1 hs.len).mono ?_
      rintro e w' ⟨rfl, hb⟩
      exact ⟨rfl, h.below hb, h.kp hb⟩
    · obtain ⟨A, c, A', c', h1, h2, h3, h4, h5⟩ := h.at_
      refine (rfirst_some _ F r A' c' z s h2 (by omega)).mono ?_
      rintro e w' ⟨rfl, hb⟩
      exact ⟨rfl, h.below hb, h.kp hb⟩
theorem both_pop (hs : St lq sl) : Ans 13 29 #[.pointer (some ⟨g, 0, none⟩)] #[.pointer (some ⟨r, 0, none⟩)] F w0 g r lq sl := by
  cases lq with
  | nil =>
    have e : sl = [] := List.eq_nil_of_length_eq_zero (by rw [hs.lens]; rfl)
    subst e
    refine ⟨default, 6, [], [], hs, fun h => ?_, fun h => ?_⟩
    · obtain ⟨A, c, A', c', h1, h2, h3, h4, h5⟩ := h.at_
      refine (pop_none _ F g A c h1).mono ?_
      rintro e w' ⟨rfl, hb⟩
      exact ⟨rfl, h.below hb, h.kp hb⟩
    · obtain ⟨A, c, A', c', h1, h2, h3, h4, h5⟩ := h.at_
      refine (rpop_none _ F r A' c' h2).mono ?_
      rintro e w' ⟨rfl, hb⟩
      exact ⟨rfl, h.below hb, h.kp hb⟩
  | cons z l =>
    obtain ⟨s, rfl⟩ := hs.first
    have hl := hs.lens
    have hl2 := hs.len
    refine ⟨z, 0, cutL (z :: l) 0, s, hs.pop, fun h => ?_, fun h => ?_⟩
    · obtain ⟨A, c, A', c', h1, h2, h3, h4, h5⟩ := h.at_
      refine (pop_some _ F g A c z l h1 hs.len).mono ?_
      rintro e w' ⟨rfl, hq, ho⟩
      exact ⟨rfl, both_q h h1 h2 h3 h4 h5 hq ho (fun b hb => .inl (by cases A <;> exact hb))⟩
    · obtain ⟨A, c, A', c', h1, h2, h3, h4, h5⟩ := h.at_
      refine (rpop_some _ F r A' c' z s h2 (by omega) h.lt.2).mono ?_
      rintro e w' ⟨rfl, ⟨A1, c1, hq, hn⟩, ho⟩
      refine ⟨rfl, both_r h h1 h2 h4 hq ho (fun ad e hl => ?_)⟩
      obtain ⟨ad0, e0, hb⟩ := hn ad e hl
      rw [hb]
      exact ⟨h3 ad0 e0 (by simp), fun x hx => h5 x hx ad0 e0 (by simp)⟩
theorem both_cut (x y : Int) (hs : St lq sl) : Ans 11 30 #[.pointer (some ⟨g, 0, none⟩), .int .i64 x, .int .i64 y] #[.pointer (some ⟨r, 0, none⟩), .int .i64 x, .int .i64 y] F w0 g r lq sl := by
  have hl := hs.lens
  have hl2 := hs.len
  by_cases hn : ∃ m ∈ lq, isOf x y m
  · obtain ⟨m, hm, hq⟩ := hn
    obtain ⟨k, hk, rfl⟩ := List.getElem_of_mem hm
    obtain ⟨j, hj, hjm⟩ := List.getElem_of_mem (hs.perm.mem_iff.2 hm)
    have hqj : isOf x y sl[j] := by rw [hjm]; exact hq
    obtain ⟨e, hs'⟩ := hs.cut hk hj hq hqj
    refine ⟨lq[k], 0, cutL lq k, sl.eraseIdx j, hs', fun h => ?_, fun h => ?_⟩
    · obtain ⟨A, c, A', c', h1, h2, h3, h4, h5⟩ := h.at_
      refine (cut_some _ F g A c lq x y h1 hs.len ⟨lq[k], hm, hq⟩).mono ?_
      rintro e w' ⟨k2, hk2, hi, rfl, hq2, ho⟩
      obtain rfl : k = k2 := ((Uq.perm hs.perm).1 hs.uq).idx hk hk2 hq hi
      exact ⟨rfl, both_q h h1 h2 h3 h4 h5 hq2 ho (fun b hb => .inl (by cases A <;> exact hb))⟩
    · obtain ⟨A, c, A', c', h1, h2, h3, h4, h5⟩ := h.at_
      refine (rcut_some _ F r A' c' sl x y h2 (by omega) h.lt.2 h.sz ⟨sl[j], List.getElem_mem hj, hqj⟩).mono ?_
      rintro e' w' ⟨k2, hk2, hi, rfl, ⟨A1, c1, hq2, hn⟩, ho⟩
      obtain rfl : j = k2 := hs.uq.idx hj hk2 hqj hi
      rw [e]
      exact ⟨rfl, both_rnew h h1 h2 h4 hq2 ho hn⟩
  · have hn1 : ∀ m ∈ lq, ¬ isOf x y m := fun m hm hq => hn ⟨m, hm, hq⟩
    have hn2 : ∀ m ∈ sl, ¬ isOf x y m := fun m hm => hn1 m (hs.perm.mem_iff.1 hm)
    refine ⟨default, 6, lq, sl, hs, fun h => ?_, fun h => ?_⟩
    · obtain ⟨A, c, A', c', h1, h2, h3, h4, h5⟩ := h.at_
      refine (cut_none _ F g A c lq x y h1 hs.len hn1).mono ?_
      rintro e w' ⟨rfl, hb⟩
      exact ⟨rfl, h.below hb, h.kp hb⟩
    · obtain ⟨A, c, A', c', h1, h2, h3, h4, h5⟩ := h.at_
      refine (rcut_none _ F r A' c' sl x y h2 (by omega) hn2).mono ?_
      rintro e w' ⟨rfl, hb⟩
      exact ⟨rfl, h.below hb, h.kp hb⟩
end
end Go.Proofs.Ytipgigbnfdgfmaa.HQ
