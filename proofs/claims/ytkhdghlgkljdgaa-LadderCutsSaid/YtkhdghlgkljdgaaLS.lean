/- Two ladders beside one another. No law is proved here. -/
import Derived.Test.YtkhdghlgkljdgaaLP
namespace Go.Proofs.Ytkhdghlgkljdgaa.LQ
open Go.Proofs Go.Proofs.Ytkhdghlgkljdgaa.CQ Go.Shelf Go.RowKit Go.Deep Go.Sort Go.Proofs.Ytkhdghlgkljdgaa.SortPure Go.Proofs.Ytkhdghlgkljdgaa.Types Go.Proofs.Ytkhdghlgkljdgaa.Heap Go.Proofs.Ytkhdghlgkljdgaa.Row Go.Proofs.Ytkhdghlgkljdgaa.Ord Go.Proofs.Ytkhdghlgkljdgaa.Sorted Go.Proofs.YtkhdghlgkljdgaaW.PrintWords Go.Proofs.YtkhdghlgkljdgaaW.PrintLast Go.Proofs.YtkhdghlgkljdgaaW.PrintMore
set_option linter.unusedVariables false
set_option linter.unusedSimpArgs false
/-- In order, the same bag, no two of one number: the same list. -/
theorem srt_perm_eq : ∀ {a b : List M}, Srt befM a → Srt befM b → a.Perm b → (∀ x ∈ a, ∀ y ∈ a, x.f3 = y.f3 → x = y) → a = b
  | [], b, _, _, hp, _ => hp.nil_eq
  | x :: a, [], _, _, hp, _ => by have := hp.length_eq; simp at this
  | x :: a, y :: b, ha, hb, hp, hu => by
    have h1 : befM y x = false := by
      rcases List.mem_cons.1 (hp.mem_iff.2 (List.mem_cons_self (a := y) (l := b))) with e | e
      · rw [e]; exact befM_irr x
      · exact (srt_cons.1 ha).1 _ e
    have h2 : befM x y = false := by
      rcases List.mem_cons.1 (hp.mem_iff.1 (List.mem_cons_self (a := x) (l := a))) with e | e
      · rw [e]; exact befM_irr y
      · exact (srt_cons.1 hb).1 _ e
    have e : x = y := hu x List.mem_cons_self y (hp.mem_iff.2 List.mem_cons_self) (alike_of h2 h1).2.symm
    subst e
    rw [srt_perm_eq (srt_cons.1 ha).2 (srt_cons.1 hb).2 hp.cons_inv (fun p hp' q hq' e => hu p (List.mem_cons_of_mem _ hp') q (List.mem_cons_of_mem _ hq') e)]
/-- Two ladders at g and p; the blocks of X are no one's of theirs. -/
def Two (X : Nat → Prop) (wd : Int) (w0 w : World) (g p : Nat) (lq lp : List M) : Prop :=
  ∃ Sq Sp : Nat → Prop, CAt w Sq g wd lq ∧ CAt w Sp p wd lp ∧ (∀ x, Sq x → ¬ Sp x) ∧ (∀ x, Sq x ∨ Sp x → w0.heap.size ≤ x ∧ x < w.heap.size ∧ ¬ X x) ∧ Below w0.heap.size w0 w ∧ ∀ x, X x → x < w.heap.size
section
variable {X : Nat → Prop} {wd : Int} {w0 w w' : World} {g p : Nat} {lq lp : List M}
theorem Two.swap (h : Two X wd w0 w g p lq lp) : Two X wd w0 w p g lp lq := by
  obtain ⟨Sq, Sp, h1, h2, h3, h4, h5, h6⟩ := h
  exact ⟨Sp, Sq, h2, h1, fun x hx q => h3 x q hx, fun x hx => h4 x hx.symm, h5, h6⟩
theorem Two.bel (h : Two X wd w0 w g p lq lp) : Below w0.heap.size w0 w := by
  obtain ⟨Sq, Sp, h1, h2, h3, h4, h5, h6⟩ := h
  exact h5
theorem Two.xs (h : Two X wd w0 w g p lq lp) : ∀ x, X x → x < w.heap.size := by
  obtain ⟨Sq, Sp, h1, h2, h3, h4, h5, h6⟩ := h
  exact h6
/-- A step that writes into blocks of X and lays new ones; X' are some of those. -/
theorem Two.grow {X' S : Nat → Prop} (h : Two X wd w0 w g p lq lp) (hO : Only w w' S) (hS : ∀ x, S x → X x) (h0 : ∀ x, S x → w0.heap.size ≤ x) (hX : ∀ x, X' x → x < w'.heap.size ∧ (X x ∨ w.heap.size ≤ x)) : Two X' wd w0 w' g p lq lp := by
  obtain ⟨Sq, Sp, h1, h2, h3, h4, h5, h6⟩ := h
  refine ⟨Sq, Sp, h1.only hO (fun x hx q => (h4 x (.inl hx)).2.2 (hS x q)), h2.only hO (fun x hx q => (h4 x (.inr hx)).2.2 (hS x q)), h3, fun x hx => ?_, h5.trans (hO.below h5.size h0), fun x hx => (hX x hx).1⟩
  obtain ⟨q1, q2, q3⟩ := h4 x hx
  refine ⟨q1, Nat.lt_of_lt_of_le q2 hO.size, fun q => ?_⟩
  rcases (hX x q).2 with e | e
  · exact q3 e
  · omega
theorem Two.below (h : Two X wd w0 w g p lq lp) (hb : Below w.heap.size w w') : Two X wd w0 w' g p lq lp :=
  h.grow (S := fun _ => False) (only_of_below hb _) (fun x e => e.elim) (fun x e => e.elim) (fun x hx => ⟨Nat.lt_of_lt_of_le (h.xs x hx) hb.size, .inl hx⟩)
theorem Two.add (h : Two X wd w0 w g p lq lp) (o : Obj) : Two (fun x => X x ∨ x = w.heap.size) wd w0 (w.alloc o) g p lq lp :=
  h.grow (S := fun _ => False) ((Only.refl w _).alloc o) (fun x e => e.elim) (fun x e => e.elim) (fun x hx => by
    rw [World.size_alloc]
    rcases hx with e | e
    · exact ⟨by have := h.xs x e; omega, .inl e⟩
    · exact ⟨by omega, .inr (Nat.le_of_eq e.symm)⟩)
theorem Two.less {Y : Nat → Prop} (h : Two X wd w0 w g p lq lp) (hY : ∀ x, Y x → X x) : Two Y wd w0 w g p lq lp :=
  h.grow (S := fun _ => False) (Only.refl w _) (fun x e => e.elim) (fun x e => e.elim) (fun x hx => ⟨h.xs x (hY x hx), .inl (hY x hx)⟩)
theorem Two.far {S : Nat → Prop} (h : Two X wd w0 w g p lq lp) (hO : Only w w' S) (hS : ∀ x, S x → X x) (h0 : ∀ x, S x → w0.heap.size ≤ x) : Two X wd w0 w' g p lq lp :=
  h.grow hO hS h0 (fun x hx => ⟨Nat.lt_of_lt_of_le (h.xs x hx) hO.size, .inl hx⟩)
theorem Two.set_ (h : Two X wd w0 w g p lq lp) {a : Addr} (ha : X a.block) (h0 : w0.heap.size ≤ a.block) (u : Value) : Two X wd w0 (w.setCell a u) g p lq lp :=
  h.far (S := fun x => x = a.block) ((Only.refl w (fun x => x = a.block)).setCell (p := a) (.inl rfl) u) (fun x e => e ▸ ha) (fun x e => e ▸ h0)
theorem two_store7 {go : Nat} (h : Two X wd w0 w g p lq lp) (hx : X go) (h0 : w0.heap.size ≤ go) (z z' : M) (hO : Blk w go 25 (cM z).toArray) :
    Two X wd w0 (w.setCells go 0 (c25 z')) g p lq lp ∧ Blk (w.setCells go 0 (c25 z')) go 25 (cM z').toArray :=
  ⟨h.far (only_set7 w go z') (fun x e => e ▸ hx) (fun x e => e ▸ h0), set7 z z' hO⟩
abbrev pushL (l : List M) (m : M) : List M := ins befM l m
theorem pushL_perm (l : List M) (m : M) : (pushL l m).Perm (m :: l) := perm_ins l m
def Hq (_ : List M) : Prop := True
theorem hq_nil : Hq [] := trivial
theorem hq_push {l : List M} (_ : Hq l) (m : M) : Hq (pushL l m) := trivial
/-- The first one by itself: what a call of its own leaves. -/
theorem Two.run {F : Nat} {args : Array Value} {ans : Value} {l' : List M} (h : Two X wd w0 w g p lq lp) (hc : ∀ S, CAt w S g wd lq → (∀ x, w.heap.size ≤ x → S x) → Calls Try.prog F args w fun e w' => e = .returned ans ∧ Lq w' S g wd l' ∧ Only w w' S) :
    Calls Try.prog F args w fun e w' => e = .returned ans ∧ Two X wd w0 w' g p l' lp ∧ ∀ x, X x → w'.heap[x]? = w.heap[x]? := by
  obtain ⟨Sq, Sp, h1, h2, h3, h4, h5, h6⟩ := h
  refine (hc (fun x => Sq x ∨ w.heap.size ≤ x) (h1.to (fun x hx _ => .inl hx)) (fun x hx => .inr hx)).mono ?_
  rintro e w' ⟨rfl, hq, hO⟩
  have hq' : CAt w' (fun x => (Sq x ∨ w.heap.size ≤ x) ∧ x < w'.heap.size) g wd l' := CAt.to ⟨hq, h1.mo⟩ (fun x hx hlt => ⟨hx, hlt⟩)
  refine ⟨rfl, ⟨_, Sp, hq', h2.only hO (fun x hx q => ?_), fun x hx q => ?_, fun x hx => ?_, h5.trans (hO.below h5.size (fun x q => ?_)), fun x hx => Nat.lt_of_lt_of_le (h6 x hx) hO.size⟩, fun x hx => hO.block x (h6 x hx) (fun q => ?_)⟩
  · rcases q with q | q
    · exact h3 x q hx
    · have := (h4 x (.inr hx)).2.1; omega
  · rcases hx.1 with e | e
    · exact h3 x e q
    · have := (h4 x (.inr q)).2.1; omega
  · rcases hx with hx | hx
    · rcases hx.1 with e | e
      · exact ⟨(h4 x (.inl e)).1, hx.2, (h4 x (.inl e)).2.2⟩
      · exact ⟨Nat.le_trans h5.size e, hx.2, fun q => by have := h6 x q; omega⟩
    · exact ⟨(h4 x (.inr hx)).1, Nat.lt_of_lt_of_le (h4 x (.inr hx)).2.1 hO.size, (h4 x (.inr hx)).2.2⟩
  · rcases q with q | q
    · exact (h4 x (.inl q)).1
    · exact Nat.le_trans h5.size q
  · rcases q with q | q
    · exact (h4 x (.inl q)).2.2 hx
    · have := h6 x hx; omega
theorem two_push (h : Two X wd w0 w g p lq lp) (m : M) (hl : lq.length < 16384) (hn : ∀ x ∈ lq, ¬ isOf m.f0.f1 m.f3 x) : Calls Try.prog 10 #[.pointer (some ⟨g, 0, none⟩), .agg (cM m).toArray] w fun e w' => e = .returned (.int .i64 0) ∧ Two X wd w0 w' g p (pushL lq m) lp ∧ ∀ x, X x → w'.heap[x]? = w.heap[x]? :=
  h.run (fun S hS hN => push_new hS.lq hN hS.mo m hn hl)
theorem two_cut_bag (h : Two X wd w0 w g p lq lp) (z : M) (R : List M) (hl : lq.length ≤ 16384) (hB : lq.Perm (z :: R) ∧ ∀ m ∈ R, ¬ isOf z.f0.f1 z.f3 m) (hq : Hq lq) : Calls Try.prog 12 #[.pointer (some ⟨g, 0, none⟩), .int .i64 z.f0.f1, .int .i64 z.f3] w fun e w' => e = .returned (.tuple #[.agg (cM z).toArray, .int .i64 0]) ∧ (∃ l', Two X wd w0 w' g p l' lp ∧ l'.Perm R ∧ Hq l') ∧ ∀ x, X x → w'.heap[x]? = w.heap[x]? := by
  refine (h.run (fun S hS hN => cut_some hS.lq hN hS.ne (z := z) (hB.1.mem_iff.2 List.mem_cons_self))).mono ?_
  rintro e w' ⟨rfl, h1, h2⟩
  refine ⟨rfl, ⟨_, h1, ?_, trivial⟩, h2⟩
  refine (hB.1.filter _).trans (List.Perm.of_eq ?_)
  rw [List.filter_cons, if_neg (by rw [oth_false.2 ⟨rfl, rfl⟩]; simp)]
  exact filter_oth_none hB.2
theorem two_cut_none (h : Two X wd w0 w g p lq lp) (x y : Int) (hl : lq.length ≤ 16384) (hn : ∀ m ∈ lq, ¬ isOf x y m) : Calls Try.prog 12 #[.pointer (some ⟨g, 0, none⟩), .int .i64 x, .int .i64 y] w fun e w' => e = .returned (.tuple #[zA, .int .i64 6]) ∧ Two X wd w0 w' g p lq lp ∧ ∀ x, X x → w'.heap[x]? = w.heap[x]? :=
  h.run (fun S hS hN => cut_none hS.lq hN hS.ne x y hn)
theorem two_qs (h : Two X wd w0 w g p lq lp) : Cs (fun _ => False) w0 w g wd lq := by
  obtain ⟨Sq, Sp, h1, h2, h3, h4, h5, h6⟩ := h
  exact ⟨h1.to (fun x hx _ => ⟨(h4 x (.inl hx)).1, fun q => q⟩), h5, fun x q => q.elim⟩
theorem qs_all {Y : Nat → Prop} (h : Cs Y w0 w g wd lq) (hl : lq.length ≤ 16384) : Calls Try.prog 16 #[.pointer (some ⟨g, 0, none⟩)] w (Made w (isort befM lq)) := by
  rw [isort_of_srt weakM lq h.at_.srt]
  exact cs_all h
theorem qs_len {Y : Nat → Prop} (h : Cs Y w0 w g wd lq) : Calls Try.prog 11 #[.pointer (some ⟨g, 0, none⟩)] w fun e w' => e = .returned (.int .i64 (lq.length : Nat)) ∧ w' = w := cs_len h
end
end Go.Proofs.Ytkhdghlgkljdgaa.LQ
