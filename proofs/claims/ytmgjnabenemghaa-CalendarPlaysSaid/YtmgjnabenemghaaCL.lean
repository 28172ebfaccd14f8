/- Two calendars beside one another. No law is proved here. -/
import Derived.Test.YtmgjnabenemghaaCK
namespace Go.Proofs.Ytmgjnabenemghaa.CQ
open Go.Proofs Go.Shelf Go.RowKit Go.Deep Go.Sort Go.Maps Go.Proofs.Ytmgjnabenemghaa.SortPure Go.Proofs.Ytmgjnabenemghaa.Types Go.Proofs.Ytmgjnabenemghaa.Heap Go.Proofs.Ytmgjnabenemghaa.Row Go.Proofs.Ytmgjnabenemghaa.Ord Go.Proofs.Ytmgjnabenemghaa.Sorted Go.Proofs.YtmgjnabenemghaaW.PrintWords Go.Proofs.YtmgjnabenemghaaW.PrintLast Go.Proofs.YtmgjnabenemghaaW.PrintMore
set_option linter.unusedVariables false
set_option linter.unusedSimpArgs false
/-- In order, the same bag, no two of one number: the same list. -/
theorem srt_perm_eq : ∀ {a b : List M}, Srt befM a → Srt befM b → a.Perm b → (∀ x ∈ a, ∀ y ∈ a, x.f3 = y.f3 → x = y) → a = b
  | [], b, _, _, hp, _ => hp.nil_eq
  | x :: a, [], _, _, hp, _ => by have := hp.length_eq; simp at this
  | x :: a, y :: b, ha, hb, hp, hu => by
    have h1 : befM y x = false := by
      rcases List.mem_cons.1 (hp.mem_iff.2 (List.mem_cons_self (a := y) (l := b))) with e | e
      · rw [e]; exact befM_irr x
      · exact (srt_cons.1 ha).1 _ e
    have h2 : befM x y = false := by
      rcases List.mem_cons.1 (hp.mem_iff.1 (List.mem_cons_self (a := x) (l := a))) with e | e
      · rw [e]; exact befM_irr y
      · exact (srt_cons.1 hb).1 _ e
    have e : x = y := hu x List.mem_cons_self y (hp.mem_iff.2 List.mem_cons_self) (alike_of h2 h1).2.symm
    subst e
    rw [srt_perm_eq (srt_cons.1 ha).2 (srt_cons.1 hb).2 hp.cons_inv (fun p hp' q hq' e => hu p (List.mem_cons_of_mem _ hp') q (List.mem_cons_of_mem _ hq') e)]
structure Cf where
  wd : Int
  b : Nat
  c : Nat
def Cf.flip (f : Cf) : Cf := ⟨f.wd, f.c, f.b⟩
/-- Two calendars at g and p; the blocks of X are no one's of theirs. -/
structure Two (X : Nat → Prop) (f : Cf) (w0 w : World) (g p : Nat) (lq lp : List M) : Prop where
  q : Cs (fun x => X x ∨ x = p ∨ x = f.c) w0 w g f.b f.wd lq
  p : Cs (fun x => X x ∨ x = g ∨ x = f.b) w0 w p f.c f.wd lp
section
variable {X : Nat → Prop} {f : Cf} {w0 w w' : World} {g p : Nat} {lq lp : List M}
theorem Two.swap (h : Two X f w0 w g p lq lp) : Two X f.flip w0 w p g lp lq := ⟨h.p, h.q⟩
theorem Two.bel (h : Two X f w0 w g p lq lp) : Below w0.heap.size w0 w := h.q.bel
theorem Two.below (h : Two X f w0 w g p lq lp) (hb : Below w.heap.size w w') : Two X f w0 w' g p lq lp := ⟨h.q.below hb, h.p.below hb⟩
theorem Two.add (h : Two X f w0 w g p lq lp) (o : Obj) : Two (fun x => X x ∨ x = w.heap.size) f w0 (w.alloc o) g p lq lp :=
  ⟨(h.q.add o).less (fun x hx => by rcases hx with (e | e) | e; exact .inl (.inl e); exact .inr e; exact .inl (.inr e)), (h.p.add o).less (fun x hx => by rcases hx with (e | e) | e; exact .inl (.inl e); exact .inr e; exact .inl (.inr e))⟩
theorem Two.less {Y : Nat → Prop} (h : Two X f w0 w g p lq lp) (hY : ∀ x, Y x → X x) : Two Y f w0 w g p lq lp :=
  ⟨h.q.less (fun x hx => by rcases hx with e | e; exact .inl (hY x e); exact .inr e), h.p.less (fun x hx => by rcases hx with e | e; exact .inl (hY x e); exact .inr e)⟩
theorem Two.set_ (h : Two X f w0 w g p lq lp) {a : Addr} (ha : X a.block) (h0 : w0.heap.size ≤ a.block) (u : Value) : Two X f w0 (w.setCell a u) g p lq lp := by
  have hO : Only w (w.setCell a u) (fun x => x = a.block) := (Only.refl w (fun x => x = a.block)).setCell (p := a) (.inl rfl) u
  exact ⟨h.q.far hO (fun x e => .inl (e ▸ ha)) (fun x e => e ▸ h0), h.p.far hO (fun x e => .inl (e ▸ ha)) (fun x e => e ▸ h0)⟩
theorem two_store7 {go : Nat} (h : Two X f w0 w g p lq lp) (hx : X go) (h0 : w0.heap.size ≤ go) (z z' : M) (hO : Blk w go 25 (cM z).toArray) :
    Two X f w0 (w.setCells go 0 (c25 z')) g p lq lp ∧ Blk (w.setCells go 0 (c25 z')) go 25 (cM z').toArray :=
  ⟨⟨h.q.far (only_set7 w go z') (fun x e => .inl (e ▸ hx)) (fun x e => e ▸ h0), h.p.far (only_set7 w go z') (fun x e => .inl (e ▸ hx)) (fun x e => e ▸ h0)⟩, set7 z z' hO⟩
abbrev pushL (l : List M) (m : M) : List M := ins befM l m
theorem pushL_perm (l : List M) (m : M) : (pushL l m).Perm (m :: l) := perm_ins l m
def Hq (_ : List M) : Prop := True
theorem hq_nil : Hq [] := trivial
theorem hq_push {l : List M} (_ : Hq l) (m : M) : Hq (pushL l m) := trivial
/-- Behind a step of the first's own. -/
theorem Two.step {l' : List M} (h : Two X f w0 w g p lq lp) (hO : Only w w' (fun x => x = g ∨ x = f.b)) (ha : CAt w' (fun x => w0.heap.size ≤ x ∧ ¬ (X x ∨ x = p ∨ x = f.c) ∧ x ≠ g ∧ x ≠ f.b) g f.b f.wd l') : Two X f w0 w' g p l' lp ∧ ∀ x, X x → w'.heap[x]? = w.heap[x]? :=
  ⟨⟨h.q.step hO ha, h.p.far hO (fun x e => .inr e) (fun x e => by rcases e with e | e; exact e ▸ h.q.fs.1; exact e ▸ h.q.fs.2)⟩, fun x hx => h.q.kpo hO x (.inl hx)⟩
theorem two_push (h : Two X f w0 w g p lq lp) (m : M) (ht : wfI m.f0.f0) (hl : lq.length < 16384) (hn : ∀ x ∈ lq, ¬ isOf m.f0.f1 m.f3 x) : Calls Try.prog 10 #[.pointer (some ⟨g, 0, none⟩), .agg (cM m).toArray] w fun e w' => e = .returned (.int .i64 0) ∧ Two X f w0 w' g p (pushL lq m) lp ∧ ∀ x, X x → w'.heap[x]? = w.heap[x]? := by
  refine (push_new h.q.at_ m hn hl ht h.q.new).mono ?_
  rintro e w' ⟨rfl, ha, hO⟩
  exact ⟨rfl, h.step hO ha⟩
theorem two_cut_bag (h : Two X f w0 w g p lq lp) (z : M) (R : List M) (hl : lq.length ≤ 16384) (hB : lq.Perm (z :: R) ∧ ∀ m ∈ R, ¬ isOf z.f0.f1 z.f3 m) (hq : Hq lq) : Calls Try.prog 12 #[.pointer (some ⟨g, 0, none⟩), .int .i64 z.f0.f1, .int .i64 z.f3] w fun e w' => e = .returned (.tuple #[.agg (cM z).toArray, .int .i64 0]) ∧ (∃ l', Two X f w0 w' g p l' lp ∧ l'.Perm R ∧ Hq l') ∧ ∀ x, X x → w'.heap[x]? = w.heap[x]? := by
  refine (cut_some h.q.at_ h.q.new (hB.1.mem_iff.2 List.mem_cons_self)).mono ?_
  rintro e w' ⟨rfl, ha, hO⟩
  obtain ⟨h1, h2⟩ := h.step hO ha
  refine ⟨rfl, ⟨_, h1, ?_, trivial⟩, h2⟩
  refine (hB.1.filter _).trans (List.Perm.of_eq ?_)
  rw [List.filter_cons, if_neg (by rw [oth_false.2 ⟨rfl, rfl⟩]; simp)]
  exact filter_oth_none hB.2
theorem two_cut_none (h : Two X f w0 w g p lq lp) (x y : Int) (hl : lq.length ≤ 16384) (hn : ∀ m ∈ lq, ¬ isOf x y m) : Calls Try.prog 12 #[.pointer (some ⟨g, 0, none⟩), .int .i64 x, .int .i64 y] w fun e w' => e = .returned (.tuple #[zA, .int .i64 6]) ∧ Two X f w0 w' g p lq lp ∧ Below w.heap.size w w' := by
  refine (cut_none h.q.at_ x y hn).mono ?_
  rintro e w' ⟨rfl, hb⟩
  exact ⟨rfl, h.below hb, hb⟩
theorem two_qs (h : Two X f w0 w g p lq lp) : Cs (fun x => X x ∨ x = p ∨ x = f.c) w0 w g f.b f.wd lq := h.q
theorem qs_all {b : Nat} {wd : Int} (h : Cs X w0 w g b wd lq) (hl : lq.length ≤ 16384) : Calls Try.prog 14 #[.pointer (some ⟨g, 0, none⟩)] w (Made w (isort befM lq)) := by
  rw [isort_of_srt weakM lq h.at_.srt]
  exact all_call h.at_
theorem qs_len {b : Nat} {wd : Int} (h : Cs X w0 w g b wd lq) : Calls Try.prog 11 #[.pointer (some ⟨g, 0, none⟩)] w fun e w' => e = .returned (.int .i64 (lq.length : Nat)) ∧ w' = w := cs_len h
end
end Go.Proofs.Ytmgjnabenemghaa.CQ
