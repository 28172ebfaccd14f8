/- A ladder with what it leaves alone; New, and the law's own awake. No law is proved here. -/
import Derived.Test.YtkhdghlgkljdgaaLN
namespace Go.Proofs.Ytkhdghlgkljdgaa.LQ
open Go.Proofs Go.Proofs.Ytkhdghlgkljdgaa.CQ Go.Proofs.Ytkhdghlgkljdgaa.Ref02 Go.Shelf Go.RowKit Go.Deep Go.Sort Go.Proofs.Ytkhdghlgkljdgaa.SortPure Go.Proofs.Ytkhdghlgkljdgaa.Types Go.Proofs.Ytkhdghlgkljdgaa.Heap Go.Proofs.Ytkhdghlgkljdgaa.Row Go.Proofs.Ytkhdghlgkljdgaa.Ord Go.Proofs.Ytkhdghlgkljdgaa.Sorted Go.Proofs.YtkhdghlgkljdgaaW.PrintWords Go.Proofs.YtkhdghlgkljdgaaW.PrintLast Go.Proofs.YtkhdghlgkljdgaaW.PrintMore
set_option linter.unusedVariables false
set_option linter.unusedSimpArgs false
/-- A ladder at g, in the blocks of S, that holds sl. -/
structure CAt (w : World) (S : Nat → Prop) (g : Nat) (wd : Int) (sl : List M) : Prop where
  lq : Lq w S g wd sl
  mo : 1 ≤ wd ∧ wd ≤ 16384
section
variable {w w' : World} {S T : Nat → Prop} {g : Nat} {wd : Int} {sl : List M}
theorem CAt.srt (h : CAt w S g wd sl) : Srt befM sl := h.lq.inv.1
theorem CAt.uq (h : CAt w S g wd sl) : Uq sl := h.lq.inv.2.1
theorem CAt.len (h : CAt w S g wd sl) : sl.length ≤ 16384 := h.lq.inv.2.2
theorem CAt.only (h : CAt w S g wd sl) (hO : Only w w' T) (hT : ∀ x, S x → ¬ T x) : CAt w' S g wd sl := ⟨h.lq.only hO hT, h.mo⟩
theorem CAt.below (h : CAt w S g wd sl) (hb : Below w.heap.size w w') : CAt w' S g wd sl := ⟨h.lq.below hb, h.mo⟩
theorem CAt.to (h : CAt w S g wd sl) (hT : ∀ x, S x → x < w.heap.size → T x) : CAt w T g wd sl := ⟨h.lq.to hT, h.mo⟩
theorem CAt.ne (h : CAt w S g wd sl) : wd ≠ 0 := by have := h.mo; omega
end
/-- A ladder at g; the blocks of X are not its own. -/
structure Cs (X : Nat → Prop) (w0 w : World) (g : Nat) (wd : Int) (sl : List M) : Prop where
  at_ : CAt w (fun x => w0.heap.size ≤ x ∧ ¬ X x) g wd sl
  bel : Below w0.heap.size w0 w
  xs : ∀ x, X x → x < w.heap.size
abbrev Kp (X : Nat → Prop) (w w' : World) : Prop := ∀ x, X x → w'.heap[x]? = w.heap[x]?
section
variable {X : Nat → Prop} {w0 w w' : World} {g : Nat} {wd : Int} {sl : List M}
theorem Cs.new (h : Cs X w0 w g wd sl) : ∀ x, w.heap.size ≤ x → w0.heap.size ≤ x ∧ ¬ X x := fun x hx =>
  ⟨Nat.le_trans h.bel.size hx, fun q => by have := h.xs x q; omega⟩
theorem Cs.below (h : Cs X w0 w g wd sl) (hb : Below w.heap.size w w') : Cs X w0 w' g wd sl :=
  ⟨h.at_.below hb, below_step h.bel hb, fun x hx => Nat.lt_of_lt_of_le (h.xs x hx) hb.size⟩
theorem Cs.alloc (h : Cs X w0 w g wd sl) (o : Obj) : Cs X w0 (w.alloc o) g wd sl := h.below ((Below.refl _ _).alloc (Nat.le_refl _) o)
/-- A step that writes into blocks of X and lays new ones; X' are some of those. -/
theorem Cs.grow {X' S : Nat → Prop} (h : Cs X w0 w g wd sl) (hO : Only w w' S) (hS : ∀ x, S x → X x) (h0 : ∀ x, S x → w0.heap.size ≤ x) (hX : ∀ x, X' x → x < w'.heap.size ∧ (X x ∨ w.heap.size ≤ x)) : Cs X' w0 w' g wd sl := by
  have h1 : CAt w (fun x => (w0.heap.size ≤ x ∧ ¬ X x) ∧ x < w.heap.size) g wd sl := h.at_.to (fun x hx hlt => ⟨hx, hlt⟩)
  refine ⟨(h1.only hO (fun x hx q => hx.1.2 (hS x q))).to (fun x hx _ => ⟨hx.1.1, fun q => ?_⟩), h.bel.trans (hO.below h.bel.size h0), fun x hx => (hX x hx).1⟩
  rcases (hX x q).2 with e | e
  · exact hx.1.2 e
  · have := hx.2; omega
/-- A block that lies behind all that was. -/
theorem Cs.add (h : Cs X w0 w g wd sl) (o : Obj) : Cs (fun x => X x ∨ x = w.heap.size) w0 (w.alloc o) g wd sl :=
  h.grow (S := fun _ => False) ((Only.refl w _).alloc o) (fun x e => e.elim) (fun x e => e.elim) (fun x hx => by
    rw [World.size_alloc]
    rcases hx with e | e
    · exact ⟨by have := h.xs x e; omega, .inl e⟩
    · exact ⟨by omega, .inr (Nat.le_of_eq e.symm)⟩)
theorem Cs.less {Y : Nat → Prop} (h : Cs X w0 w g wd sl) (hY : ∀ x, Y x → X x) : Cs Y w0 w g wd sl :=
  ⟨h.at_.to (fun x hx _ => ⟨hx.1, fun q => hx.2 (hY x q)⟩), h.bel, fun x hx => h.xs x (hY x hx)⟩
/-- A step that changes blocks of X alone. -/
theorem Cs.far {S : Nat → Prop} (h : Cs X w0 w g wd sl) (hO : Only w w' S) (hS : ∀ x, S x → X x) (h0 : ∀ x, S x → w0.heap.size ≤ x) : Cs X w0 w' g wd sl :=
  h.grow hO hS h0 (fun x hx => ⟨Nat.lt_of_lt_of_le (h.xs x hx) hO.size, .inl hx⟩)
theorem Cs.kp (h : Cs X w0 w g wd sl) (hb : Below w.heap.size w w') : Kp X w w' := fun x hx => hb.block x (h.xs x hx)
/-- Behind a step of its own. -/
theorem Cs.step {sl' : List M} (h : Cs X w0 w g wd sl) (hO : Only w w' (fun x => w0.heap.size ≤ x ∧ ¬ X x)) (hq : Lq w' (fun x => w0.heap.size ≤ x ∧ ¬ X x) g wd sl') : Cs X w0 w' g wd sl' ∧ Kp X w w' :=
  ⟨⟨⟨hq, h.at_.mo⟩, h.bel.trans (hO.below h.bel.size (fun x q => q.1)), fun x hx => Nat.lt_of_lt_of_le (h.xs x hx) hO.size⟩, fun x hx => hO.block x (h.xs x hx) (fun q => q.2 hx)⟩
theorem cs_push_old (h : Cs X w0 w g wd sl) (m : M) (hm : ∃ x ∈ sl, isOf m.f0.f1 m.f3 x) : Calls Try.prog 10 #[.pointer (some ⟨g, 0, none⟩), .agg (cM m).toArray] w fun e w' => e = .returned (.int .i64 8) ∧ Cs X w0 w' g wd sl ∧ Kp X w w' := by
  refine (push_old h.at_.lq h.at_.ne m hm).mono ?_
  rintro e w' ⟨rfl, _, hb⟩
  exact ⟨rfl, h.below hb, h.kp hb⟩
theorem cs_push_full (h : Cs X w0 w g wd sl) (m : M) (hm : ∀ x ∈ sl, ¬ isOf m.f0.f1 m.f3 x) (hl : sl.length = 16384) : Calls Try.prog 10 #[.pointer (some ⟨g, 0, none⟩), .agg (cM m).toArray] w fun e w' => e = .returned (.int .i64 9) ∧ Cs X w0 w' g wd sl ∧ Kp X w w' := by
  refine (push_full h.at_.lq h.at_.ne m hm hl).mono ?_
  rintro e w' ⟨rfl, _, hb⟩
  exact ⟨rfl, h.below hb, h.kp hb⟩
theorem cs_push_new (h : Cs X w0 w g wd sl) (m : M) (hm : ∀ x ∈ sl, ¬ isOf m.f0.f1 m.f3 x) (hl : sl.length < 16384) : Calls Try.prog 10 #[.pointer (some ⟨g, 0, none⟩), .agg (cM m).toArray] w fun e w' => e = .returned (.int .i64 0) ∧ Cs X w0 w' g wd (ins befM sl m) ∧ Kp X w w' := by
  refine (push_new h.at_.lq h.new h.at_.mo m hm hl).mono ?_
  rintro e w' ⟨rfl, hq, hO⟩
  exact ⟨rfl, h.step hO hq⟩
theorem cs_cut_none (h : Cs X w0 w g wd sl) (x y : Int) (hn : ∀ m ∈ sl, ¬ isOf x y m) : Calls Try.prog 12 #[.pointer (some ⟨g, 0, none⟩), .int .i64 x, .int .i64 y] w fun e w' => e = .returned (.tuple #[zA, .int .i64 6]) ∧ Cs X w0 w' g wd sl ∧ Kp X w w' := by
  refine (cut_none h.at_.lq h.new h.at_.ne x y hn).mono ?_
  rintro e w' ⟨rfl, hq, hO⟩
  exact ⟨rfl, h.step hO hq⟩
theorem cs_cut_some (h : Cs X w0 w g wd sl) {z : M} (hz : z ∈ sl) : Calls Try.prog 12 #[.pointer (some ⟨g, 0, none⟩), .int .i64 z.f0.f1, .int .i64 z.f3] w fun e w' => e = .returned (.tuple #[.agg (cM z).toArray, .int .i64 0]) ∧ Cs X w0 w' g wd (sl.filter (oth z.f0.f1 z.f3)) ∧ Kp X w w' := by
  refine (cut_some h.at_.lq h.new h.at_.ne hz).mono ?_
  rintro e w' ⟨rfl, hq, hO⟩
  exact ⟨rfl, h.step hO hq⟩
theorem cs_first_none (h : Cs X w0 w g wd []) : Calls Try.prog 17 #[.pointer (some ⟨g, 0, none⟩)] w fun e w' => e = .returned (.tuple #[zA, .int .i64 6]) ∧ Cs X w0 w' g wd [] ∧ Kp X w w' := by
  refine (first_none h.at_.lq h.new h.at_.ne).mono ?_
  rintro e w' ⟨rfl, hq, hO⟩
  exact ⟨rfl, h.step hO hq⟩
theorem cs_first_some {z : M} {s : List M} (h : Cs X w0 w g wd (z :: s)) : Calls Try.prog 17 #[.pointer (some ⟨g, 0, none⟩)] w fun e w' => e = .returned (.tuple #[.agg (cM z).toArray, .int .i64 0]) ∧ Cs X w0 w' g wd (z :: s) ∧ Kp X w w' := by
  refine (first_some h.at_.lq h.new h.at_.ne).mono ?_
  rintro e w' ⟨rfl, ⟨A, c, b, R, rc, rs, h1, h2⟩, hO⟩
  exact ⟨rfl, h.step hO ⟨A, c, _, R, rc, rs, h1, h2⟩⟩
theorem cs_pop_none (h : Cs X w0 w g wd []) : Calls Try.prog 14 #[.pointer (some ⟨g, 0, none⟩)] w fun e w' => e = .returned (.tuple #[zA, .int .i64 6]) ∧ Cs X w0 w' g wd [] ∧ Kp X w w' := by
  refine (pop_none h.at_.lq h.new h.at_.ne).mono ?_
  rintro e w' ⟨rfl, hq, hO⟩
  exact ⟨rfl, h.step hO hq⟩
theorem cs_pop_some {z : M} {s : List M} (h : Cs X w0 w g wd (z :: s)) : Calls Try.prog 14 #[.pointer (some ⟨g, 0, none⟩)] w fun e w' => e = .returned (.tuple #[.agg (cM z).toArray, .int .i64 0]) ∧ Cs X w0 w' g wd s ∧ Kp X w w' := by
  refine (pop_some h.at_.lq h.new h.at_.ne).mono ?_
  rintro e w' ⟨rfl, hq, hO⟩
  exact ⟨rfl, h.step hO hq⟩
theorem cs_len (h : Cs X w0 w g wd sl) : Calls Try.prog 11 #[.pointer (some ⟨g, 0, none⟩)] w fun e w' => e = .returned (.int .i64 (sl.length : Nat)) ∧ w' = w := len_lq h.at_.lq h.at_.ne
theorem cs_all (h : Cs X w0 w g wd sl) : Calls Try.prog 16 #[.pointer (some ⟨g, 0, none⟩)] w (Made w sl) := all_lq h.at_.lq h.at_.ne
end
theorem new_call (w : World) {wd : Int} (hw : 1 ≤ wd ∧ wd ≤ 16384) : Calls Try.prog 8 #[.int .i64 wd] w fun e w' => e = .returned (.tuple #[.pointer (some ⟨w.heap.size, 0, none⟩), .int .i64 0]) ∧ Cs (fun _ => False) w w' w.heap.size wd [] ∧ Below w.heap.size w w' := by
  refine (new_at w hw.1 hw.2).mono ?_
  rintro e w' ⟨rfl, h, hb⟩
  exact ⟨rfl, ⟨⟨⟨_, _, _, _, _, _, h.to (fun x hx _ => ⟨Nat.le_of_eq hx.symm, fun q => q⟩), inv_nil⟩, hw⟩, hb, fun x hx => hx.elim⟩, hb⟩
set_option maxHeartbeats 8000000 in
set_option maxRecDepth 100000 in
theorem awake_call (w : World) : Calls Try.prog 9 #[] w fun e w' => e = .returned (.bool true) ∧ Below w.heap.size w w' := by
  go_enter Try.func9, Try.ntmps9
  go_wp2_with fail
  refine (new_call w (wd := 4) (by decide)).mono ?_
  rintro e w1 ⟨rfl, hq, hb⟩
  have HP := hide (cs_push_new hq ⟨⟨0, 0, 0⟩, 0, 0, 1, false⟩ (fun x hx => by simp at hx) (by simp))
  unfold cM c25 at HP
  clear hq hb
  go_wp2_with (first
    | (go_at_call 10; refine HP.out.mono ?_; rintro e w2 ⟨rfl, hq2, _⟩; have HQ2 := hide hq2; clear hq2)
    | (go_at_call 11; refine (cs_len HQ2.out).mono ?_; rw [length_ins]; rintro e w3 ⟨rfl, rfl⟩))
  go_ret
  exact ⟨rfl, HQ2.out.bel⟩
end Go.Proofs.Ytkhdghlgkljdgaa.LQ
