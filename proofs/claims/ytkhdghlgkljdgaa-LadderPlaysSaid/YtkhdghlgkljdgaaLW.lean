/- The ladder and the reference's beside one another. No law is proved here. -/
import Derived.Test.YtkhdghlgkljdgaaLU
namespace Go.Proofs.Ytkhdghlgkljdgaa.LQ
open Go.Proofs Go.Proofs.Ytkhdghlgkljdgaa.CQ Go.Shelf Go.RowKit Go.Deep Go.Sort Go.Proofs.Ytkhdghlgkljdgaa.SortPure Go.Proofs.Ytkhdghlgkljdgaa.Types Go.Proofs.Ytkhdghlgkljdgaa.Heap Go.Proofs.Ytkhdghlgkljdgaa.Row Go.Proofs.Ytkhdghlgkljdgaa.Ord Go.Proofs.Ytkhdghlgkljdgaa.Sorted Go.Proofs.YtkhdghlgkljdgaaW.PrintWords Go.Proofs.YtkhdghlgkljdgaaW.PrintLast Go.Proofs.YtkhdghlgkljdgaaW.PrintMore
set_option linter.unusedVariables false
set_option linter.unusedSimpArgs false
structure Cg where
  wd : Int
  F : Nat
/-- What both hold: one list, in order. -/
structure St (lq sl : List M) : Prop where
  eq : lq = sl
  uq : Uq sl
  len : sl.length ≤ 16384
theorem St.nil : St [] [] := ⟨rfl, List.Pairwise.nil, by simp⟩
theorem St.lens {lq sl : List M} (h : St lq sl) : sl.length = lq.length := by rw [h.eq]
/-- What is not the ladder's: X, the reference's block, its list's block. -/
def Nt (X : Nat → Prop) (r : Nat) (A : Option Addr) (n : Nat) : Nat → Prop := fun x => X x ∨ x = r ∨ ∃ ad, A = some ad ∧ 0 < n ∧ ad.block = x
/-- Both, the ladder at g, the reference's at r; the blocks of X are no one's of theirs. -/
structure Both (X : Nat → Prop) (f : Cg) (w0 w : World) (g r : Nat) (lq sl : List M) : Prop where
  ref : ∃ (A : Option Addr) (c : Nat), RAt w f.F r A c sl ∧ Cs (Nt X r A sl.length) w0 w g f.wd lq ∧ ∀ x, X x → ∀ ad, A = some ad → 0 < sl.length → ad.block ≠ x
  lt : r < f.F
  xr : ∀ x, X x → x ≠ r
  r0 : w0.heap.size ≤ r
  sz : f.F ≤ w.heap.size
abbrev No : Nat → Prop := fun _ => False
section
variable {X : Nat → Prop} {f : Cg} {w0 w w' : World} {g r : Nat} {lq sl : List M}
theorem Both.xs (h : Both X f w0 w g r lq sl) : ∀ x, X x → x < w.heap.size := fun x hx => by
  obtain ⟨A, c, h1, h2, h3⟩ := h.ref
  exact h2.xs x (.inl hx)
theorem Both.bel (h : Both X f w0 w g r lq sl) : Below w0.heap.size w0 w := by
  obtain ⟨A, c, h1, h2, h3⟩ := h.ref
  exact h2.bel
/-- A step that writes into blocks of X and lays new ones; X' are some of those. -/
theorem Both.grow {X' S : Nat → Prop} (h : Both X f w0 w g r lq sl) (hO : Only w w' S) (hS : ∀ x, S x → X x) (h0 : ∀ x, S x → w0.heap.size ≤ x) (hX : ∀ x, X' x → x < w'.heap.size ∧ (X x ∨ w.heap.size ≤ x)) : Both X' f w0 w' g r lq sl := by
  obtain ⟨A, c, h1, h2, h3⟩ := h.ref
  have hlt := h1.blk.lt
  refine ⟨⟨A, c, h1.only hO (fun q => h.xr r (hS r q) rfl) (fun ad e hl q => h3 _ (hS _ q) ad e hl rfl), h2.grow hO (fun x q => .inl (hS x q)) h0 (fun x hx => ?_), fun x hx ad e hl q => ?_⟩, h.lt, fun x hx e => ?_, h.r0, Nat.le_trans h.sz hO.size⟩
  · rcases hx with q | q | ⟨ad, e, hl, q⟩
    · exact ⟨(hX x q).1, (hX x q).2.elim (fun e => .inl (.inl e)) .inr⟩
    · exact ⟨by have := hO.size; omega, .inl (.inr (.inl q))⟩
    · exact ⟨by have := hO.size; have := h1.lt ad e hl; omega, .inl (.inr (.inr ⟨ad, e, hl, q⟩))⟩
  · rcases (hX x hx).2 with e2 | e2
    · exact h3 x e2 ad e hl q
    · have := h1.lt ad e hl; omega
  · rcases (hX x hx).2 with e2 | e2
    · exact h.xr x e2 e
    · omega
theorem Both.below (h : Both X f w0 w g r lq sl) (hb : Below w.heap.size w w') : Both X f w0 w' g r lq sl :=
  h.grow (S := fun _ => False) (only_of_below hb _) (fun x e => e.elim) (fun x e => e.elim) (fun x hx => ⟨Nat.lt_of_lt_of_le (h.xs x hx) hb.size, .inl hx⟩)
theorem Both.add (h : Both X f w0 w g r lq sl) (o : Obj) : Both (fun x => X x ∨ x = w.heap.size) f w0 (w.alloc o) g r lq sl :=
  h.grow (S := fun _ => False) ((Only.refl w _).alloc o) (fun x e => e.elim) (fun x e => e.elim) (fun x hx => by
    rw [World.size_alloc]
    rcases hx with e | e
    · exact ⟨by have := h.xs x e; omega, .inl e⟩
    · exact ⟨by omega, .inr (Nat.le_of_eq e.symm)⟩)
theorem Both.less {Y : Nat → Prop} (h : Both X f w0 w g r lq sl) (hY : ∀ x, Y x → X x) : Both Y f w0 w g r lq sl :=
  h.grow (S := fun _ => False) (Only.refl w _) (fun x e => e.elim) (fun x e => e.elim) (fun x hx => ⟨h.xs x (hY x hx), .inl (hY x hx)⟩)
theorem Both.kp (h : Both X f w0 w g r lq sl) (hb : Below w.heap.size w w') : Kp X w w' := fun x hx => hb.block x (h.xs x hx)
/-- A step that writes into blocks of X. -/
theorem Both.far {S : Nat → Prop} (h : Both X f w0 w g r lq sl) (hO : Only w w' S) (hS : ∀ x, S x → X x) (h0 : ∀ x, S x → w0.heap.size ≤ x) : Both X f w0 w' g r lq sl :=
  h.grow hO hS h0 (fun x hx => ⟨Nat.lt_of_lt_of_le (h.xs x hx) hO.size, .inl hx⟩)
theorem both_store7 {go : Nat} (h : Both X f w0 w g r lq sl) (hx : X go) (h0 : w0.heap.size ≤ go) (z z' : M) (hO : Blk w go 25 (cM z).toArray) :
    Both X f w0 (w.setCells go 0 (c25 z')) g r lq sl ∧ Blk (w.setCells go 0 (c25 z')) go 25 (cM z').toArray :=
  ⟨h.far (only_set7 w go z') (fun x e => e ▸ hx) (fun x e => e ▸ h0), set7 z z' hO⟩
/-- What a call on the ladder leaves. -/
theorem both_run {F : Nat} {args : Array Value} {ans : Value} {l1 : List M} (h : Both X f w0 w g r lq sl) (hc : ∀ S, CAt w S g f.wd lq → (∀ x, w.heap.size ≤ x → S x) → Calls Try.prog F args w fun e w' => e = .returned ans ∧ Lq w' S g f.wd l1 ∧ Only w w' S) :
    Calls Try.prog F args w fun e w' => e = .returned ans ∧ Both X f w0 w' g r l1 sl ∧ Kp X w w' := by
  obtain ⟨A, c, h1, h2, h3⟩ := h.ref
  refine (hc _ h2.at_ h2.new).mono ?_
  rintro e w' ⟨rfl, hq, hO⟩
  obtain ⟨k1, k2⟩ := h2.step hO hq
  exact ⟨rfl, ⟨⟨A, c, h1.only hO (fun q => q.2 (.inr (.inl rfl))) (fun ad e hl q => q.2 (.inr (.inr ⟨ad, e, hl, rfl⟩))), k1, h3⟩, h.lt, h.xr, h.r0, Nat.le_trans h.sz hO.size⟩, fun x hx => k2 x (.inl hx)⟩
/-- What a call on the reference leaves. -/
theorem both_r {A A1 : Option Addr} {c c1 : Nat} {s1 : List M} (h : Both X f w0 w g r lq sl) (h1 : RAt w f.F r A c sl) (h2 : Cs (Nt X r A sl.length) w0 w g f.wd lq) (h3 : ∀ x, X x → ∀ ad, A = some ad → 0 < sl.length → ad.block ≠ x) (hP1 : RAt w' f.F r A1 c1 s1) (hO : Only w w' (fun b => b = r))
    (hn : ∀ ad, A1 = some ad → 0 < s1.length → (∃ ad0, A = some ad0 ∧ 0 < sl.length ∧ ad.block = ad0.block) ∨ w.heap.size ≤ ad.block) : Both X f w0 w' g r lq s1 ∧ Kp X w w' := by
  have hlt := h1.blk.lt
  refine ⟨⟨⟨A1, c1, hP1, h2.grow hO (fun x e => .inr (.inl e)) (fun x e => e ▸ h.r0) (fun x hx => ?_), fun x hx ad e hl q => ?_⟩, h.lt, h.xr, h.r0, Nat.le_trans h.sz hO.size⟩, fun x hx => hO.block x (h.xs x hx) (h.xr x hx)⟩
  · rcases hx with q | q | ⟨ad, e, hl, q⟩
    · exact ⟨Nat.lt_of_lt_of_le (h.xs x q) hO.size, .inl (.inl q)⟩
    · exact ⟨by have := hO.size; omega, .inl (.inr (.inl q))⟩
    · refine ⟨by have := hP1.lt ad e hl; omega, ?_⟩
      rcases hn ad e hl with ⟨ad0, e0, hl0, hb⟩ | hb
      · exact .inl (.inr (.inr ⟨ad0, e0, hl0, hb.symm.trans q⟩))
      · exact .inr (by omega)
  · rcases hn ad e hl with ⟨ad0, e0, hl0, hb⟩ | hb
    · exact h3 x hx ad0 e0 hl0 (hb.symm.trans q)
    · have := h.xs x hx; omega
/-- What both answer at a push, and what they hold then. -/
theorem both_push (m : M) (hs : St lq sl) : ∃ (a : Int) (lq' sl' : List M), St lq' sl' ∧ (∀ {X w}, Both X f w0 w g r lq sl → Calls Try.prog 10 #[.pointer (some ⟨g, 0, none⟩), .agg (cM m).toArray] w fun e w' => e = .returned (.int .i64 a) ∧ Both X f w0 w' g r lq' sl ∧ Kp X w w') ∧ (∀ {X w}, Both X f w0 w g r lq' sl → Calls Try.prog 30 #[.pointer (some ⟨r, 0, none⟩), .agg (cM m).toArray] w fun e w' => e = .returned (.int .i64 a) ∧ Both X f w0 w' g r lq' sl' ∧ Kp X w w') := by
  obtain ⟨rfl, hu, hl2⟩ := hs
  by_cases hn : ∃ x ∈ lq, isOf m.f0.f1 m.f3 x
  · refine ⟨8, lq, lq, ⟨rfl, hu, hl2⟩, fun h => ?_, fun h => ?_⟩
    · exact both_run h (fun S hS hN => (push_old hS.lq hS.ne m hn).mono (fun e w' q => ⟨q.1, q.2.1, only_of_below q.2.2 _⟩))
    · obtain ⟨A, c, h1, h2, h3⟩ := h.ref
      refine (rpush_twice _ f.F r A c lq m h1 hl2 hn).mono ?_
      rintro e w' ⟨rfl, hb⟩
      exact ⟨rfl, h.below hb, h.kp hb⟩
  · have hn1 : ∀ x ∈ lq, ¬ isOf m.f0.f1 m.f3 x := fun x hx hq => hn ⟨x, hx, hq⟩
    by_cases hl : lq.length < 16384
    · refine ⟨0, ins befM lq m, ins befM lq m, ⟨rfl, (Uq.perm (perm_ins lq m)).2 (List.pairwise_cons.2 ⟨fun x hx => hn1 x hx, hu⟩), by rw [length_ins]; omega⟩, fun h => ?_, fun h => ?_⟩
      · exact both_run h (fun S hS hN => push_new hS.lq hN hS.mo m hn1 hl)
      · obtain ⟨A, c, h1, h2, h3⟩ := h.ref
        refine (rpush_new _ f.F r A c lq m h1 hl h.sz hn1).mono ?_
        rintro e w' ⟨rfl, ⟨A1, c1, hq, hf⟩, ho⟩
        exact ⟨rfl, both_r h h1 h2 h3 hq ho (fun ad e hl => .inr (hf ad e hl))⟩
    · have hle : lq.length = 16384 := by omega
      refine ⟨9, lq, lq, ⟨rfl, hu, hl2⟩, fun h => ?_, fun h => ?_⟩
      · exact both_run h (fun S hS hN => (push_full hS.lq hS.ne m hn1 hle).mono (fun e w' q => ⟨q.1, q.2.1, only_of_below q.2.2 _⟩))
      · obtain ⟨A, c, h1, h2, h3⟩ := h.ref
        refine (rpush_full _ f.F r A c lq m h1 hle hn1).mono ?_
        rintro e w' ⟨rfl, hb⟩
        exact ⟨rfl, h.below hb, h.kp hb⟩
/-- What both answer at First, Pop, Cut: a message and a number. -/
def Ans (f1 f2 : Nat) (a1 a2 : Array Value) (f : Cg) (w0 : World) (g r : Nat) (lq sl : List M) : Prop := ∃ (z : M) (a : Int) (lq' sl' : List M), St lq' sl' ∧ (∀ {X w}, Both X f w0 w g r lq sl → Calls Try.prog f1 a1 w fun e w' => e = .returned (.tuple #[.agg (cM z).toArray, .int .i64 a]) ∧ Both X f w0 w' g r lq' sl ∧ Kp X w w') ∧ (∀ {X w}, Both X f w0 w g r lq' sl → Calls Try.prog f2 a2 w fun e w' => e = .returned (.tuple #[.agg (cM z).toArray, .int .i64 a]) ∧ Both X f w0 w' g r lq' sl' ∧ Kp X w w')
theorem both_first (hs : St lq sl) : Ans 17 31 #[.pointer (some ⟨g, 0, none⟩)] #[.pointer (some ⟨r, 0, none⟩)] f w0 g r lq sl := by
  obtain ⟨rfl, hu, hl2⟩ := hs
  cases lq with
  | nil =>
    refine ⟨default, 6, [], [], St.nil, fun h => ?_, fun h => ?_⟩
    · exact both_run h (fun S hS hN => first_none hS.lq hN hS.ne)
    · obtain ⟨A, c, h1, h2, h3⟩ := h.ref
      refine (rfirst_none _ f.F r A c h1).mono ?_
      rintro e w' ⟨rfl, hb⟩
      exact ⟨rfl, h.below hb, h.kp hb⟩
  | cons z l =>
    refine ⟨z, 0, z :: l, z :: l, ⟨rfl, hu, hl2⟩, fun h => ?_, fun h => ?_⟩
    · exact both_run h (fun S hS hN => (first_some hS.lq hN hS.ne).mono (fun e w' q => ⟨q.1, by obtain ⟨A, c, b, R, rc, rs, k1, k2⟩ := q.2.1; exact ⟨A, c, _, R, rc, rs, k1, k2⟩, q.2.2⟩))
    · obtain ⟨A, c, h1, h2, h3⟩ := h.ref
      refine (rfirst_some _ f.F r A c z l h1 hl2).mono ?_
      rintro e w' ⟨rfl, hb⟩
      exact ⟨rfl, h.below hb, h.kp hb⟩
theorem both_pop (hs : St lq sl) : Ans 14 32 #[.pointer (some ⟨g, 0, none⟩)] #[.pointer (some ⟨r, 0, none⟩)] f w0 g r lq sl := by
  obtain ⟨rfl, hu, hl2⟩ := hs
  cases lq with
  | nil =>
    refine ⟨default, 6, [], [], St.nil, fun h => ?_, fun h => ?_⟩
    · exact both_run h (fun S hS hN => pop_none hS.lq hN hS.ne)
    · obtain ⟨A, c, h1, h2, h3⟩ := h.ref
      refine (rpop_none _ f.F r A c h1).mono ?_
      rintro e w' ⟨rfl, hb⟩
      exact ⟨rfl, h.below hb, h.kp hb⟩
  | cons z l =>
    refine ⟨z, 0, l, l, ⟨rfl, (List.pairwise_cons.1 hu).2, by simp at hl2; omega⟩, fun h => ?_, fun h => ?_⟩
    · exact both_run h (fun S hS hN => pop_some hS.lq hN hS.ne)
    · obtain ⟨A, c, h1, h2, h3⟩ := h.ref
      refine (rpop_some _ f.F r A c z l h1 hl2 h.lt).mono ?_
      rintro e w' ⟨rfl, ⟨A1, c1, hq, hn⟩, ho⟩
      exact ⟨rfl, both_r h h1 h2 h3 hq ho (fun ad e hl => .inl (by obtain ⟨ad0, e0, hb⟩ := hn ad e hl; exact ⟨ad0, e0, by simp, hb⟩))⟩
theorem both_cut (x y : Int) (hs : St lq sl) : Ans 12 33 #[.pointer (some ⟨g, 0, none⟩), .int .i64 x, .int .i64 y] #[.pointer (some ⟨r, 0, none⟩), .int .i64 x, .int .i64 y] f w0 g r lq sl := by
  obtain ⟨rfl, hu, hl2⟩ := hs
  by_cases hn : ∃ m ∈ lq, isOf x y m
  · obtain ⟨m, hm, hq⟩ := hn
    obtain ⟨rfl, rfl⟩ := hq
    refine ⟨m, 0, lq.filter (oth m.f0.f1 m.f3), lq.filter (oth m.f0.f1 m.f3), ⟨rfl, List.Pairwise.filter _ hu, Nat.le_trans (List.length_filter_le _ _) hl2⟩, fun h => ?_, fun h => ?_⟩
    · exact both_run h (fun S hS hN => cut_some hS.lq hN hS.ne hm)
    · obtain ⟨A, c, h1, h2, h3⟩ := h.ref
      refine (rcut_some _ f.F r A c lq _ _ h1 hl2 h.lt h.sz ⟨m, hm, rfl, rfl⟩).mono ?_
      rintro e' w' ⟨k2, hk2, hi, rfl, ⟨A1, c1, hq2, hn⟩, ho⟩
      have he : lq[k2] = m := hu.eq (List.getElem_mem hk2) hm ⟨hi.1.symm, hi.2.symm⟩
      rw [erase_filter hu hk2 hi] at hq2 hn
      rw [he]
      exact ⟨rfl, both_r h h1 h2 h3 hq2 ho (fun ad e hl => .inr (hn ad e hl))⟩
  · have hn1 : ∀ m ∈ lq, ¬ isOf x y m := fun m hm hq => hn ⟨m, hm, hq⟩
    refine ⟨default, 6, lq, lq, ⟨rfl, hu, hl2⟩, fun h => ?_, fun h => ?_⟩
    · exact both_run h (fun S hS hN => cut_none hS.lq hN hS.ne x y hn1)
    · obtain ⟨A, c, h1, h2, h3⟩ := h.ref
      refine (rcut_none _ f.F r A c lq x y h1 hl2 hn1).mono ?_
      rintro e w' ⟨rfl, hb⟩
      exact ⟨rfl, h.below hb, h.kp hb⟩
end
end Go.Proofs.Ytkhdghlgkljdgaa.LQ
