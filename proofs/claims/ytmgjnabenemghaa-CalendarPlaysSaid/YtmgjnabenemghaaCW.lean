/- The calendar and the reference's beside one another. No law is proved here. -/
import Derived.Test.YtmgjnabenemghaaCT
import Derived.Test.YtmgjnabenemghaaCV
namespace Go.Proofs.Ytmgjnabenemghaa.CQ
open Go.Proofs Go.Shelf Go.RowKit Go.Deep Go.Sort Go.Maps Go.Proofs.Ytmgjnabenemghaa.SortPure Go.Proofs.Ytmgjnabenemghaa.Types Go.Proofs.Ytmgjnabenemghaa.Heap Go.Proofs.Ytmgjnabenemghaa.Row Go.Proofs.Ytmgjnabenemghaa.Ord Go.Proofs.Ytmgjnabenemghaa.Sorted Go.Proofs.YtmgjnabenemghaaW.PrintWords Go.Proofs.YtmgjnabenemghaaW.PrintLast Go.Proofs.YtmgjnabenemghaaW.PrintMore
set_option linter.unusedVariables false
set_option linter.unusedSimpArgs false
structure Cg where
  wd : Int
  q : Nat
  F : Nat
/-- What both hold: one list, in order. -/
structure St (lq sl : List M) : Prop where
  eq : lq = sl
  uq : Uq sl
  len : sl.length ≤ 16384
theorem St.nil : St [] [] := ⟨rfl, List.Pairwise.nil, by simp⟩
theorem St.lens {lq sl : List M} (h : St lq sl) : sl.length = lq.length := by rw [h.eq]
/-- Both, the calendar at g, the reference's at r; the blocks of X are no one's of theirs. -/
structure Both (X : Nat → Prop) (f : Cg) (w0 w : World) (g r : Nat) (lq sl : List M) : Prop where
  cal : Cs (fun x => X x ∨ x = r) w0 w g f.q f.wd lq
  ref : ∃ (A : Option Addr) (c : Nat), RAt w f.F r A c sl ∧ ∀ x, X x → ∀ ad, A = some ad → 0 < sl.length → ad.block ≠ x
  lt : g < f.F ∧ r < f.F ∧ f.q < f.F
  xr : ∀ x, X x → x ≠ r
  r0 : w0.heap.size ≤ r
  sz : f.F ≤ w.heap.size
abbrev No : Nat → Prop := fun _ => False
section
variable {X : Nat → Prop} {f : Cg} {w0 w w' : World} {g r : Nat} {lq sl : List M}
theorem Both.bel (h : Both X f w0 w g r lq sl) : Below w0.heap.size w0 w := h.cal.bel
theorem Both.below (h : Both X f w0 w g r lq sl) (hb : Below w.heap.size w w') : Both X f w0 w' g r lq sl := by
  obtain ⟨A, c, h1, h2⟩ := h.ref
  exact ⟨h.cal.below hb, ⟨A, c, h1.below hb, h2⟩, h.lt, h.xr, h.r0, Nat.le_trans h.sz hb.size⟩
theorem Both.add (h : Both X f w0 w g r lq sl) (o : Obj) : Both (fun x => X x ∨ x = w.heap.size) f w0 (w.alloc o) g r lq sl := by
  have hb := (Below.refl w.heap.size w).alloc (Nat.le_refl _) o
  obtain ⟨A, c, h1, h2⟩ := h.ref
  refine ⟨(h.cal.add o).less (fun x hx => by rcases hx with (e | e) | e; exact .inl (.inl e); exact .inr e; exact .inl (.inr e)), ⟨A, c, h1.below hb, fun x hx ad e hl => ?_⟩, h.lt, fun x hx => ?_, h.r0, Nat.le_trans h.sz hb.size⟩
  · rcases hx with q | q
    · exact h2 x q ad e hl
    · have := h1.lt ad e hl; omega
  · rcases hx with q | q
    · exact h.xr x q
    · have := h.lt; have := h.sz; omega
theorem Both.less {Y : Nat → Prop} (h : Both X f w0 w g r lq sl) (hY : ∀ x, Y x → X x) : Both Y f w0 w g r lq sl := by
  obtain ⟨A, c, h1, h2⟩ := h.ref
  exact ⟨h.cal.less (fun x hx => by rcases hx with e | e; exact .inl (hY x e); exact .inr e), ⟨A, c, h1, fun x hx => h2 x (hY x hx)⟩, h.lt, fun x hx => h.xr x (hY x hx), h.r0, h.sz⟩
theorem Both.kp (h : Both X f w0 w g r lq sl) (hb : Below w.heap.size w w') : Kp X w w' := fun x hx => hb.block x (h.cal.xs x (.inl hx)).1
/-- A step that writes into blocks of X. -/
theorem Both.far {S : Nat → Prop} (h : Both X f w0 w g r lq sl) (hO : Only w w' S) (hS : ∀ x, S x → X x) (h0 : ∀ x, S x → w0.heap.size ≤ x) : Both X f w0 w' g r lq sl := by
  obtain ⟨A, c, h1, h2⟩ := h.ref
  exact ⟨h.cal.far hO (fun x e => .inl (hS x e)) h0, ⟨A, c, h1.only hO (fun q => h.xr r (hS r q) rfl) (fun ad e hl q => h2 _ (hS _ q) ad e hl rfl), h2⟩, h.lt, h.xr, h.r0, Nat.le_trans h.sz hO.size⟩
theorem both_store7 {go : Nat} (h : Both X f w0 w g r lq sl) (hx : X go) (h0 : w0.heap.size ≤ go) (z z' : M) (hO : Blk w go 25 (cM z).toArray) :
    Both X f w0 (w.setCells go 0 (c25 z')) g r lq sl ∧ Blk (w.setCells go 0 (c25 z')) go 25 (cM z').toArray :=
  ⟨h.far (only_set7 w go z') (fun x e => e ▸ hx) (fun x e => e ▸ h0), set7 z z' hO⟩
/-- What a call on the calendar leaves. -/
theorem both_q {l1 : List M} (h : Both X f w0 w g r lq sl) (hO : Only w w' (fun x => x = g ∨ x = f.q)) (ha : CAt w' (fun x => w0.heap.size ≤ x ∧ ¬ (X x ∨ x = r) ∧ x ≠ g ∧ x ≠ f.q) g f.q f.wd l1) : Both X f w0 w' g r l1 sl ∧ Kp X w w' := by
  obtain ⟨A, c, h1, h2⟩ := h.ref
  have hx := h.cal.xs r (.inr rfl)
  exact ⟨⟨h.cal.step hO ha, ⟨A, c, h1.only hO (fun q => by rcases q with q | q; exact hx.2.1 q; exact hx.2.2 q) (fun ad e hl q => by have := h1.far ad e hl; have := h.lt; rcases q with q | q <;> omega), h2⟩, h.lt, h.xr, h.r0, Nat.le_trans h.sz hO.size⟩, fun x hx' => h.cal.kpo hO x (.inl hx')⟩
/-- What a call on the reference leaves. -/
theorem both_r {A1 : Option Addr} {c1 : Nat} {s1 : List M} (h : Both X f w0 w g r lq sl) (hP1 : RAt w' f.F r A1 c1 s1) (hO : Only w w' (fun b => b = r)) (hn : ∀ x, X x → ∀ ad, A1 = some ad → 0 < s1.length → ad.block ≠ x) : Both X f w0 w' g r lq s1 ∧ Kp X w w' :=
  ⟨⟨h.cal.far hO (fun x e => .inr e) (fun x e => e ▸ h.r0), ⟨A1, c1, hP1, hn⟩, h.lt, h.xr, h.r0, Nat.le_trans h.sz hO.size⟩, fun x hx => hO.block x (h.cal.xs x (.inl hx)).1 (h.xr x hx)⟩
theorem both_rnew {A1 : Option Addr} {c1 : Nat} {s1 : List M} (h : Both X f w0 w g r lq sl) (hP1 : RAt w' f.F r A1 c1 s1) (hO : Only w w' (fun b => b = r)) (hn : ∀ ad, A1 = some ad → 0 < s1.length → w.heap.size ≤ ad.block) : Both X f w0 w' g r lq s1 ∧ Kp X w w' :=
  both_r h hP1 hO (fun x hx ad e hl q => by have := (h.cal.xs x (.inl hx)).1; have := hn ad e hl; omega)
/-- What both answer at a push, and what they hold then. -/
theorem both_push (m : M) (ht : wfI m.f0.f0) (hs : St lq sl) : ∃ (a : Int) (lq' sl' : List M), St lq' sl' ∧ (∀ {X w}, Both X f w0 w g r lq sl → Calls Try.prog 10 #[.pointer (some ⟨g, 0, none⟩), .agg (cM m).toArray] w fun e w' => e = .returned (.int .i64 a) ∧ Both X f w0 w' g r lq' sl ∧ Kp X w w') ∧ (∀ {X w}, Both X f w0 w g r lq' sl → Calls Try.prog 29 #[.pointer (some ⟨r, 0, none⟩), .agg (cM m).toArray] w fun e w' => e = .returned (.int .i64 a) ∧ Both X f w0 w' g r lq' sl' ∧ Kp X w w') := by
  obtain ⟨rfl, hu, hl2⟩ := hs
  by_cases hn : ∃ x ∈ lq, isOf m.f0.f1 m.f3 x
  · refine ⟨8, lq, lq, ⟨rfl, hu, hl2⟩, fun h => ?_, fun h => ?_⟩
    · refine (push_old h.cal.at_ m hn).mono ?_
      rintro e w' ⟨rfl, hb⟩
      exact ⟨rfl, h.below hb, h.kp hb⟩
    · obtain ⟨A, c, h1, h2⟩ := h.ref
      refine (rpush_twice _ f.F r A c lq m h1 hl2 hn).mono ?_
      rintro e w' ⟨rfl, hb⟩
      exact ⟨rfl, h.below hb, h.kp hb⟩
  · have hn1 : ∀ x ∈ lq, ¬ isOf m.f0.f1 m.f3 x := fun x hx hq => hn ⟨x, hx, hq⟩
    by_cases hl : lq.length < 16384
    · refine ⟨0, ins befM lq m, ins befM lq m, ⟨rfl, (Uq.perm (perm_ins lq m)).2 (List.pairwise_cons.2 ⟨fun x hx => hn1 x hx, hu⟩), by rw [length_ins]; omega⟩, fun h => ?_, fun h => ?_⟩
      · refine (push_new h.cal.at_ m hn1 hl ht h.cal.new).mono ?_
        rintro e w' ⟨rfl, ha, hO⟩
        exact ⟨rfl, both_q h hO ha⟩
      · obtain ⟨A, c, h1, h2⟩ := h.ref
        refine (rpush_new _ f.F r A c lq m h1 hl h.sz hn1).mono ?_
        rintro e w' ⟨rfl, ⟨A1, c1, hq, hf⟩, ho⟩
        exact ⟨rfl, both_rnew h hq ho hf⟩
    · have hle : lq.length = 16384 := by omega
      refine ⟨9, lq, lq, ⟨rfl, hu, hl2⟩, fun h => ?_, fun h => ?_⟩
      · refine (push_full h.cal.at_ m hn1 hle).mono ?_
        rintro e w' ⟨rfl, hb⟩
        exact ⟨rfl, h.below hb, h.kp hb⟩
      · obtain ⟨A, c, h1, h2⟩ := h.ref
        refine (rpush_full _ f.F r A c lq m h1 hle hn1).mono ?_
        rintro e w' ⟨rfl, hb⟩
        exact ⟨rfl, h.below hb, h.kp hb⟩
/-- What both answer at First, Pop, Cut: a message and a number. -/
def Ans (f1 f2 : Nat) (a1 a2 : Array Value) (f : Cg) (w0 : World) (g r : Nat) (lq sl : List M) : Prop := ∃ (z : M) (a : Int) (lq' sl' : List M), St lq' sl' ∧ (∀ {X w}, Both X f w0 w g r lq sl → Calls Try.prog f1 a1 w fun e w' => e = .returned (.tuple #[.agg (cM z).toArray, .int .i64 a]) ∧ Both X f w0 w' g r lq' sl ∧ Kp X w w') ∧ (∀ {X w}, Both X f w0 w g r lq' sl → Calls Try.prog f2 a2 w fun e w' => e = .returned (.tuple #[.agg (cM z).toArray, .int .i64 a]) ∧ Both X f w0 w' g r lq' sl' ∧ Kp X w w')
theorem both_first (hs : St lq sl) : Ans 17 30 #[.pointer (some ⟨g, 0, none⟩)] #[.pointer (some ⟨r, 0, none⟩)] f w0 g r lq sl := by
  obtain ⟨rfl, hu, hl2⟩ := hs
  cases lq with
  | nil =>
    refine ⟨default, 6, [], [], St.nil, fun h => ?_, fun h => ?_⟩
    · refine (first_none h.cal.at_).mono ?_
      rintro e w' ⟨rfl, hb⟩
      exact ⟨rfl, h.below hb, h.kp hb⟩
    · obtain ⟨A, c, h1, h2⟩ := h.ref
      refine (rfirst_none _ f.F r A c h1).mono ?_
      rintro e w' ⟨rfl, hb⟩
      exact ⟨rfl, h.below hb, h.kp hb⟩
  | cons z l =>
    refine ⟨z, 0, z :: l, z :: l, ⟨rfl, hu, hl2⟩, fun h => ?_, fun h => ?_⟩
    · refine (first_some h.cal.at_).mono ?_
      rintro e w' ⟨rfl, hb⟩
      exact ⟨rfl, h.below hb, h.kp hb⟩
    · obtain ⟨A, c, h1, h2⟩ := h.ref
      refine (rfirst_some _ f.F r A c z l h1 hl2).mono ?_
      rintro e w' ⟨rfl, hb⟩
      exact ⟨rfl, h.below hb, h.kp hb⟩
theorem both_pop (hs : St lq sl) : Ans 16 31 #[.pointer (some ⟨g, 0, none⟩)] #[.pointer (some ⟨r, 0, none⟩)] f w0 g r lq sl := by
  obtain ⟨rfl, hu, hl2⟩ := hs
  cases lq with
  | nil =>
    refine ⟨default, 6, [], [], St.nil, fun h => ?_, fun h => ?_⟩
    · refine (pop_none h.cal.at_).mono ?_
      rintro e w' ⟨rfl, hb⟩
      exact ⟨rfl, h.below hb, h.kp hb⟩
    · obtain ⟨A, c, h1, h2⟩ := h.ref
      refine (rpop_none _ f.F r A c h1).mono ?_
      rintro e w' ⟨rfl, hb⟩
      exact ⟨rfl, h.below hb, h.kp hb⟩
  | cons z l =>
    refine ⟨z, 0, l, l, ⟨rfl, (List.pairwise_cons.1 hu).2, by simp at hl2; omega⟩, fun h => ?_, fun h => ?_⟩
    · refine (pop_some h.cal.at_ h.cal.new).mono ?_
      rintro e w' ⟨rfl, ha, hO⟩
      exact ⟨rfl, both_q h hO ha⟩
    · obtain ⟨A, c, h1, h2⟩ := h.ref
      refine (rpop_some _ f.F r A c z l h1 hl2 h.lt.2.1).mono ?_
      rintro e w' ⟨rfl, ⟨A1, c1, hq, hn⟩, ho⟩
      refine ⟨rfl, both_r h hq ho (fun x hx ad e hl => ?_)⟩
      obtain ⟨ad0, e0, hb⟩ := hn ad e hl
      rw [hb]
      exact h2 x hx ad0 e0 (by simp)
theorem both_cut (x y : Int) (hs : St lq sl) : Ans 12 32 #[.pointer (some ⟨g, 0, none⟩), .int .i64 x, .int .i64 y] #[.pointer (some ⟨r, 0, none⟩), .int .i64 x, .int .i64 y] f w0 g r lq sl := by
  obtain ⟨rfl, hu, hl2⟩ := hs
  by_cases hn : ∃ m ∈ lq, isOf x y m
  · obtain ⟨m, hm, hq⟩ := hn
    obtain ⟨rfl, rfl⟩ := hq
    refine ⟨m, 0, lq.filter (oth m.f0.f1 m.f3), lq.filter (oth m.f0.f1 m.f3), ⟨rfl, List.Pairwise.filter _ hu, Nat.le_trans (List.length_filter_le _ _) hl2⟩, fun h => ?_, fun h => ?_⟩
    · refine (cut_some h.cal.at_ h.cal.new hm).mono ?_
      rintro e w' ⟨rfl, ha, hO⟩
      exact ⟨rfl, both_q h hO ha⟩
    · obtain ⟨A, c, h1, h2⟩ := h.ref
      refine (rcut_some _ f.F r A c lq _ _ h1 hl2 h.lt.2.1 h.sz ⟨m, hm, rfl, rfl⟩).mono ?_
      rintro e' w' ⟨k2, hk2, hi, rfl, ⟨A1, c1, hq2, hn⟩, ho⟩
      have he : lq[k2] = m := hu.eq (List.getElem_mem hk2) hm ⟨hi.1.symm, hi.2.symm⟩
      rw [erase_filter hu hk2 hi] at hq2 hn
      rw [he]
      exact ⟨rfl, both_rnew h hq2 ho hn⟩
  · have hn1 : ∀ m ∈ lq, ¬ isOf x y m := fun m hm hq => hn ⟨m, hm, hq⟩
    refine ⟨default, 6, lq, lq, ⟨rfl, hu, hl2⟩, fun h => ?_, fun h => ?_⟩
    · refine (cut_none h.cal.at_ x y hn1).mono ?_
      rintro e w' ⟨rfl, hb⟩
      exact ⟨rfl, h.below hb, h.kp hb⟩
    · obtain ⟨A, c, h1, h2⟩ := h.ref
      refine (rcut_none _ f.F r A c lq x y h1 hl2 hn1).mono ?_
      rintro e w' ⟨rfl, hb⟩
      exact ⟨rfl, h.below hb, h.kp hb⟩
end
end Go.Proofs.Ytmgjnabenemghaa.CQ
