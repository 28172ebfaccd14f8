/- A play's rows grow by a tally. No law is proved here. -/
import Derived.Test.YtkchbnmnkcffbaaPls
namespace Go.Proofs.Ytkchbnmnkcffbaa.Colour
open Go.RowKit Go.Sort Go.Proofs.Ytkchbnmnkcffbaa.GrK Go.Proofs.Ytkchbnmnkcffbaa.Types Go.Proofs.Ytkchbnmnkcffbaa.Heap Go.Proofs.Ytkchbnmnkcffbaa.Row Go.Proofs.YtkchbnmnkcffbaaW.PrintWords Go.Proofs.YtkchbnmnkcffbaaW.PrintLast Go.Proofs.YtkchbnmnkcffbaaW.PrintMore
set_option linter.unusedVariables false
set_option linter.unusedSimpArgs false
theorem own_own_ne {w : World} {base base' : Nat} {e e' : TypeId} {size size' n n' : Nat} {v v' : Value} {xs xs' : List Value} (h : w.ownsRow base e size v n xs) (h' : w.ownsRow base' e' size' v' n' xs') (hne : e ≠ e') {b : Nat} (hb : v.ownBlock = some b) : v'.ownBlock ≠ some b := by
  rcases h.2 with ⟨rfl, _⟩ | ⟨g', cap, cur, rfl, _, hh, _⟩
  · simp [Value.ownBlock] at hb
  · have : g' = b := by simpa [Value.ownBlock] using hb
    subst this
    exact own_blk_ne h' hh (fun q => hne q.symm)
theorem snoc_le {l : List Nat} {b p : Nat} (h : ∀ (j p : Nat), l[j]? = some p → b ≤ p) (hp : b ≤ p) : ∀ (j p' : Nat), (l ++ [p])[j]? = some p' → b ≤ p' := fun j p' hj => by
  rw [List.getElem?_append] at hj
  split at hj
  · exact h j p' hj
  · obtain ⟨k, hk⟩ : ∃ k, j - l.length = k := ⟨_, rfl⟩
    rw [hk] at hj
    cases k with
    | zero => simp at hj; rw [← hj]; exact hp
    | succ k => simp at hj
section
variable {w wr W4 w5 : World} {q r : Nat} {n : Int} {va vb v' : Value} {ps rs gs : List Nat} {ss ss' : List TS} {k k' : KS} {p g : Nat} {s : TS}
theorem Pl.newK (h : Pl w wr q r n va vb ps rs gs ss ss' k k') (hp : wr.heap.size ≤ p) (hb : Below wr.heap.size wr W4) (hT : TlS W4 p s) (ho : OwnP w5 w.heap.size v' (ps ++ [p])) (hg : W4.grownBy w5 va.ownBlock) : Pl w w5 q r n v' vb (ps ++ [p]) rs gs (ss ++ [s]) ss' k k' := by
  have h4 := h.below hb
  have hO : Only W4 w5 (fun b => va.ownBlock = some b) := only_of_grown hg (fun b hb => .inl hb)
  refine ⟨TalsAt.snoc h4.tals ho (fun j p' s' h1 h2 => Blk.grown (h4.tals.at_ j p' s' h1 h2) hg (fun e => h4.tals.own_ne h1 e.symm)) (Blk.grown hT hg (fun e => by have := (h.tals.own.blk p e.symm).2; omega)) (fun j p' hj => by
    obtain ⟨s, _, ht⟩ := h.tals.ex hj
    have := Blk.lt ht
    omega), h4.refs.only hO (fun b hb e => own_own_ne h4.refs.own h4.tals.own (by decide) hb e) (fun j p' g' h1 h2 => ?_), Blk.grown h4.tk hg (fun e => own_blk_ne h4.tals.own h4.tk (by decide) e.symm), Blk.grown h4.rk hg (fun e => own_blk_ne h4.tals.own h4.rk (by decide) e.symm), h4.bel.trans (hO.below h4.bel.size (fun b e => (h4.tals.own.blk b e).1)), h.fq, h.fr, snoc_le h.fp (by have := h.bel.size; omega), h.frs, h.fg⟩
  obtain ⟨s1, _, t1⟩ := h4.refs.ex h1 h2
  exact ⟨fun e => own_blk_ne h4.tals.own t1.blk (by decide) e, fun e => own_blk_ne h4.tals.own t1.net (by decide) e⟩
theorem Pl.newR (h : Pl w wr q r n va vb ps rs gs ss ss' k k') (hp : wr.heap.size ≤ p) (hp2 : wr.heap.size ≤ g) (hb : Below wr.heap.size wr W4) (hT : RT W4 p g s) (ho : OwnQ w5 w.heap.size v' (rs ++ [p])) (hg : W4.grownBy w5 vb.ownBlock) : Pl w w5 q r n va v' ps (rs ++ [p]) (gs ++ [g]) ss (ss' ++ [s]) k k' := by
  have h4 := h.below hb
  have hO : Only W4 w5 (fun b => vb.ownBlock = some b) := only_of_grown hg (fun b hb => .inl hb)
  refine ⟨h4.tals.only hO (fun b hb e => own_own_ne h4.tals.own h4.refs.own (by decide) hb e) (fun j p' h1 => ?_), RefsAt.snoc h4.refs ho (fun j p' g' s' h1 h2 h3 => ?_) ⟨Blk.grown hT.blk hg (fun e => by have := (h.refs.own.blk p e.symm).2; omega), Blk.grown hT.net hg (fun e => by have := (h.refs.own.blk g e.symm).2; omega)⟩ (fun j p' hj => ?_) (fun j g' hj => ?_), Blk.grown h4.tk hg (fun e => own_blk_ne h4.refs.own h4.tk (by decide) e.symm), Blk.grown h4.rk hg (fun e => own_blk_ne h4.refs.own h4.rk (by decide) e.symm), h4.bel.trans (hO.below h4.bel.size (fun b e => (h4.refs.own.blk b e).1)), h.fq, h.fr, h.fp, snoc_le h.frs (by have := h.bel.size; omega), snoc_le h.fg (by have := h.bel.size; omega)⟩
  · obtain ⟨s1, _, t1⟩ := h4.tals.ex h1
    exact fun e => own_blk_ne h4.refs.own t1 (by decide) e
  · have t1 := h4.refs.at_ j p' g' s' h1 h2 h3
    exact ⟨Blk.grown t1.blk hg (fun e => own_blk_ne h4.refs.own t1.blk (by decide) e.symm), Blk.grown t1.net hg (fun e => own_blk_ne h4.refs.own t1.net (by decide) e.symm)⟩
  · obtain ⟨g', hg'⟩ := h.refs.gx hj
    obtain ⟨s, _, ht⟩ := h.refs.ex hj hg'
    have := ht.lt
    omega
  · obtain ⟨p', hp'⟩ : ∃ p', rs[j]? = some p' := ⟨_, List.getElem?_eq_getElem (by rw [← h.refs.leng]; exact (List.getElem?_eq_some_iff.1 hj).1)⟩
    obtain ⟨s, _, ht⟩ := h.refs.ex hp' hj
    have := ht.lt
    omega
end
theorem Pl.rows {w wr : World} {q r N ga gb c2 c3 X p rp : Nat} {n : Int} {ps rs gs : List Nat} {ss ss' : List TS} {k k' : KS} (h : Pl w wr q r n (.slice (some ⟨ga, 0, none⟩) N c2) (.slice (some ⟨gb, 0, none⟩) N c3) ps rs gs ss ss' k k') (hl : ps.length = N ∧ rs.length = N) (hp : ps[X]? = some p) (hr : rs[X]? = some rp) : wr.cell? ⟨ga, X, none⟩ = some (.pointer (some ⟨p, 0, none⟩)) ∧ wr.cell? ⟨gb, X, none⟩ = some (.pointer (some ⟨rp, 0, none⟩)) := by
  obtain ⟨h1, h2⟩ := hl
  obtain ⟨g1, e1, d1⟩ := at_P (c := c2) (by rw [h1]; exact h.tals.own) hp
  obtain ⟨g2, e2, d2⟩ := at_Q (c := c3) (by rw [h2]; exact h.refs.own) hr
  cases e1
  cases e2
  exact ⟨d1, d2⟩
theorem net2_call (w : World) (p : Nat) (c n0 n1 m : Int) (h : Tl w p c n0 n1 m) : Calls Try.prog 12 #[.pointer (some ⟨p, 0, none⟩), .int .i64 2] w fun e w' => e = .returned (.int .i64 0) ∧ w' = w := by
  have HN := hide (none_call w p c n0 n1 m h)
  obtain ⟨h0, h1, h2, h3, h4⟩ := h.all
  go_enter Try.func12, Try.ntmps12
  go_wp2_with (go_at_call 27; refine HN.out.mono ?_; rintro e w' ⟨rfl, rfl⟩)
  go_ret
  exact ⟨rfl, rfl⟩
theorem idx {N : Nat} (hN : 1 ≤ N) (hN2 : N ≤ 16) (a : Int) : ∃ X : Nat, X < N ∧ ((a.tmod N < 0 ∧ wrap64 (a.tmod N + N) = X) ∨ (a.tmod N = X)) := by
  have h1 : a.tmod N < N := Int.tmod_lt_of_pos a (by omega)
  have h2 : -(N : Int) < a.tmod N := by
    have := Int.tmod_lt_of_pos (-a) (b := (N : Int)) (by omega)
    rw [Int.neg_tmod] at this
    omega
  by_cases h : a.tmod N < 0
  · refine ⟨(a.tmod N + N).toNat, by omega, .inl ⟨h, ?_⟩⟩
    unfold wrap64
    omega
  · exact ⟨(a.tmod N).toNat, by omega, .inr (by omega)⟩
end Go.Proofs.Ytkchbnmnkcffbaa.Colour
