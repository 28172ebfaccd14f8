/- The program's tallies and token beside the reference's: what a call of either leaves. No law is proved here. -/
import Derived.Test.YtkchbnmnkcffbaaTalW
namespace Go.Proofs.Ytkchbnmnkcffbaa.Colour
open Go.RowKit Go.Sort Go.Proofs.Ytkchbnmnkcffbaa.GrK Go.Proofs.Ytkchbnmnkcffbaa.Types Go.Proofs.Ytkchbnmnkcffbaa.Heap Go.Proofs.Ytkchbnmnkcffbaa.Row Go.Proofs.YtkchbnmnkcffbaaW.PrintWords Go.Proofs.YtkchbnmnkcffbaaW.PrintLast Go.Proofs.YtkchbnmnkcffbaaW.PrintMore
set_option linter.unusedVariables false
set_option linter.unusedSimpArgs false
theorem infoQ : (Try.prog.info? 58).map (fun i => (i.zero, i.size, i.bytes)) = some (some (.pointer none), 1, 8) := by kernel_rfl
abbrev OwnQ (w : World) (base : Nat) (v : Value) (l : List Nat) : Prop := Own encP 1 58 w base v l
theorem at_Q {w : World} {base : Nat} {A : Option Addr} {c : Nat} {ps : List Nat} (h : OwnQ w base (.slice A ps.length c) ps) {j p : Nat} (hp : ps[j]? = some p) : ∃ g, A = some ⟨g, 0, none⟩ ∧ w.cell? ⟨g, j, none⟩ = some (.pointer (some ⟨p, 0, none⟩)) := by
  have hj : j < ps.length := (List.getElem?_eq_some_iff.1 hp).1
  obtain ⟨A', c', hv, _, h3⟩ := h.slice
  cases hv
  obtain ⟨g, rfl⟩ := h3 (by omega)
  refine ⟨g, rfl, ?_⟩
  have := World.ownsRow.cells h (g := g) rfl j (.pointer (some ⟨p, 0, none⟩)) (by
    have h4 := get_flat_at (enc := encP) (k := 1) flatP ps (i := j) (j := 0) hj (by omega)
    rw [Nat.mul_one, Nat.add_zero] at h4
    rw [h4]
    obtain ⟨_, h5⟩ := List.getElem?_eq_some_iff.1 hp
    rw [h5]
    rfl)
  have hadd : (⟨g, 0, none⟩ : Addr).add j = ⟨g, j, none⟩ := by unfold Addr.add; split <;> simp_all
  rwa [hadd] at this
/-- Tallies of the reference's at the blocks ps, their counts at gs, which hold ss. -/
structure RefsAt (w : World) (base : Nat) (v : Value) (ps gs : List Nat) (ss : List TS) : Prop where
  own : OwnQ w base v ps
  len : ss.length = ps.length
  leng : gs.length = ps.length
  nd : ps.Nodup
  ndg : gs.Nodup
  at_ : ∀ (j p g : Nat) (s : TS), ps[j]? = some p → gs[j]? = some g → ss[j]? = some s → RT w p g s
theorem RT.lt {w : World} {p g : Nat} {s : TS} (h : RT w p g s) : p < w.heap.size ∧ g < w.heap.size := ⟨h.blk.lt, h.net.lt⟩
theorem RT.only {w w' : World} {p g : Nat} {s : TS} {S : Nat → Prop} (h : RT w p g s) (hO : Only w w' S) (hp : ¬ S p) (hg : ¬ S g) : RT w' p g s := ⟨h.blk.only hO hp, h.net.only hO hg⟩
theorem nodup_ne {l : List Nat} (h : l.Nodup) {i j a b : Nat} (hi : l[i]? = some a) (hj : l[j]? = some b) (hij : i ≠ j) : a ≠ b := by
  rintro rfl
  obtain ⟨hi1, hi2⟩ := List.getElem?_eq_some_iff.1 hi
  obtain ⟨hj1, hj2⟩ := List.getElem?_eq_some_iff.1 hj
  have hpw := List.pairwise_iff_getElem.1 h
  rcases Nat.lt_trichotomy i j with g | g | g
  · exact hpw i j hi1 hj1 g (hi2.trans hj2.symm)
  · exact hij g
  · exact hpw j i hj1 hi1 g (hj2.trans hi2.symm)
theorem nodup_snoc {l : List Nat} (h : l.Nodup) {p : Nat} (hn : ∀ (j p' : Nat), l[j]? = some p' → p' ≠ p) : (l ++ [p]).Nodup := by
  rw [List.nodup_append]
  refine ⟨h, by simp, fun a ha b hb => ?_⟩
  obtain ⟨j, hj, rfl⟩ := List.getElem_of_mem ha
  simp only [List.mem_singleton] at hb
  subst hb
  exact hn j _ (List.getElem?_eq_getElem hj)
section
variable {w w' : World} {base : Nat} {v : Value} {ps gs : List Nat} {ss : List TS}
theorem RefsAt.below (h : RefsAt w base v ps gs ss) (hb : Below w.heap.size w w') : RefsAt w' base v ps gs ss :=
  ⟨h.own.below hb, h.len, h.leng, h.nd, h.ndg, fun j p g s hp hg hs => (h.at_ j p g s hp hg hs).below hb⟩
theorem RefsAt.ex (h : RefsAt w base v ps gs ss) {j p g : Nat} (hp : ps[j]? = some p) (hg : gs[j]? = some g) : ∃ s, ss[j]? = some s ∧ RT w p g s := by
  have hj : j < ps.length := (List.getElem?_eq_some_iff.1 hp).1
  have hj2 : j < ss.length := by rw [h.len]; exact hj
  exact ⟨ss[j], List.getElem?_eq_getElem hj2, h.at_ j p g ss[j] hp hg (List.getElem?_eq_getElem hj2)⟩
theorem RefsAt.gx (h : RefsAt w base v ps gs ss) {j p : Nat} (hp : ps[j]? = some p) : ∃ g, gs[j]? = some g :=
  ⟨_, List.getElem?_eq_getElem (by rw [h.leng]; exact (List.getElem?_eq_some_iff.1 hp).1)⟩
/-- Behind a step that writes no block of the reference's tallies. -/
theorem RefsAt.only {S : Nat → Prop} (h : RefsAt w base v ps gs ss) (hO : Only w w' S) (ho : ∀ b, v.ownBlock = some b → ¬ S b) (hp : ∀ (j p g : Nat), ps[j]? = some p → gs[j]? = some g → ¬ S p ∧ ¬ S g) : RefsAt w' base v ps gs ss :=
  ⟨h.own.only hO ho, h.len, h.leng, h.nd, h.ndg, fun j p g s h1 h2 h3 => (h.at_ j p g s h1 h2 h3).only hO (hp j p g h1 h2).1 (hp j p g h1 h2).2⟩
theorem TalsAt.only {S : Nat → Prop} (h : TalsAt w base v ps ss) (hO : Only w w' S) (ho : ∀ b, v.ownBlock = some b → ¬ S b) (hp : ∀ (j p : Nat), ps[j]? = some p → ¬ S p) : TalsAt w' base v ps ss :=
  ⟨h.own.only hO ho, h.len, h.nd, fun j p s h1 h2 => Blk.only (h.at_ j p s h1 h2) hO (hp j p h1)⟩
/-- Behind a call that writes the reference's tally of j, and a token q. -/
theorem RefsAt.set_ {q j p g n a : Nat} {cs : Array Value} (h : RefsAt w base v ps gs ss) (hq : Blk w q 61 cs) (hp : ps[j]? = some p) (hg : gs[j]? = some g) (hO : Only w w' (fun b => b = q ∨ b = p ∨ b = g)) {s : TS} (ht : RT w' p g s) : RefsAt w' base v ps gs (ss.set j s) := by
  obtain ⟨s0, h0, r0⟩ := h.ex hp hg
  refine ⟨h.own.only hO (fun b hb e => ?_), by rw [List.length_set]; exact h.len, h.leng, h.nd, h.ndg, fun i p' g' s' hi hj hs => ?_⟩
  · rcases e with e | e | e
    · exact own_blk_ne h.own hq (by decide) (e ▸ hb)
    · exact own_blk_ne h.own r0.blk (by decide) (e ▸ hb)
    · exact own_blk_ne h.own r0.net (by decide) (e ▸ hb)
  · by_cases e : i = j
    · subst e
      rw [hp] at hi
      rw [hg] at hj
      injection hi with hi
      injection hj with hj
      subst hi
      subst hj
      have hlt : i < ss.length := (List.getElem?_eq_some_iff.1 h0).1
      rw [List.getElem?_set_self hlt] at hs
      injection hs with hs
      subst hs
      exact ht
    · rw [List.getElem?_set_ne (fun q => e q.symm)] at hs
      have r1 := h.at_ i p' g' s' hi hj hs
      refine r1.only hO (fun q2 => ?_) (fun q2 => ?_)
      · rcases q2 with q2 | q2 | q2
        · exact Blk.ne_ r1.blk hq (by decide) q2
        · exact nodup_ne h.nd hi hp e q2
        · exact Blk.ne_ r1.blk r0.net (by decide) q2
      · rcases q2 with q2 | q2 | q2
        · exact Blk.ne_ r1.net hq (by decide) q2
        · exact Blk.ne_ r1.net r0.blk (by decide) q2
        · exact nodup_ne h.ndg hj hg e q2
theorem RefsAt.nil (w : World) (base : Nat) : RefsAt w base (.slice none 0 0) [] [] [] := ⟨Own.nil _ _ _ _ _, rfl, rfl, List.nodup_nil, List.nodup_nil, fun j p g s hp => by simp at hp⟩
theorem RefsAt.snoc {p g : Nat} {s : TS} {v' : Value} (h : RefsAt w base v ps gs ss) (ho : OwnQ w' base v' (ps ++ [p])) (hO : ∀ (j p' g' : Nat) (s' : TS), ps[j]? = some p' → gs[j]? = some g' → ss[j]? = some s' → RT w' p' g' s') (ht : RT w' p g s) (hn : ∀ (j p' : Nat), ps[j]? = some p' → p' ≠ p) (hm : ∀ (j g' : Nat), gs[j]? = some g' → g' ≠ g) : RefsAt w' base v' (ps ++ [p]) (gs ++ [g]) (ss ++ [s]) := by
  refine ⟨ho, by simp [h.len], by simp [h.leng], nodup_snoc h.nd hn, nodup_snoc h.ndg hm, fun j p' g' s' hp hg hs => ?_⟩
  rcases Nat.lt_or_ge j ps.length with q | q
  · rw [List.getElem?_append_left q] at hp
    rw [List.getElem?_append_left (by rw [h.leng]; exact q)] at hg
    rw [List.getElem?_append_left (by rw [h.len]; exact q)] at hs
    exact hO j p' g' s' hp hg hs
  · rw [List.getElem?_append_right q] at hp
    rw [List.getElem?_append_right (by rw [h.leng]; exact q), h.leng] at hg
    rw [List.getElem?_append_right (by rw [h.len]; exact q), h.len] at hs
    obtain ⟨k, hk⟩ : ∃ k, j - ps.length = k := ⟨_, rfl⟩
    rw [hk] at hp hs hg
    cases k with
    | zero => simp at hp hs hg; subst hp hs hg; exact ht
    | succ k => simp at hp
end
/-- A token: where, is it counting, the sum, the least. -/
structure KS where
  a : Int
  cnt : Bool
  s : Int
  m : Int
abbrev TkS (w : World) (q : Nat) (n : Int) (k : KS) : Prop := Tk w q n k.a k.cnt k.s k.m
abbrev RKS (w : World) (q : Nat) (n : Int) (k : KS) : Prop := RK w q n k.a k.cnt k.s k.m
/-- All of a play: w the world at the beginning, wr the world at hand. -/
structure Pl (w wr : World) (q r : Nat) (n : Int) (va vb : Value) (ps rs gs : List Nat) (ss ss' : List TS) (k k' : KS) : Prop where
  tals : TalsAt wr w.heap.size va ps ss
  refs : RefsAt wr w.heap.size vb rs gs ss'
  tk : TkS wr q n k
  rk : RKS wr r n k'
  bel : Below w.heap.size w wr
  fq : w.heap.size ≤ q
  fr : w.heap.size ≤ r
  fp : ∀ (j p : Nat), ps[j]? = some p → w.heap.size ≤ p
  frs : ∀ (j p : Nat), rs[j]? = some p → w.heap.size ≤ p
  fg : ∀ (j p : Nat), gs[j]? = some p → w.heap.size ≤ p
section
variable {w wr w' : World} {q r : Nat} {n : Int} {va vb : Value} {ps rs gs : List Nat} {ss ss' : List TS} {k k' k2 : KS}
theorem Pl.below (h : Pl w wr q r n va vb ps rs gs ss ss' k k') (hb : Below wr.heap.size wr w') : Pl w w' q r n va vb ps rs gs ss ss' k k' :=
  ⟨h.tals.below hb, h.refs.below hb, Blk.below' h.tk hb, Blk.below' h.rk hb, below_step h.bel hb, h.fq, h.fr, h.fp, h.frs, h.fg⟩
theorem Pl.drew (h : Pl w wr q r n va vb ps rs gs ss ss' k k') : Pl w wr.drew q r n va vb ps rs gs ss ss' k k' :=
  h.below (below_drewN (Below.refl _ _) 1)
theorem Pl.alloc (h : Pl w wr q r n va vb ps rs gs ss ss' k k') (o : Obj) : Pl w (wr.alloc o) q r n va vb ps rs gs ss ss' k k' :=
  h.below ((Below.refl _ _).alloc (Nat.le_refl _) _)
/-- Behind a call of the program's that writes the tally of j and the token. -/
theorem Pl.stepK {j p : Nat} {s : TS} (h : Pl w wr q r n va vb ps rs gs ss ss' k k') (hp : ps[j]? = some p) (hO : Only wr w' (fun b => b = q ∨ b = p)) (hT : TlS w' p s) (hK : TkS w' q n k2) : Pl w w' q r n va vb ps rs gs (ss.set j s) ss' k2 k' := by
  obtain ⟨s0, _, t0⟩ := h.tals.ex hp
  refine ⟨h.tals.set_ hp hO (fun i p' hi e => ?_) (own_blk_ne h.tals.own h.tk (by decide)) hT, h.refs.only hO (fun b hb e => ?_) (fun i p' g' hi hg => ?_), hK, Blk.only h.rk hO (fun e => ?_), h.bel.trans (hO.below h.bel.size (fun b e => ?_)), h.fq, h.fr, h.fp, h.frs, h.fg⟩
  · obtain ⟨s1, _, t1⟩ := h.tals.ex hi
    exact Blk.ne_ t1 h.tk (by decide) e
  · rcases e with e | e
    · exact own_blk_ne h.refs.own h.tk (by decide) (e ▸ hb)
    · exact own_blk_ne h.refs.own t0 (by decide) (e ▸ hb)
  · obtain ⟨s1, _, t1⟩ := h.refs.ex hi hg
    constructor
    · intro e
      rcases e with e | e
      · exact Blk.ne_ t1.blk h.tk (by decide) e
      · exact Blk.ne_ t1.blk t0 (by decide) e
    · intro e
      rcases e with e | e
      · exact Blk.ne_ t1.net h.tk (by decide) e
      · exact Blk.ne_ t1.net t0 (by decide) e
  · rcases e with e | e
    · exact Blk.ne_ h.rk h.tk (by decide) e
    · exact Blk.ne_ h.rk t0 (by decide) e
  · rcases e with e | e
    · rw [e]; exact h.fq
    · rw [e]; exact h.fp _ _ hp
theorem Pl.stepK1 {j p : Nat} {s : TS} (h : Pl w wr q r n va vb ps rs gs ss ss' k k') (hp : ps[j]? = some p) (hO : Only wr w' (fun b => b = p)) (hT : TlS w' p s) : Pl w w' q r n va vb ps rs gs (ss.set j s) ss' k k' := by
  obtain ⟨s0, _, t0⟩ := h.tals.ex hp
  exact h.stepK hp (hO.mono (fun b e => .inr e)) hT (Blk.only h.tk hO (fun e => Blk.ne_ h.tk t0 (by decide) e))
/-- Behind a call of the reference's. -/
theorem Pl.stepR {j p g : Nat} {s : TS} (h : Pl w wr q r n va vb ps rs gs ss ss' k k') (hp : rs[j]? = some p) (hg : gs[j]? = some g) (hO : Only wr w' (fun b => b = r ∨ b = p ∨ b = g)) (hT : RT w' p g s) (hK : RKS w' r n k2) : Pl w w' q r n va vb ps rs gs ss (ss'.set j s) k k2 := by
  obtain ⟨s0, _, t0⟩ := h.refs.ex hp hg
  refine ⟨h.tals.only hO (fun b hb e => ?_) (fun i p' hi e => ?_), h.refs.set_ (n := 0) (a := 0) h.rk hp hg hO hT, Blk.only h.tk hO (fun e => ?_), hK, h.bel.trans (hO.below h.bel.size (fun b e => ?_)), h.fq, h.fr, h.fp, h.frs, h.fg⟩
  · rcases e with e | e | e
    · exact own_blk_ne h.tals.own h.rk (by decide) (e ▸ hb)
    · exact own_blk_ne h.tals.own t0.blk (by decide) (e ▸ hb)
    · exact own_blk_ne h.tals.own t0.net (by decide) (e ▸ hb)
  · obtain ⟨s1, _, t1⟩ := h.tals.ex hi
    rcases e with e | e | e
    · exact Blk.ne_ t1 h.rk (by decide) e
    · exact Blk.ne_ t1 t0.blk (by decide) e
    · exact Blk.ne_ t1 t0.net (by decide) e
  · rcases e with e | e | e
    · exact Blk.ne_ h.tk h.rk (by decide) e
    · exact Blk.ne_ h.tk t0.blk (by decide) e
    · exact Blk.ne_ h.tk t0.net (by decide) e
  · rcases e with e | e | e
    · rw [e]; exact h.fr
    · rw [e]; exact h.frs _ _ hp
    · rw [e]; exact h.fg _ _ hg
theorem Pl.stepR1 {j p g : Nat} {s : TS} (h : Pl w wr q r n va vb ps rs gs ss ss' k k') (hp : rs[j]? = some p) (hg : gs[j]? = some g) (hO : Only wr w' (fun b => b = p ∨ b = g)) (hT : RT w' p g s) : Pl w w' q r n va vb ps rs gs ss (ss'.set j s) k k' := by
  obtain ⟨s0, _, t0⟩ := h.refs.ex hp hg
  exact h.stepR hp hg (hO.mono (fun b e => .inr e)) hT (Blk.only h.rk hO (fun e => by
    rcases e with e | e
    · exact Blk.ne_ h.rk t0.blk (by decide) e
    · exact Blk.ne_ h.rk t0.net (by decide) e))
/-- A block of another type stands behind such calls. -/
theorem Pl.farK {j p g : Nat} {t : TypeId} {cs : Array Value} (h : Pl w wr q r n va vb ps rs gs ss ss' k k') (hp : ps[j]? = some p) (hO : Only wr w' (fun b => b = q ∨ b = p)) (hB : Blk wr g t cs) (h1 : t ≠ 72) (h2 : t ≠ 69) : Blk w' g t cs := by
  obtain ⟨s0, _, t0⟩ := h.tals.ex hp
  refine hB.only hO (fun e => ?_)
  rcases e with e | e
  · exact Blk.ne_ hB h.tk h1 e
  · exact Blk.ne_ hB t0 h2 e
theorem Pl.farR {j p g x : Nat} {t : TypeId} {cs : Array Value} (h : Pl w wr q r n va vb ps rs gs ss ss' k k') (hp : rs[j]? = some p) (hg : gs[j]? = some g) (hO : Only wr w' (fun b => b = r ∨ b = p ∨ b = g)) (hB : Blk wr x t cs) (h1 : t ≠ 61) (h2 : t ≠ 65) (h3 : t ≠ 3) : Blk w' x t cs := by
  obtain ⟨s0, _, t0⟩ := h.refs.ex hp hg
  refine hB.only hO (fun e => ?_)
  rcases e with e | e | e
  · exact Blk.ne_ hB h.rk h1 e
  · exact Blk.ne_ hB t0.blk h2 e
  · exact Blk.ne_ hB t0.net h3 e
end
theorem okS_set {ss : List TS} {j : Nat} {s : TS} (h : ∀ (i : Nat) s, ss[i]? = some s → OkS s) (hs : OkS s) : ∀ (i : Nat) s', (ss.set j s)[i]? = some s' → OkS s' := by
  intro i s' hi
  by_cases e : j = i
  · subst e
    have hlt : j < ss.length := by
      have := (List.getElem?_eq_some_iff.1 hi).1
      rwa [List.length_set] at this
    rw [List.getElem?_set_self hlt] at hi
    injection hi with hi
    exact hi ▸ hs
  · rw [List.getElem?_set_ne e] at hi
    exact h i s' hi
end Go.Proofs.Ytkchbnmnkcffbaa.Colour
