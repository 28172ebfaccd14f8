/- The ladder's Cut in a rung. No law is proved here. -/
import Derived.Test.YtkhdghlgkljdgaaLJ
namespace Go.Proofs.Ytkhdghlgkljdgaa.LQ
open Go.Proofs Go.Proofs.Ytkhdghlgkljdgaa.CQ Go.Proofs.Ytkhdghlgkljdgaa.Ref02 Go.Shelf Go.RowKit Go.Deep Go.Sort Go.Proofs.Ytkhdghlgkljdgaa.SortPure Go.Proofs.Ytkhdghlgkljdgaa.Types Go.Proofs.Ytkhdghlgkljdgaa.Heap Go.Proofs.Ytkhdghlgkljdgaa.Row Go.Proofs.Ytkhdghlgkljdgaa.Ord Go.Proofs.Ytkhdghlgkljdgaa.Sorted Go.Proofs.YtkhdghlgkljdgaaW.PrintWords Go.Proofs.YtkhdghlgkljdgaaW.PrintLast Go.Proofs.YtkhdghlgkljdgaaW.PrintMore
set_option linter.unusedVariables false
set_option linter.unusedSimpArgs false
theorem own_block {w : World} {base : Nat} {A : Option Addr} {n c : Nat} {l : List M} (h : OwnM w base (.slice A n c) l) {y : Nat} (hb : (Value.slice A n c).ownBlock = some y) : n = l.length ∧ l.length ≤ c ∧ A = some ⟨y, 0, none⟩ := by
  rcases h.2 with ⟨hv, _⟩ | ⟨g', cap, cur, hv, _, _, hc, _⟩
  · injection hv with h1 h2 h3
    subst h1
    simp [Value.ownBlock] at hb
  · injection hv with h1 h2 h3
    subst h1 h2 h3
    simp only [Value.ownBlock, Option.some.injEq] at hb
    subst hb
    exact ⟨rfl, hc, rfl⟩
theorem get_mid {α : Type} (pre : List α) (r : α) (post : List α) : (pre ++ r :: post)[pre.length]'(by simp) = r := by simp
theorem set_mid {α : Type} (pre : List α) (r r' : α) (post : List α) : (pre ++ r :: post).set pre.length r' = pre ++ r' :: post := by simp
section
variable {w w' : World} {S T : Nat → Prop} {g : Nat} {A A' : Option Addr} {c c' : Nat} {b b' : List M} {most : Int} {R R' : Option Addr} {rc rc' : Nat} {pre post : List Rg} {r r' : Rg}
theorem mem_mid {q r r' : Rg} {pre post : List Rg} (h : q ∈ pre ++ r' :: post) : q = r' ∨ (q ∈ pre ++ r :: post ∧ (q ∈ pre ∨ q ∈ post)) := by
  rcases List.mem_append.1 h with e | e
  · exact .inr ⟨List.mem_append_left _ e, .inl e⟩
  · rcases List.mem_cons.1 e with e | e
    · exact .inl e
    · exact .inr ⟨List.mem_append_right _ (List.mem_cons_of_mem _ e), .inr e⟩
/-- Another rung at its place. -/
theorem LAt.setr (h : LAt w S g A c b most R rc (pre ++ r :: post)) (hN : ∀ x, w.heap.size ≤ x → S x) (hO : Only w w' T) (hT : ∀ x, T x → x < w.heap.size → x = r.x ∨ (Value.slice R (pre ++ r :: post).length rc).ownBlock = some x)
    (hrow : OwnR w' (.slice R (pre ++ r' :: post).length rc) (pre ++ r' :: post)) (hr : OwnM w' 0 (.slice (some ⟨r'.x, 0, none⟩) r'.l.length r'.c) r'.l) (hx : r'.x = r.x ∨ w.heap.size ≤ r'.x) : LAt w' S g A c b most R rc (pre ++ r' :: post) := by
  have hrm : r ∈ pre ++ r :: post := by simp
  have hlt : ∀ q ∈ pre ++ r :: post, q.x < w.heap.size := fun q hq => ((h.rung q hq).blk q.x rfl).2
  have hlen : (pre ++ r' :: post).length = (pre ++ r :: post).length := by simp
  have hob : ∀ n, (Value.slice R n rc).ownBlock = (Value.slice R (pre ++ r :: post).length rc).ownBlock := fun n => by cases R <;> rfl
  have hnd := h.nd
  rw [List.map_append, List.map_cons, List.nodup_append, List.nodup_cons] at hnd
  obtain ⟨n1, ⟨n2, n3⟩, n4⟩ := hnd
  have hne : ∀ q, q ∈ pre ∨ q ∈ post → q.x ≠ r.x := fun q hq e => by
    rcases hq with hq | hq
    · exact n4 q.x (List.mem_map.2 ⟨q, hq, rfl⟩) r.x List.mem_cons_self e
    · exact n2 (List.mem_map.2 ⟨q, hq, e⟩)
  have hne' : ∀ q, q ∈ pre ∨ q ∈ post → q.x ≠ r'.x := fun q hq e => by
    rcases hx with e' | e'
    · exact hne q hq (e.trans e')
    · have := hlt q (by rcases hq with hq | hq; exact List.mem_append_left _ hq; exact List.mem_append_right _ (List.mem_cons_of_mem _ hq))
      omega
  refine ⟨?_, h.bot.move (fun x hx => hO.block x (h.bot.blk x hx).2 (fun q => ?_)), hrow, fun q hq => ?_, ?_, fun q hq e => ?_, h.sg, h.sb, fun x hx => h.sr x ((hob _).symm.trans hx), fun q hq => ?_⟩
  · rw [hlen]
    refine h.blk.only hO (fun q => ?_)
    rcases hT g q h.blk.lt with e | e
    · exact h.xg hrm e.symm
    · exact h.rg e
  · rcases hT x q (h.bot.blk x hx).2 with e | e
    · exact h.nb r hrm (e ▸ hx)
    · exact h.rb e hx
  · rcases mem_mid (r := r) hq with e | ⟨e, e2⟩
    · rw [e]; exact hr
    · refine (h.rung q e).move (fun x hx => hO.block x ((h.rung q e).blk x hx).2 (fun q' => ?_))
      simp only [Value.ownBlock, Option.some.injEq] at hx
      subst hx
      rcases hT _ q' (hlt q e) with e' | e'
      · exact hne q e2 e'
      · exact h.rx e e'
  · rw [List.map_append, List.map_cons, List.nodup_append, List.nodup_cons]
    refine ⟨n1, ⟨fun hm => ?_, n3⟩, fun a ha b' hb' e => ?_⟩
    · obtain ⟨q, hq, e⟩ := List.mem_map.1 hm
      exact hne' q (.inr hq) e
    · obtain ⟨q, hq, rfl⟩ := List.mem_map.1 ha
      rcases List.mem_cons.1 hb' with e' | e'
      · exact hne' q (.inl hq) (e.trans e')
      · exact n4 q.x ha b' (List.mem_cons_of_mem _ e') e
  · rcases mem_mid (r := r) hq with e' | ⟨e', _⟩
    · rcases hx with q' | q'
      · rw [e', q'] at e
        exact h.nb r hrm e
      · have := (h.bot.blk _ e).2
        rw [e'] at this
        omega
    · exact h.nb q e' e
  · rcases mem_mid (r := r) hq with e' | ⟨e', _⟩
    · rcases hx with q' | q'
      · rw [e', q']; exact h.ss r hrm
      · rw [e']; exact hN _ q'
    · exact h.ss q e'
/-- A rung taken out of the row. -/
theorem LAt.dropr (h : LAt w S g A c b most R rc (pre ++ r :: post)) (hN : ∀ x, w.heap.size ≤ x → S x) (hO : Only w w' T) (hT : ∀ x, T x → x < w.heap.size → x = g ∨ (Value.slice R (pre ++ r :: post).length rc).ownBlock = some x)
    (hblk : Blk w' g tQ #[.slice A b.length c, .int .i64 most, .slice R' (pre ++ post).length rc']) (hrow : OwnR w' (.slice R' (pre ++ post).length rc') (pre ++ post))
    (hnew : ∀ x, (Value.slice R' (pre ++ post).length rc').ownBlock = some x → (Value.slice R (pre ++ r :: post).length rc).ownBlock = some x ∨ w.heap.size ≤ x) : LAt w' S g A c b most R' rc' (pre ++ post) := by
  have hm : ∀ q ∈ pre ++ post, q ∈ pre ++ r :: post := fun q hq => by
    rcases List.mem_append.1 hq with e | e
    · exact List.mem_append_left _ e
    · exact List.mem_append_right _ (List.mem_cons_of_mem _ e)
  refine ⟨hblk, h.bot.move (fun x hx => hO.block x (h.bot.blk x hx).2 (fun q => ?_)), hrow, fun q hq => ?_, ?_, fun q hq => h.nb q (hm q hq), h.sg, h.sb, fun x hx => ?_, fun q hq => h.ss q (hm q hq)⟩
  · rcases hT x q (h.bot.blk x hx).2 with e | e
    · exact h.bg (e ▸ hx)
    · exact h.rb e hx
  · refine (h.rung q (hm q hq)).move (fun x hx => hO.block x ((h.rung q (hm q hq)).blk x hx).2 (fun q' => ?_))
    simp only [Value.ownBlock, Option.some.injEq] at hx
    subst hx
    rcases hT _ q' ((h.rung q (hm q hq)).blk q.x rfl).2 with e | e
    · exact h.xg (hm q hq) e
    · exact h.rx (hm q hq) e
  · have : ((pre ++ post).map Rg.x).Sublist ((pre ++ r :: post).map Rg.x) := by
      refine List.Sublist.map _ (List.Sublist.append_left (List.sublist_cons_self r post) pre)
    exact h.nd.sublist this
  · rcases hnew x hx with q | q
    · exact h.sr x q
    · exact hN x q
end
/-- One cell of the row of rungs put. -/
theorem own_putR {w : World} {x rc : Nat} {pre post : List Rg} {r r' : Rg} (h : OwnR w (.slice (some ⟨x, 0, none⟩) (pre ++ r :: post).length rc) (pre ++ r :: post)) :
    OwnR (w.setCell ⟨x, pre.length, none⟩ (.slice (some ⟨r'.x, 0, none⟩) r'.l.length r'.c)) (.slice (some ⟨x, 0, none⟩) (pre ++ r' :: post).length rc) (pre ++ r' :: post) ∧ Only w (w.setCell ⟨x, pre.length, none⟩ (.slice (some ⟨r'.x, 0, none⟩) r'.l.length r'.c)) (fun y => y = x) := by
  obtain ⟨q1, q2⟩ := own_put h flatR pre.length r' (by simp)
  rw [set_mid, Nat.mul_one] at q1
  rw [Nat.mul_one] at q2
  have hl : (pre ++ r :: post).length = (pre ++ r' :: post).length := by simp
  rw [hl] at q1
  exact ⟨q1, q2⟩
end Go.Proofs.Ytkhdghlgkljdgaa.LQ
