/- A row of elements of k cells of the law's own, as a list: how it is read, grown, cut, written, sorted. No law is proved here. -/
import Derived.Test.YtkhdghlgkljdgaaHeap
import Derived.Test.YtkhdghlgkljdgaaSortPure2
import Derived.Shelf.SlSortCmp.KitK
import Derived.Laws.Append
import Derived.Laws.AppendOwn
import Derived.Deep.OwnRows
import Derived.Maps.AppendAt
import Derived.Deep.Fields
import Derived.ProofKit
set_option linter.unusedVariables false
set_option linter.unusedSimpArgs false
set_option linter.unusedSectionVars false
namespace Go.Proofs.Ytkhdghlgkljdgaa.Row
open Go.RowKit Go.Sort Go.Proofs Go.Proofs.Ytkhdghlgkljdgaa.Heap Go.Proofs.Ytkhdghlgkljdgaa.SortPure Go.Proofs.YtkhdghlgkljdgaaW.PrintWords
/-- An element's cells: k of them, each one cell. -/
structure Flat {α : Type} (enc : α → List Value) (k : Nat) : Prop where
  len : ∀ x, (enc x).length = k
  one : ∀ x, ∀ v ∈ enc x, v.oneCell' = true
  pos : 0 < k
section
variable {α : Type} {enc : α → List Value} {k : Nat}
theorem length_flat (F : Flat enc k) (l : List α) : (l.flatMap enc).length = l.length * k := by
  induction l with
  | nil => simp
  | cons a l ih => rw [List.flatMap_cons, List.length_append, F.len, ih, List.length_cons, Nat.add_mul]; omega
theorem get_flat (F : Flat enc k) (l : List α) (t : Nat) : (l.flatMap enc)[t]? = (l[t / k]?).bind (fun x => (enc x)[t % k]?) := by
  have hp := F.pos
  induction l generalizing t with
  | nil => simp
  | cons a l ih =>
    rw [List.flatMap_cons]
    by_cases h : t < k
    · rw [List.getElem?_append_left (by rw [F.len]; exact h), Nat.div_eq_of_lt h, Nat.mod_eq_of_lt h]
      rfl
    · rw [List.getElem?_append_right (by rw [F.len]; omega), F.len, ih]
      obtain ⟨s, rfl⟩ : ∃ s, t = s + k := ⟨t - k, by omega⟩
      rw [Nat.add_sub_cancel, Nat.add_div_right _ hp, Nat.add_mod_right]
      rfl
theorem get_flat_at (F : Flat enc k) (l : List α) {i j : Nat} (hi : i < l.length) (hj : j < k) : (l.flatMap enc)[i * k + j]? = (enc l[i])[j]? := by
  have hd : (i * k + j) / k = i := by
    rw [Nat.mul_comm, Nat.mul_add_div F.pos, Nat.div_eq_of_lt hj]
    omega
  have hm : (i * k + j) % k = j := by rw [Nat.mul_comm, Nat.mul_add_mod, Nat.mod_eq_of_lt hj]
  rw [get_flat F, hd, hm, List.getElem?_eq_getElem hi]
  rfl
theorem take_flat (F : Flat enc k) (l : List α) (n : Nat) : (l.flatMap enc).take (n * k) = (l.take n).flatMap enc := by
  induction l generalizing n with
  | nil => simp
  | cons a l ih =>
    cases n with
    | zero => simp
    | succ n =>
      rw [List.flatMap_cons, List.take_succ_cons, List.flatMap_cons, Nat.add_mul, Nat.one_mul, Nat.add_comm, ← F.len a, List.take_length_add_append, F.len a, ih]
theorem drop_flat (F : Flat enc k) (l : List α) (n : Nat) : (l.flatMap enc).drop (n * k) = (l.drop n).flatMap enc := by
  induction l generalizing n with
  | nil => simp
  | cons a l ih =>
    cases n with
    | zero => simp
    | succ n =>
      rw [List.flatMap_cons, List.drop_succ_cons, Nat.add_mul, Nat.one_mul, Nat.add_comm, ← F.len a, List.drop_length_add_append, F.len a, ih]
end

/-- Value v is a row of the law's own (from block base on), which holds the list l. -/
def Own {α : Type} (enc : α → List Value) (k : Nat) (e : TypeId) (w : World) (base : Nat) (v : Value) (l : List α) : Prop := w.ownsRow base e k v l.length (l.flatMap enc)
section
variable {α : Type} {enc : α → List Value} {k : Nat} {e : TypeId} {w w' : World} {base : Nat} {v : Value} {l : List α}
theorem Own.nil (enc : α → List Value) (k : Nat) (e : TypeId) (w : World) (base : Nat) : Own enc k e w base (.slice none 0 0) [] := World.ownsRow_nil w base e k
theorem Own.move (h : Own enc k e w base v l) (hm : ∀ b, v.ownBlock = some b → w'.heap[b]? = w.heap[b]?) : Own enc k e w' base v l := own_move h hm
theorem Own.blk (h : Own enc k e w base v l) : ∀ b, v.ownBlock = some b → base ≤ b ∧ b < w.heap.size := World.ownsRow.lt h
theorem Own.below (h : Own enc k e w base v l) (hb : Below w.heap.size w w') : Own enc k e w' base v l := h.move (fun b hv => hb.block b (h.blk b hv).2)
theorem Own.only {S : Nat → Prop} (h : Own enc k e w base v l) (hb : Only w w' S) (hs : ∀ b, v.ownBlock = some b → ¬ S b) : Own enc k e w' base v l := h.move (fun b hv => hb.block b (h.blk b hv).2 (hs b hv))
theorem Own.alloc (h : Own enc k e w base v l) (o : Obj) : Own enc k e (w.alloc o) base v l := World.ownsRow.alloc h o
theorem Own.drew (h : Own enc k e w base v l) : Own enc k e w.drew base v l := h
theorem Own.drewN (h : Own enc k e w base v l) (n : Nat) : Own enc k e (w.drewN n) base v l := h
theorem Own.lower {base' : Nat} (h : Own enc k e w base v l) (hb : base' ≤ base) : Own enc k e w base' v l := own_weaken h hb
theorem Own.slice (h : Own enc k e w base v l) : ∃ A c, v = .slice A l.length c ∧ l.length ≤ c ∧ (0 < l.length → ∃ g, A = some ⟨g, 0, none⟩) := by
  rcases h.2 with ⟨rfl, h0⟩ | ⟨g, cap, cur, rfl, _, _, hc, _⟩
  · exact ⟨none, 0, by rw [h0], by omega, fun hp => by omega⟩
  · exact ⟨_, cap, rfl, hc, fun _ => ⟨g, rfl⟩⟩
/-- It reads as a row of its kind. -/
theorem Own.reads {d : Kd α} (h : Own enc k e w base v l) (F : Flat enc k) (hd : d.sz = k) (hK : ∀ w x, d.K w x (enc x)) : ∃ A c, v = .slice A l.length c ∧ l.length ≤ c ∧ Kd.C d w A l.length l ∧ (∀ ad, A = some ad → some ad.block = v.ownBlock) := by
  rcases h.2 with ⟨rfl, h0⟩ | ⟨g, cap, cur, rfl, hb, hg, hc, hm, hs, ht⟩
  · have : l = [] := List.eq_nil_of_length_eq_zero h0
    subst this
    exact ⟨none, 0, rfl, Nat.le_refl _, ⟨rfl, by simp, fun hp => by simp at hp⟩, fun ad ha => by cases ha⟩
  · refine ⟨_, cap, rfl, hc, ⟨rfl, by unfold maxLen at hm; omega, fun _ => ⟨_, rfl, fun j p hp => ⟨enc p, by rw [F.len, hd], hK w p, fun i u hu => ?_⟩⟩⟩, fun ad ha => by cases ha; rfl⟩
    obtain ⟨hj, rfl⟩ := List.getElem?_eq_some_iff.1 hp
    have hi : i < k := by
      rw [← F.len l[j]]
      exact (List.getElem?_eq_some_iff.1 hu).1
    rw [hd]
    exact World.ownsRow.cells h (g := g) rfl (j * k + i) u (by rw [get_flat_at F l hj hi]; exact hu)
theorem Own.holds [Inhabited α] {g c : Nat} (h : Own enc k e w base (.slice (some ⟨g, 0, none⟩) l.length c) l) (F : Flat enc k) : HoldsK enc k w g 0 l.toArray := by
  intro t ht
  rw [size_flatK] at ht
  have ht' : t < l.length * k := by simpa using ht
  rcases h.2 with ⟨hv, _⟩ | ⟨g', cap, cur, hv, hb, hg, hc, hm, hs, hk⟩
  · cases hv
  · injection hv with hv _ _
    injection hv with hv
    injection hv with hv
    subst hv
    have hd : t / k < l.length := Nat.div_lt_of_lt_mul (by rw [Nat.mul_comm]; exact ht')
    have hmod : t % k < k := Nat.mod_lt _ F.pos
    refine ⟨?_, ?_⟩
    · have e1 : (flatK enc k l.toArray)[t]! = (enc l[t / k])[t % k]! := by
        rw [get_flatK enc k l.toArray t ht]
        show (enc l.toArray[t / k]!)[t % k]! = _
        rw [getElem!_pos l.toArray (t / k) (by simpa using hd)]
        rfl
      have hlen : t % k < (enc l[t / k]).length := by rw [F.len]; exact hmod
      have := World.ownsRow.cells h (g := g) rfl t (enc l[t / k])[t % k] (by rw [get_flat F, List.getElem?_eq_getElem hd]; exact List.getElem?_eq_getElem hlen)
      have hadd : (⟨g, 0, none⟩ : Addr).add t = ⟨g, t, none⟩ := by unfold Addr.add; split <;> simp_all
      rw [hadd] at this
      rw [Nat.zero_add, this, e1, getElem!_pos (enc l[t / k]) (t % k) hlen]
      rfl
    · simp [World.frozen?, hg]
theorem flatK_toList [Inhabited α] (F : Flat enc k) (d : Array α) : (flatK enc k d).toList = d.toList.flatMap enc := by
  apply List.ext_getElem?
  intro t
  by_cases ht : t < d.size * k
  · have hd : t / k < d.size := Nat.div_lt_of_lt_mul (by rw [Nat.mul_comm]; exact ht)
    have hmod : t % k < k := Nat.mod_lt _ F.pos
    have hlen : t % k < (enc d[t / k]).length := by rw [F.len]; exact hmod
    have hs : t < (flatK enc k d).size := by rw [size_flatK]; exact ht
    rw [get_flat F, Array.getElem?_toList, Array.getElem?_toList, Array.getElem?_eq_getElem hs, Array.getElem?_eq_getElem hd]
    have e1 := get_flatK enc k d t ht
    rw [getElem!_pos _ t hs, getElem!_pos d (t / k) hd, getElem!_pos _ (t % k) hlen] at e1
    rw [e1]
    exact (List.getElem?_eq_getElem hlen).symm
  · rw [List.getElem?_eq_none (by rw [Array.length_toList, size_flatK]; omega), List.getElem?_eq_none (by rw [length_flat F, Array.length_toList]; omega)]
theorem putCells_take (F : Array Value) (c : Array Value) (h : F.size ≤ c.size) : (putCells id 0 F c).toList.take F.size = F.toList := by
  apply List.ext_getElem?
  intro t
  rw [List.getElem?_take]
  by_cases ht : t < F.size
  · rw [if_pos ht, Array.getElem?_toList, Array.getElem?_toList]
    unfold putCells
    rw [Array.getElem?_mapIdx, Array.getElem?_eq_getElem (by omega : t < c.size), Option.map_some, if_pos ⟨Nat.zero_le _, by omega⟩, Array.getElem?_eq_getElem ht, Nat.sub_zero, getElem!_pos F t ht]
    rfl
  · rw [if_neg ht, Array.getElem?_toList, Array.getElem?_eq_none (by omega)]
/-- Behind a world of the sort's. -/
theorem Own.sorted [Inhabited α] {g c : Nat} (h : Own enc k e w base (.slice (some ⟨g, 0, none⟩) l.length c) l) (F : Flat enc k) {d' : Array α} (S : SWK enc k w g 0 d' w') (hl : d'.toList.length = l.length) :
    Own enc k e w' base (.slice (some ⟨g, 0, none⟩) d'.toList.length c) d'.toList ∧ Only w w' (fun b => b = g) := by
  obtain ⟨m, os, rfl⟩ := S
  rcases h.2 with ⟨hv, _⟩ | ⟨g', cap, cur, hv, hb, hg, hc, hm, hs, hk⟩
  · cases hv
  · injection hv with hv hv2 hv3
    injection hv with hv
    injection hv with hv
    subst hv hv3
    have hgs : g < w.heap.size := (Array.getElem?_eq_some_iff.1 hg).1
    have hsz : (flatK enc k d').size ≤ cur.size := by
      rw [size_flatK, hs, ← Array.length_toList, hl]
      exact Nat.mul_le_mul_right _ hc
    have hh : (sortWorldK enc k w g 0 m d' os).heap[g]? = some (.cells (putCells id 0 (flatK enc k d') cur) e (0, 0)) := by
      unfold sortWorldK
      rw [heap_grow_old _ _ (by rw [size_putRowK]; exact hgs)]
      show (w.heap.modify g (onCells (putCells id 0 (flatK enc k d'))))[g]? = _
      rw [Array.getElem?_modify, if_pos rfl, hg]
      rfl
    refine ⟨⟨length_flat F _, .inr ⟨g, c, _, rfl, hb, hh, by omega, hm, by unfold putCells; rw [Array.size_mapIdx]; exact hs, ?_⟩⟩, ?_⟩
    · rw [Array.length_toList, ← size_flatK enc k d', putCells_take _ _ hsz, flatK_toList F]
    · refine ⟨rfl, rfl, rfl, ?_, ?_⟩
      · unfold sortWorldK
        rw [size_grow, size_putRowK]
        show w.heap.size ≤ w.heap.size + _
        omega
      · intro i hi hne
        unfold sortWorldK
        rw [heap_grow_old _ _ (by rw [size_putRowK]; exact hi)]
        show (w.heap.modify g (onCells (putCells id 0 (flatK enc k d'))))[i]? = _
        rw [Array.getElem?_modify, if_neg (fun q => hne q.symm)]
end
/-! ### append -/
section
variable {α : Type} {enc : α → List Value} {k : Nat} {e : TypeId} {w : World} {base : Nat} {l : List α}
/-- What reads as a row has its cells in a line. -/
theorem flat_cells {d : Kd α} {ad : Addr} {n : Nat} (h : Kd.C d w (some ad) n l) (F : Flat enc k) (hd : d.sz = k) (hK : ∀ {w x cs}, d.K w x cs → cs = enc x) : ∀ j u, (l.flatMap enc)[j]? = some u → w.cell? (ad.add j) = some u := by
  intro j u hu
  have hj : j < l.length * k := by rw [← length_flat F]; exact (List.getElem?_eq_some_iff.1 hu).1
  have hdv : j / k < l.length := Nat.div_lt_of_lt_mul (by rw [Nat.mul_comm]; exact hj)
  obtain ⟨ad', e', hcell⟩ := h.2.2 (by rw [← h.1]; exact Nat.lt_of_le_of_lt (Nat.zero_le _) hdv)
  cases e'
  obtain ⟨c, _, hk, hc⟩ := hcell (j / k) _ (List.getElem?_eq_getElem hdv)
  obtain rfl := hK hk
  rw [get_flat F, List.getElem?_eq_getElem hdv] at hu
  have := hc (j % k) u hu
  rw [hd, Nat.mul_comm, Nat.div_add_mod] at this
  exact this
theorem one_flat (F : Flat enc k) (l : List α) : ∀ u ∈ l.flatMap enc, u.oneCell' = true := by
  intro u hu
  obtain ⟨x, _, hx⟩ := List.mem_flatMap.1 hu
  exact F.one x u hx
theorem run_append_none' {P : Program} (w : World) (base : Nat) (t ty e : TypeId) (i : TypeInfo) (size : Nat) (ht : P.underlying t = some (.slice e)) (hi : P.info? e = some i)
    (v : Value) (n : Nat) (xs : List Value) (hown : w.ownsRow base e size v n xs) (c : Nat) :
    (Builtin.append_ #[t, t] ty #[v, .slice none 0 c]).run P w = .ok v w := by
  rcases hown.2 with ⟨rfl, rfl⟩ | ⟨g, cap, cur, rfl, _, _, hnc, _⟩
  · simp [Builtin.append_, run_underlying ht, sizeOf, typeInfo, hi, Builtin.lenOf, Builtin.firstCells]
  · simp [Builtin.append_, run_underlying ht, sizeOf, typeInfo, hi, Builtin.lenOf, Builtin.firstCells, hnc, storeCells]
theorem wpList_append_none' {P : Program} {w : World} {ops : Array Oper} {rest : List Oper} {o : Oper} {a : Act} {Q : Exit → Act → World → Prop} (hgd : o.guard = none) (s x : Operand) (t : TypeId)
    (ho : o.op = .call { callee := .builtin .append, args := #[s, x], argTypes := #[t, t] })
    (base : Nat) (e : TypeId) (i : TypeInfo) (size : Nat) (ht : P.underlying t = some (.slice e)) (hi : P.info? e = some i)
    (v : Value) (n : Nat) (xs : List Value) (hs : a.eval s = v) (hown : w.ownsRow base e size v n xs) (c : Nat) (hx : a.eval x = .slice none 0 c)
    (h : wpList P ops Q rest (a.put o.dst v) w) : wpList P ops Q (o :: rest) a w := by
  refine wpList_plain hgd fun K hK => ?_
  have hrun := run_append_none' (P := P) w base t o.type e i size ht hi v n xs hown c
  unfold Oper.wp
  simp [execOp, ho, resolve, invoke, builtin, hs, hx, hrun, Result.andThen]
  exact hK _ _ h
/-- 'append(row, what reads as l2 ...)'. -/
theorem wp_append {P : Program} {ops : Array Oper} {rest : List Oper} {o : Oper} {a : Act} {Q : Exit → Act → World → Prop} {d : Kd α} (F : Flat enc k) (hd : d.sz = k) (hK : ∀ {w x cs}, d.K w x cs → cs = enc x) (hgd : o.guard = none) (s x : Operand) (t : TypeId)
    (ho : o.op = .call { callee := .builtin .append, args := #[s, x], argTypes := #[t, t] }) (z : Value) (bytes : Nat) (ht : P.underlying t = some (.slice e))
    (hi : (P.info? e).map (fun i => (i.zero, i.size, i.bytes)) = some (some z, k, bytes)) (hzs : z.cells.size = k) (v : Value) (hs : a.eval s = v) (hown : Own enc k e w base v l)
    (ao : Option Addr) (n2 c : Nat) (l2 : List α) (hx : a.eval x = .slice ao n2 c) (hC : Kd.C d w ao n2 l2)
    (hb0 : 0 < bytes) (hbytes : (l.length + l2.length) * bytes ≤ 140737488355328) (hbase : base ≤ w.heap.size)
    (h : ∀ v' w', Own enc k e w' base v' (l ++ l2) → w.grownBy w' v.ownBlock → wpList P ops Q rest (a.put o.dst v') w') : wpList P ops Q (o :: rest) a w := by
  obtain ⟨i0, hi0, hz0, hz1, hz2⟩ := info_parts hi
  have hn : n2 = l2.length := hC.1.symm
  subst hn
  cases ao with
  | none =>
    have hl : l2 = [] := by
      rcases Nat.eq_zero_or_pos l2.length with h0 | h0
      · exact List.eq_nil_of_length_eq_zero h0
      · obtain ⟨ad, e, _⟩ := hC.2.2 h0
        cases e
    subst hl
    refine wpList_append_none' hgd s x t ho base e i0 k ht hi0 v l.length (l.flatMap enc) hs hown c hx ?_
    refine h v w ?_ ⟨rfl, rfl, rfl, Nat.le_refl _, fun _ _ _ => rfl⟩
    rw [List.append_nil]
    exact hown
  | some ad =>
    have h63 : l.length + l2.length ≤ maxLen := by
      have : (l.length + l2.length) * 1 ≤ (l.length + l2.length) * bytes := Nat.mul_le_mul_left _ hb0
      simp only [maxLen]
      omega
    refine wpList_append_own w hgd s x t ho base e i0 z k bytes ht hi0 hz0 hz1 hz2 hzs F.pos v l.length (l.flatMap enc) hs hown ad l2.length c (l2.flatMap enc) hx (length_flat F l2) (flat_cells hC F hd hK) (one_flat F l2) h63 hbytes hbase ?_
    intro v' w' h1 h2 _
    refine h v' w' ?_ h2
    unfold Own
    rw [List.length_append, List.flatMap_append]
    exact h1
/-- 'append(row, what reads as l2 ...)', as one operation; the value is shown as a slice. -/
theorem wp1_append {P : Program} {o : Oper} {a : Act} {K : Act → World → Prop} {Q : Exit → Act → World → Prop} {d : Kd α} (F : Flat enc k) (hd : d.sz = k) (hK : ∀ {w x cs}, d.K w x cs → cs = enc x) (s x : Operand) (t : TypeId)
    (ho : o.op = .call { callee := .builtin .append, args := #[s, x], argTypes := #[t, t] }) (z : Value) (bytes : Nat) (ht : P.underlying t = some (.slice e))
    (hi : (P.info? e).map (fun i => (i.zero, i.size, i.bytes)) = some (some z, k, bytes)) (hzs : z.cells.size = k) (v : Value) (hs : a.eval s = v) (hown : Own enc k e w base v l)
    (ao : Option Addr) (n2 c : Nat) (l2 : List α) (hx : a.eval x = .slice ao n2 c) (hC : Kd.C d w ao n2 l2)
    (hb0 : 0 < bytes) (hbytes : (l.length + l2.length) * bytes ≤ 140737488355328) (hbase : base ≤ w.heap.size)
    (h : ∀ (A' : Option Addr) (m' c' : Nat) w', m' = l.length + l2.length → Own enc k e w' base (.slice A' m' c') (l ++ l2) → w.grownBy w' v.ownBlock → ((Value.slice A' m' c').ownBlock = v.ownBlock ∨ (Value.slice A' m' c').ownBlock = some w.heap.size) → K (a.put o.dst (.slice A' m' c')) w') : o.wp P a w K Q := by
  obtain ⟨i0, hi0, hz0, hz1, hz2⟩ := info_parts hi
  have hn : n2 = l2.length := hC.1.symm
  subst hn
  cases ao with
  | none =>
    have hl : l2 = [] := by
      rcases Nat.eq_zero_or_pos l2.length with h0 | h0
      · exact List.eq_nil_of_length_eq_zero h0
      · obtain ⟨ad, e, _⟩ := hC.2.2 h0
        cases e
    subst hl
    obtain ⟨A', c', rfl, _, _⟩ := hown.slice
    have hrun := run_append_none' (P := P) w base t o.type e i0 k ht hi0 (.slice A' l.length c') l.length (l.flatMap enc) hown c
    have hfin := h A' l.length c' w (by simp) (by rw [List.append_nil]; exact hown) ⟨rfl, rfl, rfl, Nat.le_refl _, fun _ _ _ => rfl⟩ (.inl rfl)
    unfold Oper.wp
    simp [execOp, ho, resolve, invoke, builtin, hs, hx, hrun, Result.andThen]
    exact hfin
  | some ad =>
    have h63 : l.length + l2.length ≤ maxLen := by
      have : (l.length + l2.length) * 1 ≤ (l.length + l2.length) * bytes := Nat.mul_le_mul_left _ hb0
      simp only [maxLen]
      omega
    obtain ⟨v', w', hr, h1, h2, _, h5⟩ := run_append_own_at (P := P) w base t o.type e i0 z k bytes ht hi0 hz0 hz1 hz2 hzs F.pos v l.length (l.flatMap enc) hown ad l2.length c (l2.flatMap enc) (length_flat F l2) (flat_cells hC F hd hK) (one_flat F l2) h63 hbytes hbase
    have h1' : Own enc k e w' base v' (l ++ l2) := by
      unfold Own
      rw [List.length_append, List.flatMap_append]
      exact h1
    obtain ⟨A', c', rfl, _, _⟩ := h1'.slice
    unfold Oper.wp execOp
    simp only [ho, resolve, invoke, builtin, Sem.run_bind, Sem.run_pure, Result.andThen_ok, List.map_toArray, List.map_cons, List.map_nil, hs, hx, hr]
    exact h A' _ c' w' (by rw [List.length_append]) h1' h2 h5
/-- The same at a step of a region that draws its order. -/
theorem step_append {P : Program} {ops : Array Oper} {o : Oper} {a : Act} {K : Act → World → Prop} {Q : Exit → Act → World → Prop} {E : Prop} {d : Kd α} (F : Flat enc k) (hd : d.sz = k) (hK : ∀ {w x cs}, d.K w x cs → cs = enc x) (hgd : o.guard = none) (s x : Operand) (t : TypeId)
    (ho : o.op = .call { callee := .builtin .append, args := #[s, x], argTypes := #[t, t] }) (z : Value) (bytes : Nat) (ht : P.underlying t = some (.slice e))
    (hi : (P.info? e).map (fun i => (i.zero, i.size, i.bytes)) = some (some z, k, bytes)) (hzs : z.cells.size = k) (v : Value) (hs : a.eval s = v) (hown : Own enc k e w base v l)
    (ao : Option Addr) (n2 c : Nat) (l2 : List α) (hx : a.eval x = .slice ao n2 c) (hC : Kd.C d w ao n2 l2)
    (hb0 : 0 < bytes) (hbytes : (l.length + l2.length) * bytes ≤ 140737488355328) (hbase : base ≤ w.heap.size)
    (h : ∀ (A' : Option Addr) (m' c' : Nat) w', m' = l.length + l2.length → Own enc k e w' base (.slice A' m' c') (l ++ l2) → w.grownBy w' v.ownBlock → ((Value.slice A' m' c').ownBlock = v.ownBlock ∨ (Value.slice A' m' c').ownBlock = some w.heap.size) → K (a.put o.dst (.slice A' m' c')) w') :
    if Region.wanted o (yielded ops a.tmps) = true then Oper.wp P o a w K Q else E := by
  have hw : Region.wanted o (yielded ops a.tmps) = true := by simp [Region.wanted, hgd]
  rw [if_pos hw]
  exact wp1_append F hd hK s x t ho z bytes ht hi hzs v hs hown ao n2 c l2 hx hC hb0 hbytes hbase h
/-- The first m of a row, in place. -/
theorem Own.take {A : Option Addr} {n c : Nat} (h : Own enc k e w base (.slice A n c) l) (F : Flat enc k) {m : Nat} (hm : m ≤ l.length) : Own enc k e w base (.slice A m c) (l.take m) := by
  refine ⟨by rw [length_flat F], ?_⟩
  have hlen : (l.take m).length = m := by rw [List.length_take]; omega
  rcases h.2 with ⟨hv, h0⟩ | ⟨g, cap, cur, hv, hb, hg, hc, hmx, hs, ht⟩
  · injection hv with h1 h2 h3
    subst h1 h3
    exact .inl ⟨by rw [show m = 0 by omega], by omega⟩
  · injection hv with h1 h2 h3
    subst h1 h3
    refine .inr ⟨g, _, cur, by rw [hlen], hb, hg, by omega, hmx, hs, ?_⟩
    rw [hlen, ← take_flat F, ← ht, List.take_take, Nat.min_eq_left (Nat.mul_le_mul_right _ hm)]
theorem C_take {d : Kd α} {A : Option Addr} {n m : Nat} (h : Kd.C d w A n l) (hm : m ≤ n) : Kd.C d w A m (l.take m) := by
  refine ⟨by rw [List.length_take, h.1]; omega, by have := h.2.1; omega, fun h0 => ?_⟩
  obtain ⟨ad, e, hc⟩ := h.2.2 (by omega)
  refine ⟨ad, e, fun j p hj => hc j p ?_⟩
  rcases Nat.lt_or_ge j m with g | g
  · rwa [List.getElem?_take_of_lt g] at hj
  · rw [List.getElem?_eq_none (by rw [List.length_take]; omega)] at hj; cases hj
theorem C_drop {d : Kd α} {A : Option Addr} {n m c : Nat} (h : Kd.C d w A n l) (hd : d.sz = k) (hm : m ≤ n) (hc : n ≤ c) : Kd.C d w (if c = m then A else A.map (·.add (m * k))) (n - m) (l.drop m) := by
  refine ⟨by rw [List.length_drop, h.1], by have := h.2.1; omega, fun h0 => ?_⟩
  obtain ⟨ad, e, hcell⟩ := h.2.2 (by omega)
  rw [if_neg (by omega)]
  subst e
  refine ⟨ad.add (m * k), rfl, fun j p hj => ?_⟩
  rw [List.getElem?_drop] at hj
  obtain ⟨cs, q1, q2, q3⟩ := hcell (m + j) p hj
  refine ⟨cs, q1, q2, fun i u hu => ?_⟩
  have := q3 i u hu
  rw [hd] at this ⊢
  rw [Go.Deep.add_add, ← Nat.add_assoc, ← Nat.add_mul]
  exact this
theorem C_one {d : Kd α} {g : Nat} {t : TypeId} {x : α} (h : Blk w g t (enc x).toArray) (F : Flat enc k) (hd : d.sz = k) (hK : ∀ w x, d.K w x (enc x)) : Kd.C d w (some ⟨g, 0, none⟩) 1 [x] := by
  refine ⟨rfl, by omega, fun _ => ⟨_, rfl, fun j p hj => ?_⟩⟩
  cases j with
  | succ j => simp at hj
  | zero =>
    injection hj with hj
    subst hj
    refine ⟨enc x, by rw [F.len, hd], hK w x, fun i u hu => ?_⟩
    have hadd : (⟨g, 0, none⟩ : Addr).add (0 * d.sz + i) = ⟨g, i, none⟩ := by
      rw [Nat.zero_mul, Nat.zero_add]
      unfold Addr.add
      split <;> simp_all
    rw [hadd, h.cell i]
    simpa using hu
theorem C_below {d : Kd α} {w' : World} {A : Option Addr} {n : Nat} (h : Kd.C d w A n l) (hb : Below w.heap.size w w') : Kd.C d w' A n l := Kd.C_below h hb
/-- An empty row, made. -/
theorem Own.empty (w : World) (e : TypeId) (base : Nat) (hb : base ≤ w.heap.size) : Own enc k e (w.alloc (.cells #[] e)) base (.slice (some ⟨w.heap.size, 0, none⟩) 0 0) [] := World.ownsRow_made w #[] 0 hb (Nat.zero_le _) (by simp)
end
end Go.Proofs.Ytkhdghlgkljdgaa.Row
