/- The calendar's map: look, put, delete; a row cut. No law is proved here. -/
import Derived.Test.YtmgjnabenemghaaCB
import Derived.Test.YtmgjnabenemghaaRowCopy
import Derived.Deep.RegionLawGrows
namespace Go.Proofs.Ytmgjnabenemghaa.CQ
open Go.Proofs Go.Shelf Go.RowKit Go.Deep Go.Sort Go.Maps Go.Proofs.Ytmgjnabenemghaa.SortPure Go.Proofs.Ytmgjnabenemghaa.Types Go.Proofs.Ytmgjnabenemghaa.Heap Go.Proofs.Ytmgjnabenemghaa.Row Go.Proofs.Ytmgjnabenemghaa.Ord Go.Proofs.Ytmgjnabenemghaa.Sorted Go.Proofs.YtmgjnabenemghaaW.PrintWords Go.Proofs.YtmgjnabenemghaaW.PrintLast Go.Proofs.YtmgjnabenemghaaW.PrintMore
set_option linter.unusedVariables false
set_option linter.unusedSimpArgs false
abbrev Days (w : World) (P : Nat → Prop) (b : Nat) (wd : Int) (sl : List M) : Prop := ∃ D : DataW Value, w.ownsMap Try.prog tD RS b (Maps.size D) D ∧ Rep w P wd sl D
theorem zeroL (w : World) : (zeroValue tL).run Try.prog w = .ok (.slice none 0 0) w := by kernel_rfl
theorem keyD {d : Int} (hd : wfI d) : keyOf Try.prog tD (.int .i64 d) = some (.int .i64 d) := keyOf_int_mk Try.underlying2 hd
theorem isKeyD {d : Int} (hd : wfI d) : WideAt.IsKeyLit (.int .i64 d) := lawD.key (keyD hd)
section
variable {w w' : World} {P : Nat → Prop} {b : Nat} {wd : Int} {sl : List M}
theorem Days.look (h : Days w P b wd sl) {d : Int} (hd : wfI d) : ∃ (A : Option Addr) (c : Nat), (Instr.lookup tMap (.map (some b)) (.int .i64 d) false).run Try.prog w = .ok (.slice A (row wd sl d).length c) w ∧ (row wd sl d).length ≤ c ∧ Kd.C kM w A (row wd sl d).length (row wd sl d) ∧ ∀ ad, A = some ad → P ad.block := by
  obtain ⟨D, hown, hrep⟩ := h
  obtain ⟨v, ps, hrun, hv⟩ := hown.lookup lawD uMap (zeroL w) (RS_mk none 0 0) (keyD hd)
  by_cases hn : row wd sl d = []
  · have h1 := (hrep d).1 hn
    rw [Maps.atKey_of_not_has h1] at hv
    have := RS_held hv
    subst this
    exact ⟨none, 0, by rw [hn]; exact hrun, by rw [hn]; exact Nat.le_refl _, by rw [hn]; exact ⟨rfl, by simp, fun h => absurd h (by simp)⟩, fun ad e => by cases e⟩
  · obtain ⟨_, A, c, h2, h3, h4, h5⟩ := (hrep d).2 hn
    rw [h2] at hv
    have := RS_held hv
    subst this
    exact ⟨A, c, hrun, h3, h4, h5⟩
theorem Days.update (h : Days w P b wd sl) (hb : ¬ P b) (hl : sl.length ≤ 16384) {d : Int} (hd : wfI d) {A : Option Addr} {c : Nat} {l' : List M} (hC : Kd.C kM w A l'.length l') (hc : l'.length ≤ c) (hF : ∀ ad, A = some ad → P ad.block) (hne : l' ≠ [])
    {sl' : List M} (h1 : row wd sl' d = l') (h2 : ∀ d', d' ≠ d → row wd sl' d' = row wd sl d') :
    ∃ w', (Instr.mapUpdate tMap (.map (some b)) (.int .i64 d) (.slice A l'.length c)).run Try.prog w = .ok () w' ∧ Days w' P b wd sl' ∧ Only w w' (fun x => x = b) := by
  obtain ⟨D, hown, hrep⟩ := h
  have hsz := rep_size hown hrep
  obtain ⟨w', hrun, hown', hg⟩ := hown.update lawD uMap (show Maps.size D < maxLen by simp only [maxLen]; omega) (keyD hd) (RS_mk A l'.length c)
  have hO : Only w w' (fun x => x = b) := only_of_grown hg (fun i e => by cases e; exact .inl rfl)
  have hFS : ∀ x, P x → ¬ x = b := fun x hx e => hb (e ▸ hx)
  refine ⟨w', hrun, ⟨_, owns_size hown', fun d' => ?_⟩, hO⟩
  by_cases e : d' = d
  · subst e
    refine ⟨fun q => absurd (h1.symm.trans q) hne, fun _ => ⟨Maps.has_put_same hown.isMap (isKeyD hd) _, A, c, fun z => ?_, by rw [h1]; exact hc, by rw [h1]; exact C_only hC hO (fun ad e _ => hFS _ (hF ad e)), hF⟩⟩
    rw [h1]
    exact Maps.atKey_put_same hown.isMap (isKeyD hd) _ z
  · have hne' : (Lit.int .i64 d') ≠ .int .i64 d := by simpa using e
    rw [h2 d' e, Maps.has_put_other hne']
    refine ⟨(hrep d').1, fun hn => ?_⟩
    obtain ⟨q1, A', c', q2, q3, q4, q5⟩ := (hrep d').2 hn
    exact ⟨q1, A', c', fun z => by rw [Maps.atKey_put_other hne']; exact q2 z, q3, C_only q4 hO (fun ad e _ => hFS _ (q5 ad e)), q5⟩
theorem Days.delete (h : Days w P b wd sl) (hb : ¬ P b) {d : Int} (hd : wfI d) {sl' : List M} (h1 : row wd sl' d = []) (h2 : ∀ d', d' ≠ d → row wd sl' d' = row wd sl d') (ty : TypeId) :
    ∃ w', (Builtin.delete_ #[tMap, tD] ty #[.map (some b), .int .i64 d]).run Try.prog w = .ok (.tuple #[]) w' ∧ Days w' P b wd sl' ∧ Only w w' (fun x => x = b) := by
  obtain ⟨D, hown, hrep⟩ := h
  obtain ⟨w', hrun, hown', hg⟩ := hown.drop lawD uMap (keyD hd) ty
  have hO : Only w w' (fun x => x = b) := only_of_grown hg.grown (fun i e => by cases e; exact .inl rfl)
  have hFS : ∀ x, P x → ¬ x = b := fun x hx e => hb (e ▸ hx)
  refine ⟨w', hrun, ⟨_, owns_size hown', fun d' => ?_⟩, hO⟩
  by_cases e : d' = d
  · subst e
    exact ⟨fun _ => Maps.has_del_same, fun q => absurd h1 q⟩
  · have hne' : (Lit.int .i64 d') ≠ .int .i64 d := by simpa using e
    rw [h2 d' e, Maps.has_del_other hne']
    refine ⟨(hrep d').1, fun hn => ?_⟩
    obtain ⟨q1, A', c', q2, q3, q4, q5⟩ := (hrep d').2 hn
    exact ⟨q1, A', c', fun z => by rw [Maps.atKey_del_other hne']; exact q2 z, q3, C_only q4 hO (fun ad e _ => hFS _ (q5 ad e)), q5⟩
theorem Days.only {S : Nat → Prop} (h : Days w P b wd sl) (hO : Only w w' S) (hb : ¬ S b) (hS : ∀ x, P x → ¬ S x) : Days w' P b wd sl := by
  obtain ⟨D, h1, h2⟩ := h
  exact ⟨D, owns_only h1 hO hb, h2.only hO hS⟩
theorem Days.to {P' : Nat → Prop} (h : Days w P b wd sl) (hP : ∀ x, P x → P' x) : Days w P' b wd sl := by
  obtain ⟨D, h1, h2⟩ := h
  refine ⟨D, h1, fun d => ⟨(h2 d).1, fun hn => ?_⟩⟩
  obtain ⟨q1, A, c, q2, q3, q4, q5⟩ := (h2 d).2 hn
  exact ⟨q1, A, c, q2, q3, q4, fun ad e => hP _ (q5 ad e)⟩
/-- The rows lie in blocks that are there. -/
theorem Days.old (h : Days w P b wd sl) : Days w (fun x => P x ∧ x < w.heap.size) b wd sl := by
  obtain ⟨D, h1, h2⟩ := h
  refine ⟨D, h1, fun d => ⟨(h2 d).1, fun hn => ?_⟩⟩
  obtain ⟨q1, A, c, q2, q3, q4, q5⟩ := (h2 d).2 hn
  refine ⟨q1, A, c, q2, q3, q4, fun ad e => ⟨q5 ad e, ?_⟩⟩
  have hpos : 0 < (row wd sl d).length := List.length_pos_iff.2 hn
  obtain ⟨ad', e', hc⟩ := q4.2.2 hpos
  cases e.symm.trans e'
  obtain ⟨cs, hs, hr, hcell⟩ := hc 0 _ (List.getElem?_eq_getElem hpos)
  have hr' : cs = c25 _ := k25_open hr
  have h0 := hcell 0 _ (by rw [hr']; rfl)
  have := block_lt_of_cell h0
  have hb : (ad.add (0 * kM.sz + 0)).block = ad.block := by unfold Addr.add; split <;> rfl
  rwa [hb] at this
theorem Days.below (h : Days w P b wd sl) (hB : Below w.heap.size w w') : Days w' P b wd sl := by
  obtain ⟨D, h1, h2⟩ := h
  exact ⟨D, owns_below h1 hB, h2.below hB⟩
end
/-- 'append(l[:k:k], nothing)'. -/
theorem step_append_zero {P : Program} {ops : Array Oper} {o : Oper} {a : Act} {w : World} {K : Act → World → Prop} {Q : Exit → Act → World → Prop} {E : Prop} (hg : o.guard = none) (s x : Operand) (t : TypeId) (hop : o.op = Op.call { callee := Callee.builtin Builtin.append, args := #[s, x], argTypes := #[t, t] })
    (e : TypeId) (i : TypeInfo) (h1 : P.underlying t = some (.slice e)) (h2 : P.info? e = some i) (ao : Option Addr) (n cap : Nat) (hs : a.eval s = .slice ao n cap) (hnone : ao = none → n = 0 ∧ cap = 0) (hc : n ≤ cap) (sp : Option Addr) (c : Nat) (hx : a.eval x = .slice sp 0 c)
    (hK : K (a.put o.dst (.slice ao n cap)) w) : if Region.wanted o (yielded ops a.tmps) = true then Oper.wp P o a w K Q else E := by
  have hw : Region.wanted o (yielded ops a.tmps) = true := by simp [Region.wanted, hg]
  rw [if_pos hw]
  have hl : ∀ (x : Addr), (loadCells x 0).run P w = .ok #[] w := fun x => by simpa using run_loadCells_list (P := P) w x [] (by simp)
  have hrun : (Builtin.append_ #[t, t] o.type #[.slice ao n cap, .slice sp 0 c]).run P w = .ok (.slice ao n cap) w := by
    cases ao with
    | none =>
      obtain ⟨rfl, rfl⟩ := hnone rfl
      cases sp <;> simp [Builtin.append_, run_underlying h1, sizeOf, typeInfo, h2, Builtin.lenOf, Builtin.firstCells, hl, storeCells]
    | some ad => cases sp <;> simp [Builtin.append_, run_underlying h1, sizeOf, typeInfo, h2, Builtin.lenOf, Builtin.firstCells, hl, storeCells, hc]
  unfold Oper.wp
  simp [execOp, hop, resolve, invoke, builtin, hs, hx, hrun, Result.andThen]
  exact hK
/-- 'append(l[:k:k], l[k+1:]...)': a row of its own. -/
theorem step_append_cut {P : Program} {ops : Array Oper} {o : Oper} {a : Act} {w : World} {K : Act → World → Prop} {Q : Exit → Act → World → Prop} {E : Prop} {α : Type} {enc : α → List Value} {k : Nat} {e : TypeId} {d : Kd α} (F : Flat enc k) (hd : d.sz = k) (hK : ∀ {w x cs}, d.K w x cs → cs = enc x) (hKm : ∀ w x, d.K w x (enc x)) (hg : o.guard = none) (s x : Operand) (t : TypeId)
    (hop : o.op = Op.call { callee := Callee.builtin Builtin.append, args := #[s, x], argTypes := #[t, t] }) (z : Value) (bytes : Nat) (h1 : P.underlying t = some (.slice e)) (hi : (P.info? e).map (fun i => (i.zero, i.size, i.bytes)) = some (some z, k, bytes)) (hzs : z.cells.size = k)
    (ao : Option Addr) (n : Nat) (l1 : List α) (hs : a.eval s = .slice ao n n) (hC1 : Kd.C d w ao n l1) (ad : Addr) (m c : Nat) (l2 : List α) (hx : a.eval x = .slice (some ad) m c) (hC2 : Kd.C d w (some ad) m l2) (hm : 0 < m) (hnm : n + m ≤ 1048576) (hby : bytes ≤ 4096) (hnone : ao = none → n = 0)
    (L : List α) (hL : l1 ++ l2 = L)
    (h : ∀ (A' : Option Addr) (c' : Nat) w', Kd.C d w' A' L.length L → L.length ≤ c' → (∀ ad, A' = some ad → w.heap.size ≤ ad.block) → Below w.heap.size w w' → K (a.put o.dst (.slice A' L.length c')) w') :
    if Region.wanted o (yielded ops a.tmps) = true then Oper.wp P o a w K Q else E := by
  subst hL
  obtain ⟨i0, hi0, hz0, hz1, hz2⟩ := info_parts hi
  have e1 : n = l1.length := hC1.1.symm
  have e2 : m = l2.length := hC2.1.symm
  refine step_append_grows hg s x t hop e i0 z k bytes h1 hi0 hz0 hz1 hz2 hzs F.pos ao n n (l1.flatMap enc) hs (fun q => ⟨hnone q, hnone q⟩) (by rw [length_flat F, e1]) (fun b hb => by subst hb; exact flat_cells hC1 F hd hK) ad m c (l2.flatMap enc) hx (by rw [length_flat F, e2]) (flat_cells hC2 F hd hK) (one_flat F l2) (by omega) (by simp only [maxLen]; omega) ?_ ?_
  · exact Nat.le_trans (Nat.mul_le_mul hnm hby) (by decide)
  · intro v' w' hown hgr
    have hown' : Own enc k e w' w.heap.size v' (l1 ++ l2) := by
      unfold Own
      rw [List.length_append, List.flatMap_append, ← e1, ← e2]
      exact hown
    obtain ⟨A', c', rfl, hc, hC, hb⟩ := hown'.reads F hd hKm
    exact h A' c' w' hC hc (fun ad q => (hown'.blk ad.block (hb ad q).symm).1) ⟨hgr.os, hgr.tape, hgr.output, hgr.size, fun i hi => hgr.block i hi (by simp)⟩
end Go.Proofs.Ytmgjnabenemghaa.CQ
