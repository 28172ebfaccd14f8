/- Rows of k cells: made, copied into, one element put. No law is proved here. -/
import Derived.Test.YtkhdghlgkljdgaaRow
import Derived.Laws.CopyOwn
import Derived.Laws.MakeOwn
namespace Go.Proofs.Ytkhdghlgkljdgaa.Row
open Go.RowKit Go.Sort Go.Shelf Go.Proofs Go.Proofs.Ytkhdghlgkljdgaa.Heap Go.Proofs.Ytkhdghlgkljdgaa.SortPure Go.Proofs.YtkhdghlgkljdgaaW.PrintWords
set_option linter.unusedVariables false
set_option linter.unusedSimpArgs false
section
variable {α : Type} {enc : α → List Value} {k : Nat} {e : TypeId} {w w' : World} {base : Nat} {l : List α}
theorem made_flat (z0 : α) (zs : Array Value) (hz : enc z0 = zs.toList) (hk : zs.size = k) (n : Nat) : (madeCells zs (n * k)).toList = (List.replicate n z0).flatMap enc := by
  apply List.ext_getElem?
  intro i
  have hl : ((List.replicate n z0).flatMap enc).length = n * k := by
    rw [List.flatMap_replicate]
    simp [hz, hk]
  by_cases hi : i < n * k
  · have hk0 : 0 < k := by
      rcases Nat.eq_zero_or_pos k with q | q
      · rw [q] at hi; omega
      · exact q
    have h1 : i / k < n := by rw [Nat.div_lt_iff_lt_mul hk0]; exact hi
    have h2 : i % k < k := Nat.mod_lt _ hk0
    have hL : ∀ m, ((List.replicate m z0).flatMap enc)[i]? = if i < m * k then (enc z0)[i % k]? else none := by
      intro m
      induction m generalizing i with
      | zero => simp
      | succ m ih =>
        rw [List.replicate_succ, List.flatMap_cons]
        have he : (enc z0).length = k := by rw [hz]; simpa using hk
        by_cases q : i < k
        · rw [List.getElem?_append_left (by omega), Nat.mod_eq_of_lt q, if_pos (by rw [Nat.succ_mul]; omega)]
        · rw [List.getElem?_append_right (by omega), he]
          have : (i - k) % k = i % k := by
            conv => rhs; rw [show i = (i - k) + k by omega, Nat.add_mod_right]
          by_cases q2 : i - k < m * k
          · rw [ih (i - k) (by omega) (by rw [Nat.div_lt_iff_lt_mul hk0]; omega) (Nat.mod_lt _ hk0), if_pos q2, if_pos (by rw [Nat.succ_mul]; omega), this]
          · rw [List.getElem?_eq_none, if_neg (by rw [Nat.succ_mul]; omega)]
            rw [List.flatMap_replicate]
            simp [he]
            omega
    rw [hL n, if_pos hi]
    simp [madeCells, hi, hk, hz]
    rw [getElem!_pos zs _ (by rw [hk]; exact h2)]
    rw [Array.getElem?_eq_getElem (by rw [hk]; exact h2)]
  · rw [List.getElem?_eq_none (by rw [Array.length_toList, size_madeCells]; omega), List.getElem?_eq_none (by omega)]
theorem splice_flat (F : Flat enc k) {L l2 : List α} {off : Nat} (hf : off + l2.length ≤ L.length) {C : List Value} (hC : C.take (L.length * k) = L.flatMap enc) :
    (C.take (off * k) ++ l2.flatMap enc ++ C.drop (off * k + (l2.flatMap enc).length)).take (L.length * k) = (splice L off l2).flatMap enc := by
  have hm : (l2.flatMap enc).length = l2.length * k := length_flat F l2
  have hle : off * k + l2.length * k ≤ L.length * k := by rw [← Nat.add_mul]; exact Nat.mul_le_mul_right _ hf
  have hCl : L.length * k ≤ C.length := by
    have := congrArg List.length hC
    rw [List.length_take, length_flat F] at this
    omega
  unfold splice
  rw [List.flatMap_append, List.flatMap_append, ← take_flat F, ← drop_flat F, ← hC, hm, List.take_take, Nat.min_eq_left (by omega), List.drop_take, Nat.add_mul]
  rw [List.take_append, List.take_of_length_le (by rw [List.length_append, List.length_take, hm]; omega), List.append_assoc]
  congr 2
  rw [List.length_append, List.length_take, hm, Nat.min_eq_left (by omega)]
theorem run_copyK {P : Program} {d : Kd α} (F : Flat enc k) (hd : d.sz = k) (hK : ∀ {w x cs}, d.K w x cs → cs = enc x) (dT sT ty : TypeId) (hu : P.underlying dT = some (.slice e)) (hsz : (P.info? e).map (·.size) = some k)
    {g c : Nat} {L : List α} (h : Own enc k e w base (.slice (some ⟨g, 0, none⟩) L.length c) L) (dp sp : Option Addr) (dLen dCap sLen sCap : Nat) (l2 : List α) (hC : Kd.C d w sp sLen l2) (hle : sLen ≤ dLen) (off : Nat) (hfit : off + sLen ≤ L.length)
    (hdp : 0 < sLen → dp = some ⟨g, off * k, none⟩) :
    ∃ w', (Builtin.copy_ #[dT, sT] ty #[.slice dp dLen dCap, .slice sp sLen sCap]).run P w = .ok (goInt sLen) w' ∧ Own enc k e w' base (.slice (some ⟨g, 0, none⟩) L.length c) (splice L off l2) ∧ Only w w' (fun b => b = g) := by
  have hn : sLen = l2.length := hC.1.symm
  obtain ⟨i, hi, hik⟩ := Option.map_eq_some_iff.1 hsz
  have hmin : Nat.min sLen dLen = sLen := Nat.min_eq_left hle
  rcases Nat.eq_zero_or_pos sLen with h0 | h0
  · subst h0
    have hl2 : l2 = [] := List.eq_nil_of_length_eq_zero hn.symm
    subst hl2
    refine ⟨w, ?_, by simpa [splice] using h, Only.refl _ _⟩
    have hl : ∀ (x : Addr), (loadCells x 0).run P w = .ok #[] w := fun x => by simpa using run_loadCells_list (P := P) w x [] (by simp)
    have hmin0 : Nat.min 0 dLen = 0 := Nat.min_eq_left (Nat.zero_le _)
    cases dp <;> cases sp <;> simp [Builtin.copy_, run_underlying hu, Builtin.lenOf, Builtin.firstCells, sizeOf, typeInfo, hi, hmin0, storeCells, hl]
  · obtain ⟨ad, rfl, _⟩ := hC.2.2 h0
    obtain rfl := hdp h0
    have hcells := flat_cells hC F hd hK
    obtain ⟨h1, h2⟩ := h
    rcases h2 with ⟨hv, _⟩ | ⟨g', cap, cur, hv, hb, hg, hcap, hmx, hs, ht⟩
    · cases hv
    · cases hv
      have hlen : (l2.flatMap enc).length = sLen * k := by rw [length_flat F, hn]
      have hle2 : off * k + sLen * k ≤ L.length * k := by rw [← Nat.add_mul]; exact Nat.mul_le_mul_right _ hfit
      have hcur : L.length * k ≤ cur.size := by rw [hs]; exact Nat.mul_le_mul_right _ hcap
      have hld := run_loadCells_list (P := P) w ad (l2.flatMap enc) hcells
      have hst := run_storeCells_at P g (off * k) e (l2.flatMap enc) 0 cur w hg (by rw [hlen]; omega) (one_flat F l2)
      rw [hlen] at hld
      refine ⟨w.setRow g (cur.toList.take (off * k + 0) ++ l2.flatMap enc ++ cur.toList.drop (off * k + 0 + (l2.flatMap enc).length)).toArray, ?_, ?_, ?_⟩
      · simp [Builtin.copy_, run_underlying hu, Builtin.lenOf, Builtin.firstCells, sizeOf, typeInfo, hi, hik, hmin, hld, hst]
      · have hlen2 : (splice L off l2).length = L.length := length_splice L off l2 (by rw [← hn]; exact hfit)
        unfold Own
        rw [hlen2]
        refine ⟨by rw [length_flat F, hlen2], .inr ⟨g, c, _, rfl, hb, setRow_heap w g _ _ e _ hg, hcap, hmx, ?_, ?_⟩⟩
        · simp only [List.size_toArray, List.length_append, List.length_take, List.length_drop, Array.length_toList, Nat.add_zero, hlen]
          rw [← hs]
          omega
        · simp only [List.toList_toArray, Nat.add_zero]
          exact splice_flat F (by rw [← hn]; exact hfit) ht
      · exact ⟨rfl, rfl, rfl, by simp [World.setRow], fun k hk hne => setRow_other w g k _ hne⟩
/-- 'copy(row's part, what reads as l2)'. -/
theorem wpList_copyK {P : Program} {ops : Array Oper} {rest : List Oper} {o : Oper} {a : Act} {Q : Exit → Act → World → Prop} {d : Kd α} (F : Flat enc k) (hd : d.sz = k) (hK : ∀ {w x cs}, d.K w x cs → cs = enc x) (hgd : o.guard = none) (ds s : Operand) (dT sT : TypeId)
    (ho : o.op = .call { callee := .builtin .copy, args := #[ds, s], argTypes := #[dT, sT] }) (hu : P.underlying dT = some (.slice e)) (hsz : (P.info? e).map (·.size) = some k)
    {g c : Nat} {L : List α} (h : Own enc k e w base (.slice (some ⟨g, 0, none⟩) L.length c) L) (dp sp : Option Addr) (dLen dCap sLen sCap : Nat) (hds : a.eval ds = .slice dp dLen dCap) (hs : a.eval s = .slice sp sLen sCap) (l2 : List α) (hC : Kd.C d w sp sLen l2) (hle : sLen ≤ dLen) (off : Nat) (hfit : off + sLen ≤ L.length)
    (hdp : 0 < sLen → dp = some ⟨g, off * k, none⟩)
    (hk : ∀ w', Own enc k e w' base (.slice (some ⟨g, 0, none⟩) L.length c) (splice L off l2) → Only w w' (fun b => b = g) → wpList P ops Q rest (a.put o.dst (goInt sLen)) w') : wpList P ops Q (o :: rest) a w := by
  refine wpList_plain hgd fun K hK' => ?_
  obtain ⟨w', hrun, r1, r2⟩ := run_copyK (P := P) F hd hK dT sT o.type hu hsz h dp sp dLen dCap sLen sCap l2 hC hle off hfit hdp
  unfold Oper.wp
  simp [execOp, ho, resolve, invoke, builtin, hds, hs, hrun, Result.andThen]
  exact hK' _ _ (hk w' r1 r2)
theorem step_copyK {P : Program} {ops : Array Oper} {o : Oper} {a : Act} {K : Act → World → Prop} {Q : Exit → Act → World → Prop} {E : Prop} {d : Kd α} (F : Flat enc k) (hd : d.sz = k) (hK : ∀ {w x cs}, d.K w x cs → cs = enc x) (hgd : o.guard = none) (ds s : Operand) (dT sT : TypeId)
    (ho : o.op = .call { callee := .builtin .copy, args := #[ds, s], argTypes := #[dT, sT] }) (hu : P.underlying dT = some (.slice e)) (hsz : (P.info? e).map (·.size) = some k)
    {g c : Nat} {L : List α} (h : Own enc k e w base (.slice (some ⟨g, 0, none⟩) L.length c) L) (dp sp : Option Addr) (dLen dCap sLen sCap : Nat) (hds : a.eval ds = .slice dp dLen dCap) (hs : a.eval s = .slice sp sLen sCap) (l2 : List α) (hC : Kd.C d w sp sLen l2) (hle : sLen ≤ dLen) (off : Nat) (hfit : off + sLen ≤ L.length)
    (hdp : 0 < sLen → dp = some ⟨g, off * k, none⟩)
    (hk : ∀ w', Own enc k e w' base (.slice (some ⟨g, 0, none⟩) L.length c) (splice L off l2) → Only w w' (fun b => b = g) → K (a.put o.dst (goInt sLen)) w') :
    if Region.wanted o (yielded ops a.tmps) = true then Oper.wp P o a w K Q else E := by
  have hw : Region.wanted o (yielded ops a.tmps) = true := by simp [Region.wanted, hgd]
  rw [if_pos hw]
  obtain ⟨w', hrun, r1, r2⟩ := run_copyK (P := P) F hd hK dT sT o.type hu hsz h dp sp dLen dCap sLen sCap l2 hC hle off hfit hdp
  unfold Oper.wp
  simp [execOp, ho, resolve, invoke, builtin, hds, hs, hrun, Result.andThen]
  exact hk w' r1 r2
/-- 'make([]T, n)'. -/
theorem wpList_makeK {P : Program} {ops : Array Oper} {rest : List Oper} {o : Oper} {a : Act} {Q : Exit → Act → World → Prop} (F : Flat enc k) (hgd : o.guard = none) (x y : Operand) (t : TypeId) (ho : o.op = .makeSlice t x y) (ht : P.underlying t = some (.slice e))
    (z : Value) (bytes : Nat) (hi : (P.info? e).map (fun i => (i.zero, i.size, i.bytes)) = some (some z, k, bytes)) (z0 : α) (hz : enc z0 = z.cells.toList) (hzs : z.cells.size = k) (n : Nat) (hx : a.eval x = .int .i64 (n : Int)) (hy : a.eval y = .int .i64 (n : Int))
    (hn : n ≤ 4194304) (hb : bytes ≤ 4096) (hbase : base ≤ w.heap.size)
    (h : ∀ w', Own enc k e w' base (.slice (some ⟨w.heap.size, 0, none⟩) n n) (List.replicate n z0) → Below w.heap.size w w' → w'.heap.size = w.heap.size + 1 → wpList P ops Q rest (a.put o.dst (.slice (some ⟨w.heap.size, 0, none⟩) n n)) w') : wpList P ops Q (o :: rest) a w := by
  obtain ⟨i0, hi0, hz0, hz1, hz2⟩ := info_parts hi
  have hbn : (i0.bytes : Int) * (n : Int) ≤ 281474976710656 := by
    have h1 : i0.bytes * n ≤ 4096 * 4194304 := Nat.mul_le_mul (by omega) hn
    have : ((i0.bytes * n : Nat) : Int) ≤ 281474976710656 := by omega
    rwa [Int.natCast_mul] at this
  have hr := run_make (P := P) w t e i0 z ht hi0 hz0 .i64 .i64 (n : Int) (n : Int) (by omega) (Int.le_refl _) hbn (by omega)
  simp only [Int.toNat_natCast, hz1] at hr
  refine wpList_plain hgd fun K hK' => ?_
  unfold Oper.wp
  simp [execOp, ho, hx, hy, hr, Result.andThen]
  refine hK' _ _ (h _ ?_ ((Below.refl _ _).alloc (Nat.le_refl _) _) (by simp))
  unfold Own
  have hlr : (List.replicate n z0).length = n := by simp
  rw [hlr]
  refine ⟨by rw [length_flat F, hlr], .inr ⟨w.heap.size, n, _, rfl, hbase, heap_alloc_new w _, Nat.le_refl _, by simp only [maxLen]; omega, size_madeCells _ _, ?_⟩⟩
  rw [made_flat z0 z.cells hz hzs n, List.take_of_length_le (by rw [length_flat F, hlr]; exact Nat.le_refl _)]
end
theorem setMany_set {α : Type} [Inhabited α] (enc : α → List Value) (k : Nat) (hk : ∀ x, (enc x).length = k) (d : Array α) (i : Nat) (y : α) (hi : i < d.size) :
    setMany (flatK enc k d) (i * k) (enc y) = flatK enc k (d.setIfInBounds i y) := by
  refine ext_get! (by simp) fun t ht => ?_
  have ht' : t < d.size * k := by simpa using ht
  have k0 : 0 < k := by
    rcases Nat.eq_zero_or_pos k with h | h
    · subst h; simp at ht'
    · exact h
  have htk : t / k < d.size := Nat.div_lt_of_lt_mul (by rw [Nat.mul_comm]; exact ht')
  rw [get_setMany _ _ _ t (by simpa using ht'), get_flatK _ _ _ t ht', get_flatK _ _ _ t (by simpa using ht'), hk]
  by_cases a : t / k = i
  · rw [if_pos ((blk_iff k i t k0).2 a)]
    have e : t - i * k = t % k := by rw [← a, Nat.mod_eq_sub_div_mul]
    rw [e, a]
    simp [hi]
  · rw [if_neg (fun h => a ((blk_iff k i t k0).1 h))]
    have e : (d.setIfInBounds i y)[t / k]! = d[t / k]! := by
      rw [getElem!_pos (d.setIfInBounds i y) (t / k) (by simpa using htk), getElem!_pos d (t / k) htk, Array.getElem_setIfInBounds]
      rw [if_neg (fun q => a q.symm)]
    rw [e]
theorem own_put {α : Type} [Inhabited α] {enc : α → List Value} {k : Nat} {e : TypeId} {w : World} {base g c : Nat} {l : List α} (h : Own enc k e w base (.slice (some ⟨g, 0, none⟩) l.length c) l) (F : Flat enc k) (i : Nat) (y : α) (hi : i < l.length) :
    Own enc k e (w.setCells g (i * k) (enc y)) base (.slice (some ⟨g, 0, none⟩) l.length c) (l.set i y) ∧ Only w (w.setCells g (i * k) (enc y)) (fun b => b = g) := by
  have hH := h.holds F
  have hi' : i < l.toArray.size := by simpa using hi
  have e1 : w.setCells g (i * k) (enc y) = putRowK enc k w g 0 (l.toArray.setIfInBounds i y) := by
    conv => lhs; rw [← putRow_self id w g 0 _ hH]
    have := setCells_putRow w g 0 (enc y) (i * k) (flatK enc k l.toArray) (by rw [F.len, size_flatK]; exact rowK_bnd l.toArray k i hi')
    rw [Nat.zero_add] at this
    rw [this, setMany_set enc k F.len _ i y hi']
    rfl
  have S : SWK enc k w g 0 (l.toArray.setIfInBounds i y) (w.setCells g (i * k) (enc y)) := ⟨0, #[], by rw [e1]; unfold sortWorldK; rw [grow_empty]; rfl⟩
  have hl : (l.toArray.setIfInBounds i y).toList = l.set i y := by simp
  obtain ⟨q1, q2⟩ := h.sorted F S (by rw [hl]; simp)
  rw [hl, List.length_set] at q1
  exact ⟨q1, q2⟩
end Go.Proofs.Ytkhdghlgkljdgaa.Row
