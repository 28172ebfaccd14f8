/- The pile's cut. No law is proved here. -/
import Derived.Test.YtipgigbnfdgfmaaHP
namespace Go.Proofs.Ytipgigbnfdgfmaa.HQ
open Go.Proofs Go.Shelf Go.RowKit Go.Deep Go.Sort Go.Proofs.Ytipgigbnfdgfmaa.Types Go.Proofs.Ytipgigbnfdgfmaa.Heap Go.Proofs.Ytipgigbnfdgfmaa.Row Go.Proofs.Ytipgigbnfdgfmaa.Ord Go.Proofs.Ytipgigbnfdgfmaa.Sorted Go.Proofs.Ytipgigbnfdgfmaa.HU Go.Proofs.YtipgigbnfdgfmaaW.PrintWords Go.Proofs.YtipgigbnfdgfmaaW.PrintLast Go.Proofs.YtipgigbnfdgfmaaW.PrintMore
set_option linter.unusedVariables false
set_option linter.unusedSimpArgs false
theorem setMany_set {α : Type} [Inhabited α] (enc : α → List Value) (k : Nat) (hk : ∀ x, (enc x).length = k) (d : Array α) (i : Nat) (y : α) (hi : i < d.size) :
    setMany (flatK enc k d) (i * k) (enc y) = flatK enc k (d.setIfInBounds i y) := by
  refine ext_get! (by simp) fun t ht => ?_
  have ht' : t < d.size * k := by simpa using ht
  have k0 : 0 < k := by
    rcases Nat.eq_zero_or_pos k with h | h
    · subst h; simp at ht'
    · exact h
  have htk : t / k < d.size := Nat.div_lt_of_lt_mul (by rw [Nat.mul_comm]; exact ht')
  rw [get_setMany _ _ _ t (by simpa using ht'), get_flatK _ _ _ t ht', get_flatK _ _ _ t (by simpa using ht'), hk]
  by_cases a : t / k = i
  · rw [if_pos ((blk_iff k i t k0).2 a)]
    have e : t - i * k = t % k := by rw [← a, Nat.mod_eq_sub_div_mul]
    rw [e, a]
    simp [hi]
  · rw [if_neg (fun h => a ((blk_iff k i t k0).1 h))]
    have e : (d.setIfInBounds i y)[t / k]! = d[t / k]! := by
      rw [getElem!_pos (d.setIfInBounds i y) (t / k) (by simpa using htk), getElem!_pos d (t / k) htk, Array.getElem_setIfInBounds]
      rw [if_neg (fun q => a q.symm)]
    rw [e]
theorem own_put {α : Type} [Inhabited α] {enc : α → List Value} {k : Nat} {e : TypeId} {w : World} {base g c : Nat} {l : List α} (h : Row.Own enc k e w base (.slice (some ⟨g, 0, none⟩) l.length c) l) (F : Flat enc k) (i : Nat) (y : α) (hi : i < l.length) :
    Row.Own enc k e (w.setCells g (i * k) (enc y)) base (.slice (some ⟨g, 0, none⟩) l.length c) (l.set i y) ∧ Only w (w.setCells g (i * k) (enc y)) (fun b => b = g) := by
  have hH := h.holds F
  have hi' : i < l.toArray.size := by simpa using hi
  have e1 : w.setCells g (i * k) (enc y) = putRowK enc k w g 0 (l.toArray.setIfInBounds i y) := by
    conv => lhs; rw [← putRow_self id w g 0 _ hH]
    have := setCells_putRow w g 0 (enc y) (i * k) (flatK enc k l.toArray) (by rw [F.len, size_flatK]; exact rowK_bnd l.toArray k i hi')
    rw [Nat.zero_add] at this
    rw [this, setMany_set enc k F.len _ i y hi']
    rfl
  have S : SWK enc k w g 0 (l.toArray.setIfInBounds i y) (w.setCells g (i * k) (enc y)) := ⟨0, #[], by rw [e1]; unfold sortWorldK; rw [grow_empty]; rfl⟩
  have hl : (l.toArray.setIfInBounds i y).toList = l.set i y := by simp
  obtain ⟨q1, q2⟩ := h.sorted F S (by rw [hl]; simp)
  rw [hl, List.length_set] at q1
  exact ⟨q1, q2⟩
theorem run_put {w : World} {base g c : Nat} {l : List M} (h : OwnM w base (.slice (some ⟨g, 0, none⟩) l.length c) l) (i : Nat) (y : M) (hi : i < l.length) :
    Sem.run Try.prog (storeVar 25 ⟨g, i * 7, none⟩ (.agg (c25 y).toArray)) w = .ok () (w.setCells g (i * 7) (c25 y)) := by
  have aE : ∀ w, Sem.run Try.prog (isAgg 25) w = .ok true w := piles.aE
  have hH := h.holds flatM
  have hi' : i < l.toArray.size := by simpa using hi
  have hs := stores_of_holds Try.prog hH (i * 7) (c25 y) (by rw [flatM.len, size_flatK]; exact rowK_bnd l.toArray 7 i hi') (flatM.one _)
  rw [Nat.zero_add] at hs
  unfold storeVar
  have zE : Sem.run Try.prog (Go.sizeOf 25) w = .ok 7 w := piles.zE w
  simp only [Sem.run_bind, zE, Result.andThen_ok]
  rw [if_neg (by intro h; exact h rfl)]
  exact hs
theorem step_store {P : Program} {ops : Array Oper} {o : Oper} {a : Act} {K : Act → World → Prop} {Q : Exit → Act → World → Prop} {E : Prop} (hgd : o.guard = none) (t : TypeId) (x y : Operand) (ho : o.op = .store t x y) (hd : o.dst = none) (ad : Addr) (v : Value) (hx : a.eval x = .pointer (some ad)) (hy : a.eval y = v) {w w' : World} (hrun : Sem.run P (storeVar t ad v) w = .ok () w') (h : K a w') :
    if Region.wanted o (yielded ops a.tmps) = true then Oper.wp P o a w K Q else E := by
  have hw : Region.wanted o (yielded ops a.tmps) = true := by simp [Region.wanted, hgd]
  rw [if_pos hw]
  unfold Oper.wp
  simp [execOp, ho, Instr.storeAt, Instr.sureAddr, hx, hy, hrun, Result.andThen, hd, Act.put]
  first | exact h | (simp [Oper.upon, hd, Act.put]; done) | (simp [Oper.upon, hd, Act.put]; exact h)
theorem QAt.far {w : World} {base g : Nat} {v : Value} {l : List M} (h : QAt w base g v l) {p : Addr} (hg : g ≠ p.block) (hv : v.ownBlock ≠ some p.block) (u : Value) : QAt (w.setCell p u) base g v l :=
  ⟨h.blk.far hg u, h.own.only (S := fun b => b = p.block) ((Only.refl w (fun b => b = p.block)).setCell (p := p) (.inl rfl) u) (fun b hb e => hv (by rw [hb, e]))⟩
/-- Behind the seven stores into the block of the answer. -/
theorem fin7 {w W : World} {base g gr : Nat} {v : Value} {l : List M} {S : Nat → Prop} (z : M) (hQ : QAt W base g v l) (hR : Blk W gr 25 #[.int .i64 0, .int .i64 0, .int .i64 0, .int .i64 0, .int .i64 0, .int .i64 0, .bool false]) (hO : Only w W S) (h1 : g ≠ gr) (h2 : v.ownBlock ≠ some gr) (h3 : w.heap.size ≤ gr) :
    QAt (W.setCells gr 0 (c25 z)) base g v l ∧ Blk (W.setCells gr 0 (c25 z)) gr 25 #[.int .i64 z.f0.f0, .int .i64 z.f0.f1, .int .i64 z.f0.f2, .int .i64 z.f1, .int .i64 z.f2, .int .i64 z.f3, .bool z.f4] ∧ Only w (W.setCells gr 0 (c25 z)) S := by
  unfold c25
  simp only [World.setCells]
  refine ⟨?_, ?_, ?_⟩
  · exact ((((((hQ.far h1 h2 _).far h1 h2 _).far h1 h2 _).far h1 h2 _).far h1 h2 _).far h1 h2 _).far h1 h2 _
  · have := ((((((hR.set_ 0 (.int .i64 z.f0.f0)).set_ 1 (.int .i64 z.f0.f1)).set_ 2 (.int .i64 z.f0.f2)).set_ 3 (.int .i64 z.f1)).set_ 4 (.int .i64 z.f2)).set_ 5 (.int .i64 z.f3)).set_ 6 (.bool z.f4)
    exact this
  · exact ((((((hO.setCell (.inr h3) _).setCell (.inr h3) _).setCell (.inr h3) _).setCell (.inr h3) _).setCell (.inr h3) _).setCell (.inr h3) _).setCell (.inr h3) _
def cutL (l : List M) (i : Nat) : List M :=
  if i < l.length - 1 then (upA befM (downA befM ((l.set i (l[l.length - 1]?.getD default)).take (l.length - 1)).toArray i) i).toList else (l.set i (l[l.length - 1]?.getD default)).take (l.length - 1)
set_option maxHeartbeats 8000000 in
set_option maxRecDepth 100000 in
theorem cut_call (w : World) (base g : Nat) (A : Option Addr) (c : Nat) (l : List M) (i : Nat) (h : QAt w base g (.slice A l.length c) l) (hi : i < l.length) (hl : l.length ≤ 16384) :
    Calls Try.prog 24 #[.pointer (some ⟨g, 0, none⟩), .int .i64 i] w fun e w' => e = .returned (.agg (cM (l[i]?.getD default)).toArray) ∧ QAt w' base g (.slice A (cutL l i).length c) (cutL l i) ∧ Only w w' (fun b => b = g ∨ (Value.slice A l.length c).ownBlock = some b) := by
  obtain ⟨A', c', hv, hcap, hA⟩ := h.own.slice
  cases hv
  obtain ⟨b, rfl⟩ := hA (by omega)
  obtain ⟨n, hn⟩ : ∃ n, l.length - 1 = n := ⟨_, rfl⟩
  have hnl : n < l.length := by omega
  have hgb : g ≠ b := fun e => h.ne (by rw [e]; rfl)
  obtain ⟨A2, c2, hv2, _, hC, _⟩ := h.own.reads flatM rfl k25_mk
  cases hv2
  have HC := hide hC
  have H0 := hide h
  have HL := hide hl
  have HI := hide hi
  have HN := hide hn
  have HNL := hide hnl
  have HG := hide hgb
  clear h hl hi hn hnl hgb hC
  go_enter Try.func24, Try.ntmps24
  go_wp2_with fail
  obtain ⟨W, hW⟩ : ∃ W, w.alloc (.cells #[.int .i64 0, .int .i64 0, .int .i64 0, .int .i64 0, .int .i64 0, .int .i64 0, .bool false] 25) = W := ⟨_, rfl⟩
  have hB : Below w.heap.size w W := by rw [← hW]; exact (Below.refl _ _).alloc (Nat.le_refl _) _
  have HQ1 := hide (H0.out.below hB)
  have HR := hide (Blk.new w 25 #[.int .i64 0, .int .i64 0, .int .i64 0, .int .i64 0, .int .i64 0, .int .i64 0, .bool false])
  have HO1 : Hid (Only w W (fun x => x = g ∨ (Value.slice (some ⟨b, 0, none⟩) l.length c).ownBlock = some x)) := hide (only_of_below hB _)
  have HSZ : Hid (W.heap.size = w.heap.size + 1) := hide (by rw [← hW]; exact World.size_alloc _ _)
  have HC1 := hide (C_below HC.out hB)
  rw [hW] at HR ⊢
  obtain ⟨gr, hgr⟩ : ∃ gr, w.heap.size = gr := ⟨_, rfl⟩
  have HGR := hide hgr
  rw [hgr] at HR HSZ ⊢
  clear hW hB hgr
  obtain ⟨ad, had, p0, p1, p2, p3, p4, p5, p6⟩ := at_S25 HC1.out HI.out
  cases had
  obtain ⟨ad, had, r0, r1, r2, r3, r4, r5, r6⟩ := at_S25 HC1.out HNL.out
  cases had
  have eadd : ∀ t, (⟨b, 0, none⟩ : Addr).add t = ⟨b, t, none⟩ := fun t => by rw [Addr.add_lit, Nat.zero_add]
  rw [eadd] at p0 p1 p2 p3 p4 p5 p6 r0 r1 r2 r3 r4 r5 r6
  simp only at p1 p2 p3 p4 p5 p6 r1 r2 r3 r4 r5 r6
  have HZ : Hid (l[i]?.getD default = l[i]'HI.out) := hide (by rw [List.getElem?_eq_getElem HI.out]; rfl)
  have HY : Hid (l[n]?.getD default = l[n]'HNL.out) := hide (by rw [List.getElem?_eq_getElem HNL.out]; rfl)
  obtain ⟨z, hz⟩ : ∃ z, l[i]'HI.out = z := ⟨_, rfl⟩
  obtain ⟨y, hy⟩ : ∃ y, l[n]'HNL.out = y := ⟨_, rfl⟩
  rw [hz] at p0 p1 p2 p3 p4 p5 p6 HZ
  rw [hy] at r0 r1 r2 r3 r4 r5 r6 HY
  clear hz hy eadd
  have c0 := HQ1.out.c0
  have c0d : W.drew.cell? ⟨g, 0, none⟩ = some (.slice (some ⟨b, 0, none⟩) l.length c) := HQ1.out.c0
  have q0 : W.drew.cell? ⟨b, i * 7, none⟩ = _ := p0
  have q1 : W.drew.cell? ⟨b, i * 7 + 1, none⟩ = _ := p1
  have q2 : W.drew.cell? ⟨b, i * 7 + 2, none⟩ = _ := p2
  have q3 : W.drew.cell? ⟨b, i * 7 + 3, none⟩ = _ := p3
  have q4 : W.drew.cell? ⟨b, i * 7 + 4, none⟩ = _ := p4
  have q5 : W.drew.cell? ⟨b, i * 7 + 5, none⟩ = _ := p5
  have q6 : W.drew.cell? ⟨b, i * 7 + 6, none⟩ = _ := p6
  have b1 : (i : Int) < (l.length : Int) := by have := HI.out; omega
  have b2 : (n : Int) < (l.length : Int) := by have := HNL.out; omega
  have hnI : (l.length : Int) - 1 = (n : Int) := by have := HN.out; have := HI.out; omega
  have hl16 : (l.length : Int) ≤ 16384 := by have := HL.out; omega
  have hal : ∀ (o : Obj) (a : Addr) (v : Value), W.cell? a = some v → (W.alloc o).drew.cell? a = some v := fun o a v h => by
    show (W.alloc o).cell? a = some v
    rw [((Below.refl W.heap.size W).alloc (Nat.le_refl _) o).cell (block_lt_of_cell h)]
    exact h
  have mixed : Try.prog.follows .mixedOrders = true := by kernel_rfl
  go_big_region_o
  have HQ2 := hide ((HQ1.out.alloc (.cells #[.int .i64 z.f0.f0, .int .i64 z.f0.f1, .int .i64 z.f0.f2, .int .i64 z.f1, .int .i64 z.f2, .int .i64 z.f3, .bool z.f4] 25)).drew)
  have HX2 := hide ((Blk.new W 25 #[.int .i64 z.f0.f0, .int .i64 z.f0.f1, .int .i64 z.f0.f2, .int .i64 z.f1, .int .i64 z.f2, .int .i64 z.f3, .bool z.f4]).drew)
  have HR2 := hide ((HR.out.alloc (.cells #[.int .i64 z.f0.f0, .int .i64 z.f0.f1, .int .i64 z.f0.f2, .int .i64 z.f1, .int .i64 z.f2, .int .i64 z.f3, .bool z.f4] 25)).drew)
  have HO2 := hide ((HO1.out.alloc (.cells #[.int .i64 z.f0.f0, .int .i64 z.f0.f1, .int .i64 z.f0.f2, .int .i64 z.f1, .int .i64 z.f2, .int .i64 z.f3, .bool z.f4] 25)).drew)
  have HGX : Hid (w.heap.size < W.heap.size) := hide (by have := HSZ.out; have := HGR.out; omega)
  have q0 := hal (.cells #[.int .i64 z.f0.f0, .int .i64 z.f0.f1, .int .i64 z.f0.f2, .int .i64 z.f1, .int .i64 z.f2, .int .i64 z.f3, .bool z.f4] 25) _ _ p0
  have q1 := hal (.cells #[.int .i64 z.f0.f0, .int .i64 z.f0.f1, .int .i64 z.f0.f2, .int .i64 z.f1, .int .i64 z.f2, .int .i64 z.f3, .bool z.f4] 25) _ _ p1
  have q2 := hal (.cells #[.int .i64 z.f0.f0, .int .i64 z.f0.f1, .int .i64 z.f0.f2, .int .i64 z.f1, .int .i64 z.f2, .int .i64 z.f3, .bool z.f4] 25) _ _ p2
  have q3 := hal (.cells #[.int .i64 z.f0.f0, .int .i64 z.f0.f1, .int .i64 z.f0.f2, .int .i64 z.f1, .int .i64 z.f2, .int .i64 z.f3, .bool z.f4] 25) _ _ p3
  have q4 := hal (.cells #[.int .i64 z.f0.f0, .int .i64 z.f0.f1, .int .i64 z.f0.f2, .int .i64 z.f1, .int .i64 z.f2, .int .i64 z.f3, .bool z.f4] 25) _ _ p4
  have q5 := hal (.cells #[.int .i64 z.f0.f0, .int .i64 z.f0.f1, .int .i64 z.f0.f2, .int .i64 z.f1, .int .i64 z.f2, .int .i64 z.f3, .bool z.f4] 25) _ _ p5
  have q6 := hal (.cells #[.int .i64 z.f0.f0, .int .i64 z.f0.f1, .int .i64 z.f0.f2, .int .i64 z.f1, .int .i64 z.f2, .int .i64 z.f3, .bool z.f4] 25) _ _ p6
  have r0 := hal (.cells #[.int .i64 z.f0.f0, .int .i64 z.f0.f1, .int .i64 z.f0.f2, .int .i64 z.f1, .int .i64 z.f2, .int .i64 z.f3, .bool z.f4] 25) _ _ r0
  have r1 := hal (.cells #[.int .i64 z.f0.f0, .int .i64 z.f0.f1, .int .i64 z.f0.f2, .int .i64 z.f1, .int .i64 z.f2, .int .i64 z.f3, .bool z.f4] 25) _ _ r1
  have r2 := hal (.cells #[.int .i64 z.f0.f0, .int .i64 z.f0.f1, .int .i64 z.f0.f2, .int .i64 z.f1, .int .i64 z.f2, .int .i64 z.f3, .bool z.f4] 25) _ _ r2
  have r3 := hal (.cells #[.int .i64 z.f0.f0, .int .i64 z.f0.f1, .int .i64 z.f0.f2, .int .i64 z.f1, .int .i64 z.f2, .int .i64 z.f3, .bool z.f4] 25) _ _ r3
  have r4 := hal (.cells #[.int .i64 z.f0.f0, .int .i64 z.f0.f1, .int .i64 z.f0.f2, .int .i64 z.f1, .int .i64 z.f2, .int .i64 z.f3, .bool z.f4] 25) _ _ r4
  have r5 := hal (.cells #[.int .i64 z.f0.f0, .int .i64 z.f0.f1, .int .i64 z.f0.f2, .int .i64 z.f1, .int .i64 z.f2, .int .i64 z.f3, .bool z.f4] 25) _ _ r5
  have r6 := hal (.cells #[.int .i64 z.f0.f0, .int .i64 z.f0.f1, .int .i64 z.f0.f2, .int .i64 z.f1, .int .i64 z.f2, .int .i64 z.f3, .bool z.f4] 25) _ _ r6
  have HBlt : Hid (b < W.heap.size) := hide (HQ1.out.own.blk b rfl).2
  generalize hW2 : (W.alloc (.cells #[.int .i64 z.f0.f0, .int .i64 z.f0.f1, .int .i64 z.f0.f2, .int .i64 z.f1, .int .i64 z.f2, .int .i64 z.f3, .bool z.f4] 25)).drew = W2 at HQ2 HX2 HR2 HO2 q0 q1 q2 q3 q4 q5 q6 r0 r1 r2 r3 r4 r5 r6 ⊢
  obtain ⟨gx, hgx⟩ : ∃ gx, W.heap.size = gx := ⟨_, rfl⟩
  rw [hgx] at HX2 HGX HBlt ⊢
  clear hW2 hgx p0 p1 p2 p3 p4 p5 p6 c0 c0d HC1 HC HR HO1 HQ1 hal
  have c0d : W2.drew.cell? ⟨g, 0, none⟩ = some (.slice (some ⟨b, 0, none⟩) l.length c) := HQ2.out.c0
  have q0 : W2.drew.cell? ⟨b, i * 7, none⟩ = some (.int .i64 z.f0.f0) := q0
  have q1 : W2.drew.cell? ⟨b, i * 7 + 1, none⟩ = some (.int .i64 z.f0.f1) := q1
  have q2 : W2.drew.cell? ⟨b, i * 7 + 2, none⟩ = some (.int .i64 z.f0.f2) := q2
  have q3 : W2.drew.cell? ⟨b, i * 7 + 3, none⟩ = some (.int .i64 z.f1) := q3
  have q4 : W2.drew.cell? ⟨b, i * 7 + 4, none⟩ = some (.int .i64 z.f2) := q4
  have q5 : W2.drew.cell? ⟨b, i * 7 + 5, none⟩ = some (.int .i64 z.f3) := q5
  have q6 : W2.drew.cell? ⟨b, i * 7 + 6, none⟩ = some (.bool z.f4) := q6
  have r0 : W2.drew.cell? ⟨b, n * 7, none⟩ = some (.int .i64 y.f0.f0) := r0
  have r1 : W2.drew.cell? ⟨b, n * 7 + 1, none⟩ = some (.int .i64 y.f0.f1) := r1
  have r2 : W2.drew.cell? ⟨b, n * 7 + 2, none⟩ = some (.int .i64 y.f0.f2) := r2
  have r3 : W2.drew.cell? ⟨b, n * 7 + 3, none⟩ = some (.int .i64 y.f1) := r3
  have r4 : W2.drew.cell? ⟨b, n * 7 + 4, none⟩ = some (.int .i64 y.f2) := r4
  have r5 : W2.drew.cell? ⟨b, n * 7 + 5, none⟩ = some (.int .i64 y.f3) := r5
  have r6 : W2.drew.cell? ⟨b, n * 7 + 6, none⟩ = some (.bool y.f4) := r6
  go_wp2_with fail
  have c0e := HQ2.out.c0
  have hfz : ∀ t, W2.frozen? ⟨b, t, none⟩ = false := fun t => by
    rcases HQ2.out.own.2 with ⟨hv, _⟩ | ⟨g', cap, cur, hv, _, hh, _⟩
    · cases hv
    · injection hv with hv
      injection hv with hv
      injection hv with hv
      subst hv
      exact Blk.frozen (t := 25) (cs := cur) hh t
  have f0 := hfz (i * 7)
  have f1 := hfz (i * 7 + 1)
  have f2 := hfz (i * 7 + 2)
  have f3 := hfz (i * 7 + 3)
  have f4 := hfz (i * 7 + 4)
  have f5 := hfz (i * 7 + 5)
  have f6 := hfz (i * 7 + 6)
  clear hfz
  go_big_region_o
  have hch : (((((((W2.setCell ⟨b, i * 7, none⟩ (.int .i64 y.f0.f0)).setCell ⟨b, i * 7 + 1, none⟩ (.int .i64 y.f0.f1)).setCell ⟨b, i * 7 + 2, none⟩ (.int .i64 y.f0.f2)).setCell ⟨b, i * 7 + 3, none⟩ (.int .i64 y.f1)).setCell ⟨b, i * 7 + 4, none⟩ (.int .i64 y.f2)).setCell ⟨b, i * 7 + 5, none⟩ (.int .i64 y.f3)).setCell ⟨b, i * 7 + 6, none⟩ (.bool y.f4)) = W2.setCells b (i * 7) (c25 y) := rfl
  rw [hch]
  have HP := hide (own_put HQ2.out.own flatM i y HI.out)
  have HGB : Hid (gx ≠ b ∧ gr ≠ b ∧ gx ≠ g ∧ gr ≠ g ∧ gx ≠ gr) := hide (by
    have h1 := HBlt.out
    have h2 := HSZ.out
    have h3 := HGR.out
    have h4 := H0.out.blk.lt
    have h5 := (H0.out.own.blk b rfl).2
    have h6 := HGX.out
    refine ⟨by omega, by omega, by omega, by omega, by omega⟩)
  have HQ3 : Hid (QAt (W2.setCells b (i * 7) (c25 y)).drew base g (.slice (some ⟨b, 0, none⟩) l.length c) (l.set i y)) := hide ⟨(HQ2.out.blk.only HP.out.2 HG.out).drew, HP.out.1.drew⟩
  have HX3 := hide ((HX2.out.only HP.out.2 HGB.out.1).drew)
  have HR3 := hide ((HR2.out.only HP.out.2 HGB.out.2.1).drew)
  have HO3 := hide ((HO2.out.trans (HP.out.2.mono (fun x hx => .inr (by rw [hx]; rfl)))).drew)
  generalize (W2.setCells b (i * 7) (c25 y)).drew = W3 at HQ3 HX3 HR3 HO3 ⊢
  clear hch HP HQ2 HX2 HR2 HO2 q0 q1 q2 q3 q4 q5 q6 r0 r1 r2 r3 r4 r5 r6 f0 f1 f2 f3 f4 f5 f6 c0d c0e
  have c0 := HQ3.out.c0
  have f0 : W3.frozen? ⟨g, 0, none⟩ = false := HQ3.out.blk.frozen 0
  have hcI : (n : Int) ≤ (c : Int) := by have := HNL.out; omega
  have hl4 : ((l.set i y).take n).length = n := by have := HNL.out; simp; omega
  have HQ4 : Hid (QAt (W3.setCell ⟨g, 0, none⟩ (.slice (some ⟨b, 0, none⟩) n c)) base g (.slice (some ⟨b, 0, none⟩) ((l.set i y).take n).length c) ((l.set i y).take n)) := hide (by
    refine ⟨by rw [hl4]; exact Blk.set_ HQ3.out.blk 0 _, ?_⟩
    have hown : OwnM W3 base (.slice (some ⟨b, 0, none⟩) (l.set i y).length c) (l.set i y) := by rw [List.length_set]; exact HQ3.out.own
    have := hown.take flatM (m := n) (by rw [List.length_set]; exact Nat.le_of_lt HNL.out)
    rw [hl4]
    exact this.only (S := fun x => x = g) ((Only.refl W3 (fun x => x = g)).setCell (p := ⟨g, 0, none⟩) (.inl rfl) _) (fun x hx e => by injection hx with hx; exact HG.out (e.symm.trans hx.symm)))
  have HX4 := hide (HX3.out.far (p := ⟨g, 0, none⟩) HGB.out.2.2.1 (.slice (some ⟨b, 0, none⟩) n c))
  have HR4 := hide (HR3.out.far (p := ⟨g, 0, none⟩) HGB.out.2.2.2.1 (.slice (some ⟨b, 0, none⟩) n c))
  have HO4 := hide (HO3.out.setCell (p := ⟨g, 0, none⟩) (.inl (.inl rfl)) (.slice (some ⟨b, 0, none⟩) n c))
  have HL4 := hide hl4
  have HCUT : Hid (cutL l i = if i < n then (upA befM (downA befM ((l.set i y).take n).toArray i) i).toList else (l.set i y).take n) := hide (by
    unfold cutL
    rw [HN.out, HY.out])
  obtain ⟨l4, hl4e⟩ : ∃ l4, (l.set i y).take n = l4 := ⟨_, rfl⟩
  rw [hl4e] at HQ4 HL4 HCUT
  clear hl4 hl4e
  by_cases hin : i < n
  · have binI : (i : Int) < (n : Int) := by omega
    rw [if_pos hin] at HCUT
    obtain ⟨W4, hW4⟩ : ∃ W4, W3.setCell ⟨g, 0, none⟩ (.slice (some ⟨b, 0, none⟩) n c) = W4 := ⟨_, rfl⟩
    rw [hW4] at HQ4 HX4 HR4 HO4
    clear HQ3 HX3 HR3 HO3
    have HD := hide (down_own W4 base g _ c l4 i HQ4.out (by rw [HL4.out]; exact hin) (by rw [HL4.out]; have := HL.out; have := HNL.out; omega))
    go_wp2_with (go_at_call 33; refine HD.out.mono ?_; rintro e w5 ⟨rfl, hq, ho⟩; have HQ5 := hide hq; have HO5 := hide ho; clear hq ho HD)
    obtain ⟨l5, hl5⟩ : ∃ l5, (downA befM l4.toArray i).toList = l5 := ⟨_, rfl⟩
    have hL5 : l5.length = l4.length := by rw [← hl5, Array.length_toList, size_downA befM _ _ _ rfl]; simp
    rw [hl5] at HQ5
    have HU := hide (up_own w5 base g _ c l5 i (by rw [hL5]; exact HQ5.out) (by rw [hL5, HL4.out]; exact hin) (by rw [hL5, HL4.out]; have := HL.out; have := HNL.out; omega))
    have HX5 := hide (HX4.out.only HO5.out (fun e => by injection e with e; exact HGB.out.1 e.symm))
    have HR5 := hide (HR4.out.only HO5.out (fun e => by injection e with e; exact HGB.out.2.1 e.symm))
    have HO5' := hide (HO4.out.trans (HO5.out.mono (fun x hx => .inr hx)))
    have HL5 := hide hL5
    clear hL5 HX4 HR4 HO4 HQ4
    refine HU.out.mono ?_
    rintro e w6 ⟨rfl, hq, ho⟩
    have HQ6 := hide hq
    have HO6 := hide ho
    have HX6 := hide (HX5.out.only HO6.out (fun e => by injection e with e; exact HGB.out.1 e.symm))
    have HR6 := hide (HR5.out.only HO6.out (fun e => by injection e with e; exact HGB.out.2.1 e.symm))
    have HO6' := hide (HO5'.out.trans (HO6.out.mono (fun x hx => .inr hx)))
    clear hq ho HU HX5 HR5 HO5' HO5
    have x0 : w6.cell? ⟨gx, 0, none⟩ = some (.int .i64 z.f0.f0) := HX6.out.cell 0
    have v0 : w6.frozen? ⟨gr, 0, none⟩ = false := HR6.out.frozen 0
    have r0 : w6.cell? ⟨gr, 0, none⟩ = some (.int .i64 0) := HR6.out.cell 0
    have x1 : w6.cell? ⟨gx, 1, none⟩ = some (.int .i64 z.f0.f1) := HX6.out.cell 1
    have v1 : w6.frozen? ⟨gr, 1, none⟩ = false := HR6.out.frozen 1
    have r1 : w6.cell? ⟨gr, 1, none⟩ = some (.int .i64 0) := HR6.out.cell 1
    have x2 : w6.cell? ⟨gx, 2, none⟩ = some (.int .i64 z.f0.f2) := HX6.out.cell 2
    have v2 : w6.frozen? ⟨gr, 2, none⟩ = false := HR6.out.frozen 2
    have r2 : w6.cell? ⟨gr, 2, none⟩ = some (.int .i64 0) := HR6.out.cell 2
    have x3 : w6.cell? ⟨gx, 3, none⟩ = some (.int .i64 z.f1) := HX6.out.cell 3
    have v3 : w6.frozen? ⟨gr, 3, none⟩ = false := HR6.out.frozen 3
    have r3 : w6.cell? ⟨gr, 3, none⟩ = some (.int .i64 0) := HR6.out.cell 3
    have x4 : w6.cell? ⟨gx, 4, none⟩ = some (.int .i64 z.f2) := HX6.out.cell 4
    have v4 : w6.frozen? ⟨gr, 4, none⟩ = false := HR6.out.frozen 4
    have r4 : w6.cell? ⟨gr, 4, none⟩ = some (.int .i64 0) := HR6.out.cell 4
    have x5 : w6.cell? ⟨gx, 5, none⟩ = some (.int .i64 z.f3) := HX6.out.cell 5
    have v5 : w6.frozen? ⟨gr, 5, none⟩ = false := HR6.out.frozen 5
    have r5 : w6.cell? ⟨gr, 5, none⟩ = some (.int .i64 0) := HR6.out.cell 5
    have x6 : w6.cell? ⟨gx, 6, none⟩ = some (.bool z.f4) := HX6.out.cell 6
    have v6 : w6.frozen? ⟨gr, 6, none⟩ = false := HR6.out.frozen 6
    have r6 : w6.cell? ⟨gr, 6, none⟩ = some (.bool false) := HR6.out.cell 6
    go_wp2_with fail
    have hl6 : (upA befM (downA befM l4.toArray i) i).toList = (upA befM l5.toArray i).toList := by rw [← hl5]
    have hl6' : (upA befM l5.toArray i).toList.length = l5.length := by rw [Array.length_toList, size_upA]; simp
    have hch : (((((((w6.setCell ⟨gr, 0, none⟩ (.int .i64 z.f0.f0)).setCell ⟨gr, 1, none⟩ (.int .i64 z.f0.f1)).setCell ⟨gr, 2, none⟩ (.int .i64 z.f0.f2)).setCell ⟨gr, 3, none⟩ (.int .i64 z.f1)).setCell ⟨gr, 4, none⟩ (.int .i64 z.f2)).setCell ⟨gr, 5, none⟩ (.int .i64 z.f3)).setCell ⟨gr, 6, none⟩ (.bool z.f4)) = w6.setCells gr 0 (c25 z) := rfl
    rw [hch]
    obtain ⟨e1, e2, e3⟩ := fin7 z HQ6.out HR6.out HO6'.out (fun e => HGB.out.2.2.2.1 e.symm) (fun e => by injection e with e; exact HGB.out.2.1 e.symm) (Nat.le_of_eq HGR.out)
    rw [HZ.out, HCUT.out]
    refine bodyPost_ret (v := .agg #[.int .i64 z.f0.f0, .int .i64 z.f0.f1, .int .i64 z.f0.f2, .int .i64 z.f1, .int .i64 z.f2, .int .i64 z.f3, .bool z.f4]) ?_ rfl ⟨rfl, by rw [hl6, hl6']; exact e1, e3⟩
    exact results_cell_row rfl _ _ gr 25 _ (0, 0) _ rfl e2 Try.underlying25 rfl (by kernel_rfl)
  · have binI : ¬ (i : Int) < (n : Int) := by omega
    rw [if_neg hin] at HCUT
    obtain ⟨W4, hW4⟩ : ∃ W4, W3.setCell ⟨g, 0, none⟩ (.slice (some ⟨b, 0, none⟩) n c) = W4 := ⟨_, rfl⟩
    rw [hW4] at HQ4 HX4 HR4 HO4
    clear HQ3 HX3 HR3 HO3
    have x0 : W4.cell? ⟨gx, 0, none⟩ = some (.int .i64 z.f0.f0) := HX4.out.cell 0
    have v0 : W4.frozen? ⟨gr, 0, none⟩ = false := HR4.out.frozen 0
    have r0 : W4.cell? ⟨gr, 0, none⟩ = some (.int .i64 0) := HR4.out.cell 0
    have x1 : W4.cell? ⟨gx, 1, none⟩ = some (.int .i64 z.f0.f1) := HX4.out.cell 1
    have v1 : W4.frozen? ⟨gr, 1, none⟩ = false := HR4.out.frozen 1
    have r1 : W4.cell? ⟨gr, 1, none⟩ = some (.int .i64 0) := HR4.out.cell 1
    have x2 : W4.cell? ⟨gx, 2, none⟩ = some (.int .i64 z.f0.f2) := HX4.out.cell 2
    have v2 : W4.frozen? ⟨gr, 2, none⟩ = false := HR4.out.frozen 2
    have r2 : W4.cell? ⟨gr, 2, none⟩ = some (.int .i64 0) := HR4.out.cell 2
    have x3 : W4.cell? ⟨gx, 3, none⟩ = some (.int .i64 z.f1) := HX4.out.cell 3
    have v3 : W4.frozen? ⟨gr, 3, none⟩ = false := HR4.out.frozen 3
    have r3 : W4.cell? ⟨gr, 3, none⟩ = some (.int .i64 0) := HR4.out.cell 3
    have x4 : W4.cell? ⟨gx, 4, none⟩ = some (.int .i64 z.f2) := HX4.out.cell 4
    have v4 : W4.frozen? ⟨gr, 4, none⟩ = false := HR4.out.frozen 4
    have r4 : W4.cell? ⟨gr, 4, none⟩ = some (.int .i64 0) := HR4.out.cell 4
    have x5 : W4.cell? ⟨gx, 5, none⟩ = some (.int .i64 z.f3) := HX4.out.cell 5
    have v5 : W4.frozen? ⟨gr, 5, none⟩ = false := HR4.out.frozen 5
    have r5 : W4.cell? ⟨gr, 5, none⟩ = some (.int .i64 0) := HR4.out.cell 5
    have x6 : W4.cell? ⟨gx, 6, none⟩ = some (.bool z.f4) := HX4.out.cell 6
    have v6 : W4.frozen? ⟨gr, 6, none⟩ = false := HR4.out.frozen 6
    have r6 : W4.cell? ⟨gr, 6, none⟩ = some (.bool false) := HR4.out.cell 6
    go_wp2_with fail
    have hch : (((((((W4.setCell ⟨gr, 0, none⟩ (.int .i64 z.f0.f0)).setCell ⟨gr, 1, none⟩ (.int .i64 z.f0.f1)).setCell ⟨gr, 2, none⟩ (.int .i64 z.f0.f2)).setCell ⟨gr, 3, none⟩ (.int .i64 z.f1)).setCell ⟨gr, 4, none⟩ (.int .i64 z.f2)).setCell ⟨gr, 5, none⟩ (.int .i64 z.f3)).setCell ⟨gr, 6, none⟩ (.bool z.f4)) = W4.setCells gr 0 (c25 z) := rfl
    rw [hch]
    obtain ⟨e1, e2, e3⟩ := fin7 z HQ4.out HR4.out HO4.out (fun e => HGB.out.2.2.2.1 e.symm) (fun e => by injection e with e; exact HGB.out.2.1 e.symm) (Nat.le_of_eq HGR.out)
    rw [HZ.out, HCUT.out]
    refine bodyPost_ret (v := .agg #[.int .i64 z.f0.f0, .int .i64 z.f0.f1, .int .i64 z.f0.f2, .int .i64 z.f1, .int .i64 z.f2, .int .i64 z.f3, .bool z.f4]) ?_ rfl ⟨rfl, e1, e3⟩
    exact results_cell_row rfl _ _ gr 25 _ (0, 0) _ rfl e2 Try.underlying25 rfl (by kernel_rfl)
end Go.Proofs.Ytipgigbnfdgfmaa.HQ
