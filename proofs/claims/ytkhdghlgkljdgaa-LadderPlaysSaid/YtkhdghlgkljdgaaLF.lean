/- The ladder's spill and fill. No law is proved here. -/
import Derived.Test.YtkhdghlgkljdgaaLE
namespace Go.Proofs.Ytkhdghlgkljdgaa.LQ
open Go.Proofs Go.Proofs.Ytkhdghlgkljdgaa.CQ Go.Proofs.Ytkhdghlgkljdgaa.Ref02 Go.Shelf Go.RowKit Go.Deep Go.Sort Go.Proofs.Ytkhdghlgkljdgaa.SortPure Go.Proofs.Ytkhdghlgkljdgaa.Types Go.Proofs.Ytkhdghlgkljdgaa.Heap Go.Proofs.Ytkhdghlgkljdgaa.Row Go.Proofs.Ytkhdghlgkljdgaa.Ord Go.Proofs.Ytkhdghlgkljdgaa.Sorted Go.Proofs.YtkhdghlgkljdgaaW.PrintWords Go.Proofs.YtkhdghlgkljdgaaW.PrintLast Go.Proofs.YtkhdghlgkljdgaaW.PrintMore
set_option linter.unusedVariables false
set_option linter.unusedSimpArgs false
section
variable {α : Type} {enc : α → List Value} {k : Nat} {e : TypeId} {w : World} {base : Nat} {l : List α}
theorem append_types {P : Program} {t t2 ty e e2 : TypeId} (ht : P.underlying t = some (.slice e)) (ht2 : P.underlying t2 = some (.slice e2)) (v x : Value) (w : World) : (Builtin.append_ #[t, t2] ty #[v, x]).run P w = (Builtin.append_ #[t, t] ty #[v, x]).run P w := by
  cases v <;> simp [Builtin.append_, run_underlying ht, run_underlying ht2, Sem.run_bind]
/-- 'append(row, what reads as l2 ...)', as one operation; the value is shown as a slice. -/
theorem wp1_append2 {P : Program} {o : Oper} {a : Act} {K : Act → World → Prop} {Q : Exit → Act → World → Prop} {d : Kd α} (F : Flat enc k) (hd : d.sz = k) (hK : ∀ {w x cs}, d.K w x cs → cs = enc x) (s x : Operand) (t t2 : TypeId)
    (ho : o.op = .call { callee := .builtin .append, args := #[s, x], argTypes := #[t, t2] }) (z : Value) (bytes : Nat) (ht : P.underlying t = some (.slice e)) (ht2 : P.underlying t2 = some (.slice e))
    (hi : (P.info? e).map (fun i => (i.zero, i.size, i.bytes)) = some (some z, k, bytes)) (hzs : z.cells.size = k) (v : Value) (hs : a.eval s = v) (hown : Own enc k e w base v l)
    (ao : Option Addr) (n2 c : Nat) (l2 : List α) (hx : a.eval x = .slice ao n2 c) (hC : Kd.C d w ao n2 l2)
    (hb0 : 0 < bytes) (hbytes : (l.length + l2.length) * bytes ≤ 140737488355328) (hbase : base ≤ w.heap.size)
    (h : ∀ (A' : Option Addr) (m' c' : Nat) w', m' = l.length + l2.length → Own enc k e w' base (.slice A' m' c') (l ++ l2) → w.grownBy w' v.ownBlock → ((Value.slice A' m' c').ownBlock = v.ownBlock ∨ (Value.slice A' m' c').ownBlock = some w.heap.size) → K (a.put o.dst (.slice A' m' c')) w') : o.wp P a w K Q := by
  obtain ⟨i0, hi0, hz0, hz1, hz2⟩ := info_parts hi
  have hn : n2 = l2.length := hC.1.symm
  subst hn
  cases ao with
  | none =>
    have hl : l2 = [] := by
      rcases Nat.eq_zero_or_pos l2.length with h0 | h0
      · exact List.eq_nil_of_length_eq_zero h0
      · obtain ⟨ad, e, _⟩ := hC.2.2 h0
        cases e
    subst hl
    obtain ⟨A', c', rfl, _, _⟩ := hown.slice
    have hrun := (append_types ht ht2 (.slice A' l.length c') (.slice none 0 c) w).trans (run_append_none' (P := P) w base t o.type e i0 k ht hi0 (.slice A' l.length c') l.length (l.flatMap enc) hown c)
    have hfin := h A' l.length c' w (by simp) (by rw [List.append_nil]; exact hown) ⟨rfl, rfl, rfl, Nat.le_refl _, fun _ _ _ => rfl⟩ (.inl rfl)
    unfold Oper.wp
    simp [execOp, ho, resolve, invoke, builtin, hs, hx, hrun, Result.andThen]
    exact hfin
  | some ad =>
    have h63 : l.length + l2.length ≤ maxLen := by
      have : (l.length + l2.length) * 1 ≤ (l.length + l2.length) * bytes := Nat.mul_le_mul_left _ hb0
      simp only [maxLen]
      omega
    obtain ⟨v', w', hr, h1, h2, _, h5⟩ := run_append_own_at (P := P) w base t o.type e i0 z k bytes ht hi0 hz0 hz1 hz2 hzs F.pos v l.length (l.flatMap enc) hown ad l2.length c (l2.flatMap enc) (length_flat F l2) (flat_cells hC F hd hK) (one_flat F l2) h63 hbytes hbase
    have h1' : Own enc k e w' base v' (l ++ l2) := by
      unfold Own
      rw [List.length_append, List.flatMap_append]
      exact h1
    obtain ⟨A', c', rfl, _, _⟩ := h1'.slice
    have hr := (append_types ht ht2 v (.slice (some ad) l2.length c) w).trans hr
    unfold Oper.wp execOp
    simp only [ho, resolve, invoke, builtin, Sem.run_bind, Sem.run_pure, Result.andThen_ok, List.map_toArray, List.map_cons, List.map_nil, hs, hx, hr]
    exact h A' _ c' w' (by rw [List.length_append]) h1' h2 h5
/-- The same at a step of a region that draws its order. -/
theorem step_append2 {P : Program} {ops : Array Oper} {o : Oper} {a : Act} {K : Act → World → Prop} {Q : Exit → Act → World → Prop} {E : Prop} {d : Kd α} (F : Flat enc k) (hd : d.sz = k) (hK : ∀ {w x cs}, d.K w x cs → cs = enc x) (hgd : o.guard = none) (s x : Operand) (t t2 : TypeId)
    (ho : o.op = .call { callee := .builtin .append, args := #[s, x], argTypes := #[t, t2] }) (z : Value) (bytes : Nat) (ht : P.underlying t = some (.slice e)) (ht2 : P.underlying t2 = some (.slice e))
    (hi : (P.info? e).map (fun i => (i.zero, i.size, i.bytes)) = some (some z, k, bytes)) (hzs : z.cells.size = k) (v : Value) (hs : a.eval s = v) (hown : Own enc k e w base v l)
    (ao : Option Addr) (n2 c : Nat) (l2 : List α) (hx : a.eval x = .slice ao n2 c) (hC : Kd.C d w ao n2 l2)
    (hb0 : 0 < bytes) (hbytes : (l.length + l2.length) * bytes ≤ 140737488355328) (hbase : base ≤ w.heap.size)
    (h : ∀ (A' : Option Addr) (m' c' : Nat) w', m' = l.length + l2.length → Own enc k e w' base (.slice A' m' c') (l ++ l2) → w.grownBy w' v.ownBlock → ((Value.slice A' m' c').ownBlock = v.ownBlock ∨ (Value.slice A' m' c').ownBlock = some w.heap.size) → K (a.put o.dst (.slice A' m' c')) w') :
    if Region.wanted o (yielded ops a.tmps) = true then Oper.wp P o a w K Q else E := by
  have hw : Region.wanted o (yielded ops a.tmps) = true := by simp [Region.wanted, hgd]
  rw [if_pos hw]
  exact wp1_append2 F hd hK s x t t2 ho z bytes ht ht2 hi hzs v hs hown ao n2 c l2 hx hC hb0 hbytes hbase h
end
theorem infoR2 : (Try.prog.info? tG).map (fun i => (i.zero, i.size, i.bytes)) = some (some (.slice none 0 0), 1, 24) := by kernel_rfl
theorem half_eq {n h : Nat} (e : n / 2 = h) : (n : Int).tdiv 2 = (h : Int) := by
  subst e
  rfl
section
variable {w w' : World} {S T : Nat → Prop} {g : Nat} {A A' : Option Addr} {c c' : Nat} {b b' : List M} {most : Int} {R R' : Option Addr} {rc rc' : Nat} {rs : List Rg}
/-- One rung more. -/
theorem LAt.addr {r : Rg} (h : LAt w S g A c b most R rc rs) (hN : ∀ x, w.heap.size ≤ x → S x) (hO : Only w w' T) (hT : ∀ x, T x → x < w.heap.size → x = g ∨ (Value.slice R rs.length rc).ownBlock = some x)
    (hblk : Blk w' g tQ #[.slice A b.length c, .int .i64 most, .slice R' (rs ++ [r]).length rc']) (hrow : OwnR w' (.slice R' (rs ++ [r]).length rc') (rs ++ [r])) (hr : OwnM w' 0 (.slice (some ⟨r.x, 0, none⟩) r.l.length r.c) r.l) (hx : w.heap.size ≤ r.x)
    (hnew : ∀ x, (Value.slice R' (rs ++ [r]).length rc').ownBlock = some x → (Value.slice R rs.length rc).ownBlock = some x ∨ w.heap.size ≤ x) : LAt w' S g A c b most R' rc' (rs ++ [r]) := by
  have hlt : ∀ q ∈ rs, q.x < w.heap.size := fun q hq => ((h.rung q hq).blk q.x rfl).2
  refine ⟨hblk, h.bot.move (fun x hx => hO.block x (h.bot.blk x hx).2 (fun q => ?_)), hrow, fun q hq => ?_, ?_, fun q hq e => ?_, h.sg, h.sb, fun x hx' => ?_, fun q hq => ?_⟩
  · rcases hT x q (h.bot.blk x hx).2 with e | e
    · exact h.bg (e ▸ hx)
    · exact h.rb e hx
  · rcases List.mem_append.1 hq with e | e
    · refine (h.rung q e).move (fun x hx => hO.block x ((h.rung q e).blk x hx).2 (fun q' => ?_))
      simp only [Value.ownBlock, Option.some.injEq] at hx
      subst hx
      rcases hT _ q' (hlt q e) with e' | e'
      · exact h.xg e e'
      · exact h.rx e e'
    · rw [List.mem_singleton.1 e]; exact hr
  · rw [List.map_append, List.nodup_append]
    refine ⟨h.nd, by simp, fun a ha b' hb' e => ?_⟩
    obtain ⟨q, hq, rfl⟩ := List.mem_map.1 ha
    have := hlt q hq
    simp only [List.map_cons, List.map_nil, List.mem_singleton] at hb'
    omega
  · rcases List.mem_append.1 hq with q' | q'
    · exact h.nb q q' e
    · have := (h.bot.blk _ e).2
      rw [List.mem_singleton.1 q'] at this
      omega
  · rcases hnew x hx' with q | q
    · exact h.sr x q
    · exact hN x q
  · rcases List.mem_append.1 hq with e | e
    · exact h.ss q e
    · rw [List.mem_singleton.1 e]; exact hN _ hx
/-- The first ones of the bottom. -/
theorem LAt.takeb (h : LAt w S g A c b most R rc rs) {k : Nat} (hk : k ≤ b.length) (hO : Only w w' (fun x => x = g)) (hblk : Blk w' g tQ #[.slice A k c, .int .i64 most, .slice R rs.length rc]) : LAt w' S g A c (b.take k) most R rc rs := by
  have hl : (b.take k).length = k := by rw [List.length_take]; omega
  have hob : ∀ n, (Value.slice A n c).ownBlock = (Value.slice A b.length c).ownBlock := fun n => by cases A <;> rfl
  refine ⟨by rw [hl]; exact hblk, ?_, h.row.move (fun x hx => hO.block x (h.row.blk x hx).2 (fun e => h.rg (e ▸ hx))), fun r hr => (h.rung r hr).move (fun x hx => hO.block x ((h.rung r hr).blk x hx).2 (fun e => ?_)), h.nd, fun r hr e => h.nb r hr ((hob _).symm.trans e), h.sg, fun x hx => h.sb x ((hob _).symm.trans hx), h.sr, h.ss⟩
  · have := (h.bot.take flatM hk).move (w' := w') (fun x hx => hO.block x (h.bot.blk x ((hob _).symm.trans hx)).2 (fun e => h.bg ((hob k).symm.trans (e ▸ hx))))
    rw [hl]; exact this
  · simp only [Value.ownBlock, Option.some.injEq] at hx
    subst hx
    exact h.xg hr e
end
theorem own_someR {w : World} {base : Nat} {R : Option Addr} {n c : Nat} {l : List Rg} (h : Own encR 1 tG w base (.slice R n c) l) (h0 : 0 < l.length) : n = l.length ∧ l.length ≤ c ∧ ∃ g, R = some ⟨g, 0, none⟩ := by
  obtain ⟨A', c', hv, hc, hA⟩ := h.slice
  cases hv
  exact ⟨rfl, hc, hA h0⟩
/-- The cell of a rung in its row. -/
theorem at_R0 {w : World} {x rc : Nat} {rs : List Rg} (h : OwnR w (.slice (some ⟨x, 0, none⟩) rs.length rc) rs) {i : Nat} (hi : i < rs.length) {r : Rg} (hr : rs[i] = r) : w.cell? ⟨x, i, none⟩ = some (.slice (some ⟨r.x, 0, none⟩) r.l.length r.c) ∧ w.frozen? ⟨x, i, none⟩ = false := by
  subst hr
  obtain ⟨ad, e, hc⟩ := at_R h hi
  cases e
  rw [add0, Nat.mul_one] at hc
  refine ⟨hc, ?_⟩
  rcases h.2 with ⟨hv, _⟩ | ⟨g', cap, cur, hv, _, hh, _⟩
  · cases hv
  · injection hv with hv
    injection hv with hv
    injection hv with hv
    subst hv
    exact Blk.frozen (t := tG) (cs := cur) hh i
section
variable {w w' : World} {S T : Nat → Prop} {g : Nat} {A A' : Option Addr} {c c' : Nat} {b b' : List M} {most : Int} {R R' : Option Addr} {rc rc' : Nat} {rs : List Rg}
/-- The first ones of the rungs. -/
theorem LAt.taker (h : LAt w S g A c b most R rc rs) {k : Nat} (hk : k ≤ rs.length) (hO : Only w w' (fun x => x = g)) (hblk : Blk w' g tQ #[.slice A b.length c, .int .i64 most, .slice R k rc]) : LAt w' S g A c b most R rc (rs.take k) := by
  have hl : (rs.take k).length = k := by rw [List.length_take]; omega
  have hob : ∀ n, (Value.slice R n rc).ownBlock = (Value.slice R rs.length rc).ownBlock := fun n => by cases R <;> rfl
  have hm : ∀ r ∈ rs.take k, r ∈ rs := fun r hr => (List.take_sublist k rs).subset hr
  refine ⟨by rw [hl]; exact hblk, h.bot.move (fun x hx => hO.block x (h.bot.blk x hx).2 (fun e => h.bg (e ▸ hx))), ?_, fun r hr => (h.rung r (hm r hr)).move (fun x hx => hO.block x ((h.rung r (hm r hr)).blk x hx).2 (fun e => ?_)), ?_, fun r hr => h.nb r (hm r hr), h.sg, h.sb, fun x hx => h.sr x ((hob _).symm.trans hx), fun r hr => h.ss r (hm r hr)⟩
  · have := (h.row.take flatR hk).move (w' := w') (fun x hx => hO.block x (h.row.blk x ((hob _).symm.trans hx)).2 (fun e => h.rg ((hob k).symm.trans (e ▸ hx))))
    rw [hl]; exact this
  · simp only [Value.ownBlock, Option.some.injEq] at hx
    subst hx
    exact h.xg (hm r hr) e
  · rw [List.map_take]
    exact h.nd.sublist (List.take_sublist _ _)
end
set_option maxHeartbeats 8000000 in
set_option maxRecDepth 100000 in
theorem spill_no {w : World} {S : Nat → Prop} {g : Nat} {A : Option Addr} {c : Nat} {b : List M} {most : Int} {R : Option Addr} {rc : Nat} {rs : List Rg} (h : LAt w S g A c b most R rc rs) (hm : 1 ≤ most ∧ most ≤ 16384) (hb : (b.length : Int) ≤ 2 * most) :
    Calls Try.prog 25 #[.pointer (some ⟨g, 0, none⟩)] w fun e w' => e = .returned (.tuple #[]) ∧ LAt w' S g A c b most R rc rs ∧ Below w.heap.size w w' := by
  have hmo : Try.prog.follows .mixedOrders = true := by kernel_rfl
  have c0 := h.c0
  have c1 := h.c1
  have H := hide h
  have hm1 := hm.1
  have hm2 := hm.2
  have wr : IntKind.i64.wrap (2 * most) = 2 * most := by rw [IntKind.wrap_i64]; omega
  have d1 : decide ((b.length : Int) ≤ 2 * most) = true := decide_eq_true hb
  clear h hm
  go_enter Try.func25, Try.ntmps25
  go_wp2_with fail
  go_quiet (fail)
  go_wp2_with fail
  refine bodyPost_ret (results_none rfl _ _ _) rfl ?_
  exact ⟨rfl, H.out.below (below_drewN (Below.refl _ _) nq), below_drewN (Below.refl _ _) nq⟩
set_option maxHeartbeats 8000000 in
set_option maxRecDepth 100000 in
theorem spill_yes {w : World} {S : Nat → Prop} {g : Nat} {A : Option Addr} {c : Nat} {b : List M} {most : Int} {R : Option Addr} {rc : Nat} {rs : List Rg} (h : LAt w S g A c b most R rc rs) (hN : ∀ x, w.heap.size ≤ x → S x) (hm : 1 ≤ most ∧ most ≤ 16384) (hb : 2 * most < (b.length : Int)) (hl : b.length ≤ 16385) (hr : rs.length ≤ 16384) {hf : Nat} (hh : b.length / 2 = hf) :
    Calls Try.prog 25 #[.pointer (some ⟨g, 0, none⟩)] w fun e w' => e = .returned (.tuple #[]) ∧ (∃ R' rc' x y, LAt w' S g A c (b.take hf) most R' rc' (rs ++ [⟨x, y, b.drop hf⟩])) ∧ Only w w' S := by
  have hmo : Try.prog.follows .mixedOrders = true := by kernel_rfl
  have c0 := h.c0
  have c1 := h.c1
  have c2 := h.c2
  have H := hide h
  have HN := hide hN
  have hm1 := hm.1
  have hm2 := hm.2
  have wr : IntKind.i64.wrap (2 * most) = 2 * most := by rw [IntKind.wrap_i64]; omega
  have d1 : decide ((b.length : Int) ≤ 2 * most) = false := decide_eq_false (by omega)
  have hcap := own_cap h.bot
  have hl64 : (b.length : Int) ≤ 16385 := by omega
  have hq := half_eq hh
  have hq1 : 0 < hf ∧ hf < b.length := by omega
  have HQ := hide hq1
  have HHF := hide hh
  have HLN := hide hl
  have HRN := hide hr
  have i1 : (hf : Int) ≤ (b.length : Int) := by omega
  have i2 : (b.length : Int) ≤ (c : Int) := by omega
  have i3 : (hf : Int) ≤ (c : Int) := by omega
  have i4 : (b.length : Int) / 2 = (hf : Int) := by omega
  have wr3 : IntKind.i64.wrap (hf : Int) = (hf : Int) := by rw [IntKind.wrap_i64]; omega
  have wr4 : wrap64 (hf : Int) = (hf : Int) := IntWalk.wrap64_in _ (by omega)
  have hne : c ≠ hf := by omega
  clear h hm hh hb hq1 hl hr hN hcap
  go_enter Try.func25, Try.ntmps25
  go_wp2_with fail
  go_quiet (fail)
  have H1 := hide (H.out.below (below_drewN (Below.refl _ _) nq))
  have HO1 := hide ((Only.refl w S).drewN nq)
  have HS1 : Hid ((w.drewN nq).heap.size = w.heap.size) := hide rfl
  clear c0 c1 c2
  generalize w.drewN nq = w1 at H1 HO1 HS1 ⊢
  have c0 := H1.out.c0
  have c1 := H1.out.c1
  go_upto_region 2 with (fail)
  clear c1 d1 wr hq i4 wr3 wr4
  obtain ⟨bd, hbd⟩ : ∃ bd, b.drop hf = bd := ⟨_, rfl⟩
  have HBD := hide hbd
  have HBL : Hid (b.length - hf = bd.length ∧ 0 < bd.length ∧ bd.length ≤ 16385) := hide (by have h1 := HQ.out; have h2 := HLN.out; rw [← hbd, List.length_drop]; omega)
  have hbl := HBL.out.1
  go_cut [] from 22 to 38 (fun wx => ∃ R' rc' x y, Hid (LAt wx S g A c b most R' rc' (rs ++ [⟨x, y, bd⟩])) ∧ Hid (Only w wx S))
  case first =>
    obtain ⟨-, hc2, a, rfl⟩ := own_some H1.out.bot (by have := HQ.out; omega)
    have HD : Hid (Kd.C kM w1.drew (some ⟨a, hf * 7, none⟩) bd.length bd) := hide (by
      have q := C_drop (k := 7) (c := c) (own_C H1.out.drew.bot) rfl (m := hf) (by omega) hc2
      rw [if_neg hne, hbd, hbl] at q
      rw [show (some (⟨a, 0, none⟩ : Addr)).map (·.add (hf * 7)) = some ⟨a, hf * 7, none⟩ from congrArg some (add0 a _)] at q
      exact q)
    have c2 := H1.out.c2
    clear hbd hc2
    have c0d : w1.drew.cell? ⟨g, 0, none⟩ = some (.slice (some ⟨a, 0, none⟩) b.length c) := H1.out.c0
    have c2d : w1.drew.cell? ⟨g, 2, none⟩ = some (.slice R rs.length rc) := H1.out.c2
    go_region_law ((first
      | (refine step_append2 flatM rfl k25_open rfl (.const (.slice none 0 0)) (.tmp 33) 62 26 rfl zM 56 Try.underlying62 Try.underlying26 infoM rfl _ (by rfl) (Own.nil c25 7 tM w1.drew w1.heap.size) _ _ _ bd (by rfl) HD.out (by omega) (by have := HBL.out; simp; omega) (Nat.le_refl _) ?_
         intro A1 m1 c1 w3 hm1 ho1 hg1 hb1
         have hm1' : m1 = bd.length := by simpa using hm1
         subst hm1'
         rw [List.nil_append] at ho1
         obtain ⟨-, hc1, x, rfl⟩ := own_some ho1 HBL.out.2.1
         have HX : Hid (w1.heap.size ≤ x) := hide (ho1.blk x rfl).1
         have hb3 : Below w1.drew.heap.size w1.drew w3 := ⟨hg1.os, hg1.tape, hg1.output, hg1.size, fun i hi => hg1.block i hi (fun e => by cases e)⟩
         have HL3 := hide (H1.out.drew.below hb3)
         have HO3 := hide (ho1.lower (Nat.zero_le w1.heap.size))
         have HB3 := hide hb3
         have e0 : w3.cell? ⟨g, 0, none⟩ = some (.slice (some ⟨a, 0, none⟩) b.length c) := HL3.out.c0
         have e2a : (w3.alloc (.cells #[.slice (some ⟨x, 0, none⟩) bd.length c1] tG)).cell? ⟨g, 2, none⟩ = some (.slice R rs.length rc) := (HL3.out.alloc _).c2
         have e2 : w3.cell? ⟨g, 2, none⟩ = some (.slice R rs.length rc) := HL3.out.c2
         clear hm1 ho1 hg1 hb1 hc1 hb3)
      | (refine step_append flatR rfl kR_open rfl (.tmp 26) (.tmp 35) 45 rfl (.slice none 0 0) 24 Try.underlying45 infoR2 rfl _ (by rfl) (HL3.out.alloc _).row _ _ _ [⟨x, c1, bd⟩] (by rfl) (C_one (Blk.new w3 tG _) flatR rfl kR_mk) (by omega) (by have := HRN.out; simp; omega) (Nat.zero_le _) ?_
         intro R2 m2 rc2 w5 hm2 ho2 hg2 hb2
         have hm2' : m2 = (rs ++ [(⟨x, c1, bd⟩ : Rg)]).length := by rw [List.length_append]; exact hm2
         have HM2 := hide hm2'
         have HG5 : Hid ((w3.alloc (.cells #[.slice (some ⟨x, 0, none⟩) bd.length c1] tG)).grownBy w5 (Value.slice R rs.length rc).ownBlock) := hide hg2
         have HB5 : Hid ((Value.slice R2 m2 rc2).ownBlock = (Value.slice R rs.length rc).ownBlock ∨ (Value.slice R2 m2 rc2).ownBlock = some (w3.alloc (.cells #[.slice (some ⟨x, 0, none⟩) bd.length c1] tG)).heap.size) := hide hb2
         have HO5 := hide ho2
         have HK5 := hide ((HL3.out.alloc (.cells #[.slice (some ⟨x, 0, none⟩) bd.length c1] tG)).blk.grown hg2 (fun e => HL3.out.rg e.symm))
         have j0 : w5.cell? ⟨g, 0, none⟩ = some (.slice (some ⟨a, 0, none⟩) b.length c) := HK5.out.cell 0
         have j2 : w5.cell? ⟨g, 2, none⟩ = some (.slice R rs.length rc) := HK5.out.cell 2
         have f2 : w5.frozen? ⟨g, 2, none⟩ = false := HK5.out.frozen 2
         clear hm2 hm2' ho2 hg2 hb2)))
    all_goals (
      clear c0 c2 c0d c2d e0 e2 e2a j0 j2 f2
      have hO6 := (Only.refl w5 (fun y => y = g)).setCell (p := ⟨g, 2, none⟩) (.inl rfl) (.slice R2 m2 rc2)
      have hb4 : Below w1.drew.heap.size w1.drew (w3.alloc (.cells #[.slice (some ⟨x, 0, none⟩) bd.length c1] tG)) := HB3.out.alloc HB3.out.size _
      have hT : Only w1.drew w5 (fun y => (Value.slice R rs.length rc).ownBlock = some y) := (only_of_below hb4 _).step (only_of_grown HG5.out (S := fun y => (Value.slice R rs.length rc).ownBlock = some y) (fun i e => .inl e)) (fun y e _ => e)
      have hrl : ∀ y, (Value.slice R rs.length rc).ownBlock = some y → y < w1.heap.size := fun y hy => (H1.out.row.blk y hy).2
      have hxb : (Value.slice R rs.length rc).ownBlock ≠ some x := fun e => by
        have := hrl x e
        have := HX.out
        omega
      have hgx : x ≠ g := by
        have := H1.out.blk.lt
        have := HX.out
        omega
      have hON : Only w1 (w5.setCell ⟨g, 2, none⟩ (.slice R2 m2 rc2)) (fun y => y = g ∨ (Value.slice R rs.length rc).ownBlock = some y) := (hT.undrew.mono (fun y e => .inr e)).step hO6 (fun y e _ => .inl e)
      have hrd : OwnM (w5.setCell ⟨g, 2, none⟩ (.slice R2 m2 rc2)) 0 (.slice (some ⟨x, 0, none⟩) bd.length c1) bd := (((HO3.out.alloc (.cells #[.slice (some ⟨x, 0, none⟩) bd.length c1] tG)).only (only_of_grown HG5.out (S := fun y => (Value.slice R rs.length rc).ownBlock = some y) (fun i e => .inl e)) (fun y hy e => by
        simp only [Value.ownBlock, Option.some.injEq] at hy
        subst hy
        exact hxb e)).only hO6 (fun y hy e => by
        simp only [Value.ownBlock, Option.some.injEq] at hy
        exact hgx (hy.trans e)))
      have hnew : ∀ y, (Value.slice R2 m2 rc2).ownBlock = some y → (Value.slice R rs.length rc).ownBlock = some y ∨ w1.heap.size ≤ y := fun y hy => by
        rcases HB5.out with q | q
        · exact .inl (q.symm.trans hy)
        · have q2 := q.symm.trans hy
          injection q2 with q2
          refine .inr ?_
          rw [← q2]
          exact hb4.size
      have hfin : LAt (w5.setCell ⟨g, 2, none⟩ (.slice R2 m2 rc2)) S g (some ⟨a, 0, none⟩) c b most R2 rc2 (rs ++ [⟨x, c1, bd⟩]) := by
        refine H1.out.addr (fun y hy => HN.out y (by have := HS1.out; omega)) hON (fun y e _ => e) (by rw [← HM2.out]; exact Blk.set_ HK5.out 2 _) ?_ hrd HX.out (by rw [← HM2.out]; exact hnew)
        rw [← HM2.out]
        exact HO5.out.only hO6 (fun y hy e => by
          rcases hnew y hy with q | q
          · exact H1.out.rg (e ▸ q)
          · have := H1.out.blk.lt
            omega)
      have hfo : Only w (w5.setCell ⟨g, 2, none⟩ (.slice R2 m2 rc2)) S := HO1.out.step hON (fun y e hy => by
        rcases e with e | e
        · exact e ▸ H1.out.sg
        · exact H1.out.sr y e)
      go_wp2_with fail
      go_meet
      exact ⟨R2, rc2, x, c1, hide hfin, hide hfo⟩)
  case rest =>
    obtain ⟨R', rc', x, y, HL, HO⟩ := hcut
    obtain ⟨-, -, a, rfl⟩ := own_some HL.out.bot (by have := HQ.out; omega)
    have c0 := HL.out.c0
    have f0 : wc.frozen? ⟨g, 0, none⟩ = false := HL.out.blk.frozen 0
    go_wp2_with fail
    go_end0
    have hO := (Only.refl wc (fun y => y = g)).setCell (p := ⟨g, 0, none⟩) (.inl rfl) (.slice (some ⟨a, 0, none⟩) hf c)
    refine ⟨rfl, ⟨R', rc', x, y, ?_⟩, HO.out.step hO (fun y e hy => e ▸ HL.out.sg)⟩
    rw [HBD.out]
    exact HL.out.takeb (by have := HQ.out; omega) hO (Blk.set_ HL.out.blk 0 _)
set_option maxHeartbeats 8000000 in
set_option maxRecDepth 100000 in
theorem fill_no {w : World} {S : Nat → Prop} {g : Nat} {A : Option Addr} {c : Nat} {b : List M} {most : Int} {R : Option Addr} {rc : Nat} {rs : List Rg} (h : LAt w S g A c b most R rc rs) (hb : b ≠ [] ∨ rs = []) (hl : b.length ≤ 16385) (hr : rs.length ≤ 16384) :
    Calls Try.prog 29 #[.pointer (some ⟨g, 0, none⟩)] w fun e w' => e = .returned (.tuple #[]) ∧ LAt w' S g A c b most R rc rs ∧ Below w.heap.size w w' := by
  have c0 := h.c0
  have c2 := h.c2
  have H := hide h
  have hl64 : (b.length : Int) ≤ 16385 := by omega
  have hr64 : (rs.length : Int) ≤ 16384 := by omega
  clear h
  by_cases h0 : b.length = 0
  · have hrs : rs.length = 0 := by
      rcases hb with q | q
      · exact absurd (List.eq_nil_of_length_eq_zero h0) q
      · rw [q]; rfl
    have e1 : ((b.length : Int) == 0) = true := by rw [h0]; rfl
    have e2 : decide ((0 : Int) < (rs.length : Int)) = false := decide_eq_false (by omega)
    have e3 : ¬ (rs.length : Int) > 0 := by omega
    have e3n : ¬ 0 < rs.length := by omega
    clear hb
    rw [h0] at c0
    rw [hrs] at c2
    clear h0 hrs
    go_enter Try.func29, Try.ntmps29
    go_wp2_with fail
    refine wp_loop_rounds 1 ?_
    rw [rounds_succ]
    go_wp2_with fail
    go_end0
    exact ⟨rfl, H.out, Below.refl _ _⟩
  · have e1 : ((b.length : Int) == 0) = false := beq_eq_false_iff_ne.2 (by omega)
    have e1n : (b.length == 0) = false := beq_eq_false_iff_ne.2 h0
    clear hb
    go_enter Try.func29, Try.ntmps29
    go_wp2_with fail
    refine wp_loop_rounds 1 ?_
    rw [rounds_succ]
    go_wp2_with fail
    go_end0
    exact ⟨rfl, H.out, Below.refl _ _⟩
set_option maxHeartbeats 8000000 in
set_option maxRecDepth 100000 in
theorem fill_yes {w : World} {S : Nat → Prop} {g : Nat} {A : Option Addr} {c : Nat} {most : Int} {R : Option Addr} {rc : Nat} {pre : List Rg} {r : Rg} (h : LAt w S g A c [] most R rc (pre ++ [r])) (hN : ∀ x, w.heap.size ≤ x → S x) (hne : r.l ≠ []) (hl : r.l.length ≤ 16384) (hr : pre.length ≤ 16383) :
    Calls Try.prog 29 #[.pointer (some ⟨g, 0, none⟩)] w fun e w' => e = .returned (.tuple #[]) ∧ (∃ A' c', LAt w' S g A' c' (isort befM r.l) most R rc pre) ∧ Only w w' S := by
  have c0 := h.c0
  have c2 := h.c2
  have hlen : (pre ++ [r]).length = pre.length + 1 := by simp
  obtain ⟨-, hrc, x, rfl⟩ := own_someR h.row (by omega)
  have hmem : r ∈ pre ++ [r] := by simp
  obtain ⟨q0, -⟩ := at_R0 h.row (i := pre.length) (by omega) (r := r) (by simp)
  have HC := hide (sorted_call (some ⟨r.x, 0, none⟩) r.c r.l (own_cap (h.rung r hmem)) (by omega) w (own_C (h.rung r hmem)))
  obtain ⟨sl, hsl⟩ : ∃ sl, isort befM r.l = sl := ⟨_, rfl⟩
  have H := hide h
  have HN := hide hN
  have HPL := hide (List.take_left (l₁ := pre) (l₂ := [r]))
  obtain ⟨n, hn⟩ : ∃ n, pre.length = n := ⟨_, rfl⟩
  obtain ⟨n1, hn1⟩ : ∃ n1, (pre ++ [r]).length = n1 := ⟨_, rfl⟩
  have HNL := hide hn1
  have HNP := hide hn
  rw [hn1] at c2 hrc
  rw [hn] at q0
  have hnn : n1 = n + 1 := by omega
  have hr64 : (n1 : Int) ≤ 16384 := by omega
  have hr64c : (n1 : Int) ≤ (rc : Int) := by omega
  have e1 : ((n1 : Int) == 0) = false := beq_eq_false_iff_ne.2 (by omega)
  have e2 : decide ((0 : Int) < (n1 : Int)) = true := decide_eq_true (by omega)
  have e3 : (0 : Int) < (n1 : Int) := by omega
  have e3n : 0 < n1 := by omega
  have e4 : (n1 : Int) - 1 = (n : Int) := by omega
  have e5 : wrap64 (n : Int) = (n : Int) := IntWalk.wrap64_in _ (by omega)
  have e6 : (n : Int) < (n1 : Int) := by omega
  have e7 : (n : Int) ≤ (n1 : Int) := by omega
  have e8 : (n : Int) ≤ (rc : Int) := by omega
  have HNN : Hid (n ≤ n1) := hide (by omega)
  have HLS : Hid (0 < (isort befM r.l).length ∧ (isort befM r.l).length ≤ 16384) := hide (by rw [length_isort]; exact ⟨List.length_pos_iff.2 hne, hl⟩)
  rw [hsl] at HC HLS ⊢
  clear h hN hlen hmem hn hn1 hnn hl hne hr hrc hsl
  go_enter Try.func29, Try.ntmps29
  go_wp2_with fail
  refine wp_loop_rounds 2 ?_
  rw [rounds_succ]
  go_upto_region 3 with (go_at_call 13; refine HC.out.mono ?_; rintro e w2 ⟨v, rfl, ho, hb⟩; obtain ⟨A', c', rfl, _, _⟩ := ho.slice; have HO := hide ho; have HB := hide hb; have HL2 := hide (H.out.below hb); have j0 : w2.cell? ⟨g, 0, none⟩ = some (.slice A ([] : List M).length c) := HL2.out.c0; have f0 : w2.frozen? ⟨g, 0, none⟩ = false := HL2.out.blk.frozen 0; clear ho hb)
  have hO3 := (Only.refl w2 (fun y => y = g)).setCell (p := ⟨g, 0, none⟩) (.inl rfl) (.slice A' sl.length c')
  have hgs : g < w.heap.size := H.out.blk.lt
  have hbe : w.heap.size ≤ w2.heap.size := HB.out.size
  have HBL2 : Hid (Blk w2 g tQ #[.slice A ([] : List M).length c, .int .i64 most, .slice (some ⟨x, 0, none⟩) (pre ++ [r]).length rc]) := hide HL2.out.blk
  have HON := hide ((only_of_below HB.out S).step hO3 (fun y e _ => e ▸ H.out.sg))
  have HL3 := hide (H.out.setb HN.out (T := fun y => y = g) (A' := A') (c' := c') (b' := sl) ((only_of_below HB.out _).step hO3 (fun y e _ => e)) (fun y e _ => .inl e) (Blk.set_ HBL2.out 0 _) (by
      have q := HO.out.only hO3 (fun y hy e => by
        have := (HO.out.blk y hy).1
        omega)
      exact q.lower (Nat.zero_le _)) (fun y hy => .inr (HO.out.blk y hy).1))
  clear hO3 hgs hbe HBL2 HL2 j0 f0 HO HB q0 c0 c2
  obtain ⟨w3, hw3⟩ : ∃ w3, w2.setCell ⟨g, 0, none⟩ (.slice A' sl.length c') = w3 := ⟨_, rfl⟩
  rw [hw3] at HL3 HON ⊢
  clear hw3
  have c2 : w3.cell? ⟨g, 2, none⟩ = some (.slice (some ⟨x, 0, none⟩) n1 rc) := by rw [← HNL.out]; exact HL3.out.c2
  have f2 : w3.frozen? ⟨g, 2, none⟩ = false := HL3.out.blk.frozen 2
  have HL4 : Hid (LAt (w3.setCell ⟨g, 2, none⟩ (.slice (some ⟨x, 0, none⟩) n rc)) S g A' c' sl most (some ⟨x, 0, none⟩) rc pre) := hide (by
    have hO := (Only.refl w3 (fun y => y = g)).setCell (p := ⟨g, 2, none⟩) (.inl rfl) (.slice (some ⟨x, 0, none⟩) n rc)
    have q := HL3.out.taker (k := n) (by rw [HNL.out]; exact HNN.out) hO (Blk.set_ HL3.out.blk 2 _)
    rw [← HNP.out, HPL.out] at q
    rw [← HNP.out]
    exact q)
  have HON4 := hide (HON.out.step ((Only.refl w3 (fun y => y = g)).setCell (p := ⟨g, 2, none⟩) (.inl rfl) (.slice (some ⟨x, 0, none⟩) n rc)) (fun y e _ => e ▸ H.out.sg))
  go_upto_region 0 with (fail)
  obtain ⟨w4, hw4⟩ : ∃ w4, w3.setCell ⟨g, 2, none⟩ (.slice (some ⟨x, 0, none⟩) n rc) = w4 := ⟨_, rfl⟩
  rw [hw4] at HL4 HON4 ⊢
  clear hw4 c2 f2 HON HL3
  have c0 := HL4.out.c0
  obtain ⟨k, hk⟩ : ∃ k, sl.length = k := ⟨_, rfl⟩
  have hk1 : ((k : Int) == 0) = false := beq_eq_false_iff_ne.2 (by have := HLS.out; omega)
  have hk2 : (k == 0) = false := beq_eq_false_iff_ne.2 (by have := HLS.out; omega)
  have hk3 : (k : Int) ≤ 16384 := by have := HLS.out; omega
  have hk4 : ¬ k = 0 := by have := HLS.out; omega
  rw [hk] at c0
  clear hk e1 e2 e3 e3n e4 e5 e6 e7 e8
  rw [rounds_succ]
  go_wp2_with fail
  go_end0
  exact ⟨rfl, ⟨A', c', HL4.out⟩, HON4.out⟩
end Go.Proofs.Ytkhdghlgkljdgaa.LQ
