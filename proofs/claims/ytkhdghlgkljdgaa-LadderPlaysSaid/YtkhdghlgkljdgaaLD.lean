/- The ladder's behind and insert. No law is proved here. -/
import Derived.Test.YtkhdghlgkljdgaaLC
import Derived.Deep.DeepCutAuto
namespace Go.Proofs.Ytkhdghlgkljdgaa.LQ
open Go.Proofs Go.Proofs.Ytkhdghlgkljdgaa.CQ Go.Proofs.Ytkhdghlgkljdgaa.Ref02 Go.Shelf Go.RowKit Go.Deep Go.Sort Go.Proofs.Ytkhdghlgkljdgaa.SortPure Go.Proofs.Ytkhdghlgkljdgaa.Types Go.Proofs.Ytkhdghlgkljdgaa.Heap Go.Proofs.Ytkhdghlgkljdgaa.Row Go.Proofs.Ytkhdghlgkljdgaa.Ord Go.Proofs.Ytkhdghlgkljdgaa.Sorted Go.Proofs.YtkhdghlgkljdgaaW.PrintWords Go.Proofs.YtkhdghlgkljdgaaW.PrintLast Go.Proofs.YtkhdghlgkljdgaaW.PrintMore
set_option linter.unusedVariables false
set_option linter.unusedSimpArgs false
section
variable {α : Type} {enc : α → List Value} {k : Nat} {e : TypeId} {w w' : World} {base : Nat} {l : List α}
theorem run_copyM {P : Program} {d : Kd α} (F : Flat enc k) (hd : d.sz = k) (hK : ∀ {w x cs}, d.K w x cs → cs = enc x) (dT sT ty : TypeId) (hu : P.underlying dT = some (.slice e)) (hsz : (P.info? e).map (·.size) = some k)
    {g c : Nat} {L : List α} (h : Own enc k e w base (.slice (some ⟨g, 0, none⟩) L.length c) L) (dp sp : Option Addr) (dLen dCap sLen0 sCap sLen : Nat) (hmin : Nat.min sLen0 dLen = sLen) (l2 : List α) (hC : Kd.C d w sp sLen l2) (off : Nat) (hfit : off + sLen ≤ L.length)
    (hdp : 0 < sLen → dp = some ⟨g, off * k, none⟩) :
    ∃ w', (Builtin.copy_ #[dT, sT] ty #[.slice dp dLen dCap, .slice sp sLen0 sCap]).run P w = .ok (goInt sLen) w' ∧ Own enc k e w' base (.slice (some ⟨g, 0, none⟩) L.length c) (splice L off l2) ∧ Only w w' (fun b => b = g) := by
  have hn : sLen = l2.length := hC.1.symm
  obtain ⟨i, hi, hik⟩ := Option.map_eq_some_iff.1 hsz
  rcases Nat.eq_zero_or_pos sLen with h0 | h0
  · subst h0
    have hl2 : l2 = [] := List.eq_nil_of_length_eq_zero hn.symm
    subst hl2
    refine ⟨w, ?_, by simpa [splice] using h, Only.refl _ _⟩
    have hl : ∀ (x : Addr), (loadCells x 0).run P w = .ok #[] w := fun x => by simpa using run_loadCells_list (P := P) w x [] (by simp)
    cases dp <;> cases sp <;> simp [Builtin.copy_, run_underlying hu, Builtin.lenOf, Builtin.firstCells, sizeOf, typeInfo, hi, hmin, storeCells, hl]
  · obtain ⟨ad, rfl, _⟩ := hC.2.2 h0
    obtain rfl := hdp h0
    have hcells := flat_cells hC F hd hK
    obtain ⟨h1, h2⟩ := h
    rcases h2 with ⟨hv, _⟩ | ⟨g', cap, cur, hv, hb, hg, hcap, hmx, hs, ht⟩
    · cases hv
    · cases hv
      have hlen : (l2.flatMap enc).length = sLen * k := by rw [length_flat F, hn]
      have hle2 : off * k + sLen * k ≤ L.length * k := by rw [← Nat.add_mul]; exact Nat.mul_le_mul_right _ hfit
      have hcur : L.length * k ≤ cur.size := by rw [hs]; exact Nat.mul_le_mul_right _ hcap
      have hld := run_loadCells_list (P := P) w ad (l2.flatMap enc) hcells
      have hst := run_storeCells_at P g (off * k) e (l2.flatMap enc) 0 cur w hg (by rw [hlen]; omega) (one_flat F l2)
      rw [hlen] at hld
      refine ⟨w.setRow g (cur.toList.take (off * k + 0) ++ l2.flatMap enc ++ cur.toList.drop (off * k + 0 + (l2.flatMap enc).length)).toArray, ?_, ?_, ?_⟩
      · simp [Builtin.copy_, run_underlying hu, Builtin.lenOf, Builtin.firstCells, sizeOf, typeInfo, hi, hik, hmin, hld, hst]
      · have hlen2 : (splice L off l2).length = L.length := length_splice L off l2 (by rw [← hn]; exact hfit)
        unfold Own
        rw [hlen2]
        refine ⟨by rw [length_flat F, hlen2], .inr ⟨g, c, _, rfl, hb, setRow_heap w g _ _ e _ hg, hcap, hmx, ?_, ?_⟩⟩
        · simp only [List.size_toArray, List.length_append, List.length_take, List.length_drop, Array.length_toList, Nat.add_zero, hlen]
          rw [← hs]
          omega
        · simp only [List.toList_toArray, Nat.add_zero]
          exact splice_flat F (by rw [← hn]; exact hfit) ht
      · exact ⟨rfl, rfl, rfl, by simp [World.setRow], fun k hk hne => setRow_other w g k _ hne⟩
/-- 'copy(row's part, what reads as l2)', where what is written is as long as the shorter one. -/
theorem wpList_copyM {P : Program} {ops : Array Oper} {rest : List Oper} {o : Oper} {a : Act} {Q : Exit → Act → World → Prop} {d : Kd α} (F : Flat enc k) (hd : d.sz = k) (hK : ∀ {w x cs}, d.K w x cs → cs = enc x) (hgd : o.guard = none) (ds s : Operand) (dT sT : TypeId)
    (ho : o.op = .call { callee := .builtin .copy, args := #[ds, s], argTypes := #[dT, sT] }) (hu : P.underlying dT = some (.slice e)) (hsz : (P.info? e).map (·.size) = some k)
    {g c : Nat} {L : List α} (h : Own enc k e w base (.slice (some ⟨g, 0, none⟩) L.length c) L) (dp sp : Option Addr) (dLen dCap sLen0 sCap sLen : Nat) (hmin : Nat.min sLen0 dLen = sLen) (hds : a.eval ds = .slice dp dLen dCap) (hs : a.eval s = .slice sp sLen0 sCap) (l2 : List α) (hC : Kd.C d w sp sLen l2) (off : Nat) (hfit : off + sLen ≤ L.length)
    (hdp : 0 < sLen → dp = some ⟨g, off * k, none⟩)
    (hk : ∀ w', Own enc k e w' base (.slice (some ⟨g, 0, none⟩) L.length c) (splice L off l2) → Only w w' (fun b => b = g) → wpList P ops Q rest (a.put o.dst (goInt sLen)) w') : wpList P ops Q (o :: rest) a w := by
  refine wpList_plain hgd fun K hK' => ?_
  obtain ⟨w', hrun, r1, r2⟩ := run_copyM (P := P) F hd hK dT sT o.type hu hsz h dp sp dLen dCap sLen0 sCap sLen hmin l2 hC off hfit hdp
  unfold Oper.wp
  simp [execOp, ho, resolve, invoke, builtin, hds, hs, hrun, Result.andThen]
  exact hK' _ _ (hk w' r1 r2)
end
theorem own_some {w : World} {base : Nat} {A : Option Addr} {n c : Nat} {l : List M} (h : OwnM w base (.slice A n c) l) (h0 : 0 < l.length) : n = l.length ∧ l.length ≤ c ∧ ∃ g, A = some ⟨g, 0, none⟩ := by
  obtain ⟨A', c', hv, hc, hA⟩ := h.slice
  cases hv
  exact ⟨rfl, hc, hA h0⟩
theorem ins_list {l : List M} (d m : M) {k : Nat} (hk : k ≤ l.length) : (splice (l ++ [d]) (k + 1) (l.drop k)).set k m = l.take k ++ m :: l.drop k := by
  have hlt : k < (l ++ [d]).length := by rw [List.length_append, List.length_singleton]; omega
  have h0 : (l ++ [d]).take k = l.take k := by rw [List.take_append_of_le_length hk]
  have h1 : (l ++ [d]).take (k + 1) = l.take k ++ [(l ++ [d])[k]] := by rw [List.take_succ_eq_append_getElem hlt, h0]
  have h2 : (l ++ [d]).drop (k + 1 + (l.drop k).length) = [] := by
    apply List.drop_eq_nil_of_le
    rw [List.length_append, List.length_singleton, List.length_drop]
    omega
  have hx : (l.take k).length = k := by rw [List.length_take]; omega
  unfold splice
  rw [h1, h2, List.append_nil, List.append_assoc, List.set_append_right _ _ (by rw [hx]; exact Nat.le_refl _), hx, Nat.sub_self]
  rfl
theorem drop_take {l : List M} (d : M) {k : Nat} (hk : k ≤ l.length) : ((l ++ [d]).drop k).take (l.length - k) = l.drop k := by
  rw [List.drop_append_of_le_length hk, List.take_append_of_le_length (by rw [List.length_drop]; exact Nat.le_refl _), List.take_of_length_le (by rw [List.length_drop]; exact Nat.le_refl _)]
section
variable {w w' : World} {S T : Nat → Prop} {g : Nat} {A A' : Option Addr} {c c' : Nat} {b b' : List M} {most : Int} {R : Option Addr} {rc : Nat} {rs : List Rg}
/-- Another bottom. -/
theorem LAt.setb (h : LAt w S g A c b most R rc rs) (hN : ∀ x, w.heap.size ≤ x → S x) (hO : Only w w' T) (hT : ∀ x, T x → x < w.heap.size → x = g ∨ (Value.slice A b.length c).ownBlock = some x)
    (hblk : Blk w' g tQ #[.slice A' b'.length c', .int .i64 most, .slice R rs.length rc]) (hbot : OwnM w' 0 (.slice A' b'.length c') b') (hnew : ∀ x, (Value.slice A' b'.length c').ownBlock = some x → (Value.slice A b.length c).ownBlock = some x ∨ w.heap.size ≤ x) : LAt w' S g A' c' b' most R rc rs :=
  ⟨hblk, hbot, h.row.move (fun x hx => hO.block x (h.row.blk x hx).2 (fun q => by
    rcases hT x q (h.row.blk x hx).2 with e | e
    · exact h.rg (e ▸ hx)
    · exact h.rb hx e)), fun r hr => (h.rung r hr).move (fun x hx => hO.block x ((h.rung r hr).blk x hx).2 (fun q => by
    simp only [Value.ownBlock, Option.some.injEq] at hx
    subst hx
    rcases hT _ q ((h.rung r hr).blk _ rfl).2 with e | e
    · exact h.xg hr e
    · exact h.nb r hr e)), h.nd, fun r hr e => by
    rcases hnew _ e with q | q
    · exact h.nb r hr q
    · have := ((h.rung r hr).blk r.x rfl).2
      omega, h.sg, fun x hx => by
    rcases hnew x hx with q | q
    · exact h.sb x q
    · exact hN x q, h.sr, h.ss⟩
end
set_option maxHeartbeats 4000000 in
set_option maxRecDepth 100000 in
theorem behind_call {w : World} (A : Option Addr) (c : Nat) (l : List M) (m : M) (v : Bool) (hv : (l = [] → v = true) ∧ ∀ z, l.getLast? = some z → v = !befM m z) (hr : Kd.C kM w A l.length l) (hl : l.length ≤ 16384) :
    Calls Try.prog 23 #[.slice A l.length c, .agg (cM m).toArray] w fun e w' => e = .returned (.bool v) ∧ Gr w w' := by
  have HG0 := hide ((Gr.refl w).alloc (.cells (cM m).toArray tM))
  have HM0 := hide (Blk.new w tM (cM m).toArray)
  have hmo : Try.prog.follows .mixedOrders = true := by kernel_rfl
  rcases Nat.eq_zero_or_pos l.length with h0 | h0
  · have hln : l = [] := List.eq_nil_of_length_eq_zero h0
    subst hln
    have hv1 := hv.1 rfl
    subst hv1
    clear hv hr
    unfold cM c25 at HG0 HM0 ⊢
    go_enter Try.func23, Try.ntmps23
    go_wp2_with fail
    go_quiet (fail)
    go_wp2_with fail
    go_ret
    exact ⟨rfl, HG0.out.drewN nq⟩
  · obtain ⟨n, hn⟩ : ∃ n, l.length = n + 1 := ⟨l.length - 1, by omega⟩
    have hlt : n < l.length := by omega
    have HV : Hid (v = !befM m l[n]) := hide (hv.2 _ (by rw [List.getLast?_eq_getElem?, hn, Nat.add_sub_cancel, List.getElem?_eq_getElem hlt]))
    unfold cM c25 at HG0 HM0 ⊢
    obtain ⟨ad, rfl, q0, q1, q2, q3, q4, q5, q6⟩ := at_S25 (C_below hr HG0.out.below) hlt
    obtain ⟨z, hz⟩ : ∃ z, l[n] = z := ⟨_, rfl⟩
    rw [hz] at q0 q1 q2 q3 q4 q5 q6 HV
    clear hz hv hr
    have q0 := cg q0; have q1 := cg q1; have q2 := cg q2; have q3 := cg q3; have q4 := cg q4; have q5 := cg q5; have q6 := cg q6
    have p0 := cg ((HM0.out.cell 0 : _ = some (Value.int .i64 m.f0.f0)))
    have p1 := cg ((HM0.out.cell 1 : _ = some (Value.int .i64 m.f0.f1)))
    have p2 := cg ((HM0.out.cell 2 : _ = some (Value.int .i64 m.f0.f2)))
    have p3 := cg ((HM0.out.cell 3 : _ = some (Value.int .i64 m.f1)))
    have p4 := cg ((HM0.out.cell 4 : _ = some (Value.int .i64 m.f2)))
    have p5 := cg ((HM0.out.cell 5 : _ = some (Value.int .i64 m.f3)))
    have p6 := cg ((HM0.out.cell 6 : _ = some (Value.bool m.f4)))
    have hcall := gr_call (before_call m z) (w.alloc (.cells #[.int .i64 m.f0.f0, .int .i64 m.f0.f1, .int .i64 m.f0.f2, .int .i64 m.f1, .int .i64 m.f2, .int .i64 m.f3, .bool m.f4] 25))
    unfold c25 at hcall
    have g0 : ((l.length : Int) == 0) = false := beq_eq_false_iff_ne.2 (by omega)
    have g0n : (l.length == 0) = false := beq_eq_false_iff_ne.2 (by omega)
    have g4 : (l.length : Int) - 1 = (n : Int) := by omega
    have g5 : IntKind.i64.wrap (n : Int) = (n : Int) := by rw [IntKind.wrap_i64]; omega
    have g6 : (n : Int) < (l.length : Int) := by omega
    clear h0 hlt hl hn
    cases hb : befM m z
    · rw [hb] at hcall HV
      have hv := HV.out
      simp only [Bool.not_false] at hv
      subst hv
      go_enter Try.func23, Try.ntmps23
      go_wp2_with fail
      go_quiet_grown ((go_at_call 35; exact hcall _ _))
      go_wp2_with fail
      go_ret
      exact ⟨rfl, HG0.out.trans (Gr.of nq osq)⟩
    · rw [hb] at hcall HV
      have hv := HV.out
      simp only [Bool.not_true] at hv
      subst hv
      go_enter Try.func23, Try.ntmps23
      go_wp2_with fail
      go_quiet_grown ((go_at_call 35; exact hcall _ _))
      go_wp2_with fail
      go_ret
      exact ⟨rfl, HG0.out.trans (Gr.of nq osq)⟩
set_option maxHeartbeats 8000000 in
set_option maxRecDepth 100000 in
theorem insert_call {w : World} {S : Nat → Prop} {g : Nat} {A : Option Addr} {c : Nat} {b : List M} {most : Int} {R : Option Addr} {rc : Nat} {rs : List Rg} (h : LAt w S g A c b most R rc rs) (hN : ∀ x, w.heap.size ≤ x → S x) (hs : Srt befM b) (hb : b.length ≤ 16384) (m : M) :
    Calls Try.prog 24 #[.pointer (some ⟨g, 0, none⟩), .agg (cM m).toArray] w fun e w' => e = .returned (.tuple #[]) ∧ (∃ A' c', LAt w' S g A' c' (ins befM b m) most R rc rs) ∧ Only w w' S := by
  have HG0 := hide ((Gr.refl w).alloc (.cells (cM m).toArray tM))
  have HM0 := hide (Blk.new w tM (cM m).toArray)
  have H0 := hide (h.below (HG0.out.below))
  have hmo : Try.prog.follows .mixedOrders = true := by kernel_rfl
  have infoSz : (Try.prog.info? 25).map (·.size) = some 7 := by kernel_rfl
  have HN := hide hN
  have HSR := hide hs
  have HHB := hide h
  have hb64 : (b.length : Int) ≤ 16384 := by omega
  unfold cM c25 at HG0 HM0 H0 ⊢
  obtain ⟨W, hW⟩ : ∃ W, w.alloc (.cells #[.int .i64 m.f0.f0, .int .i64 m.f0.f1, .int .i64 m.f0.f2, .int .i64 m.f1, .int .i64 m.f2, .int .i64 m.f3, .bool m.f4] 25) = W := ⟨_, rfl⟩
  obtain ⟨gm, hgm⟩ : ∃ gm, w.heap.size = gm := ⟨_, rfl⟩
  rw [hW] at HG0 HM0 H0
  rw [hgm] at HM0
  have HGM := hide hgm
  have HGS : Hid (g < w.heap.size) := hide h.blk.lt
  have HGSG : Hid (S g) := hide h.sg
  have c0 := H0.out.c0
  clear h hN hs
  go_enter Try.func24, Try.ntmps24
  go_upto_block 0 with (fail)
  clear hW hgm c0
  go_cut [4] from 10 to 25 (fun v4 wx => ∃ k : Nat, k ≤ b.length ∧ v4 = .int .i64 k ∧ Hid (ins befM b m = b.take k ++ m :: b.drop k) ∧ Hid (Gr W wx))
  case first =>
    go_wp2_with fail
    go_loopw [4] (fun v4 wr => ∃ k : Nat, k ≤ b.length ∧ v4 = .int .i64 k ∧ Hid (Gr W wr) ∧ Hid (ins befM b m = ins befM (b.take k) m ++ b.drop k)) (fun v4 _ => (intOf v4).toNat)
    case atStart => exact ⟨b.length, Nat.le_refl _, rfl, hide (Gr.refl W), hide (by rw [List.take_length, List.drop_length, List.append_nil])⟩
    case round =>
      obtain ⟨k, hk, rfl, HG, HI⟩ := hrel
      rcases Nat.eq_zero_or_pos k with h0 | h0
      · have HE : Hid (ins befM b m = b.take k ++ m :: b.drop k) := hide (by rw [HI.out, h0]; rfl)
        have g1 : decide ((0 : Int) < (k : Int)) = false := decide_eq_false (by omega)
        have g1n : decide (0 < k) = false := decide_eq_false (by omega)
        clear HI h0
        go_wp2_with fail
        go_quiet (fail)
        go_wp2_with fail
        go_meet
        exact ⟨k, hk, rfl, HE, hide (HG.out.drewN nq)⟩
      · obtain ⟨q, hkq⟩ : ∃ q, k = q + 1 := ⟨k - 1, by omega⟩
        have hq : q < b.length := by omega
        have HKQ := hide hkq
        have H1 := hide (H0.out.below HG.out.below)
        obtain ⟨ad, rfl, q0, q1, q2, q3, q4, q5, q6⟩ := at_S25 (own_C H1.out.bot) hq
        have HM1 := hide (HM0.out.below' HG.out.below)
        have c0 := cg H1.out.c0
        obtain ⟨t, ht⟩ : ∃ t, b[q] = t := ⟨_, rfl⟩
        rw [ht] at q0 q1 q2 q3 q4 q5 q6
        have HTq := hide ht
        clear ht
        have q0 := cg q0; have q1 := cg q1; have q2 := cg q2; have q3 := cg q3; have q4 := cg q4; have q5 := cg q5; have q6 := cg q6
        have p0 := cg ((HM1.out.cell 0 : _ = some (Value.int .i64 m.f0.f0)))
        have p1 := cg ((HM1.out.cell 1 : _ = some (Value.int .i64 m.f0.f1)))
        have p2 := cg ((HM1.out.cell 2 : _ = some (Value.int .i64 m.f0.f2)))
        have p3 := cg ((HM1.out.cell 3 : _ = some (Value.int .i64 m.f1)))
        have p4 := cg ((HM1.out.cell 4 : _ = some (Value.int .i64 m.f2)))
        have p5 := cg ((HM1.out.cell 5 : _ = some (Value.int .i64 m.f3)))
        have p6 := cg ((HM1.out.cell 6 : _ = some (Value.bool m.f4)))
        have g1 : decide ((0 : Int) < (k : Int)) = true := decide_eq_true (by omega)
        have g1n : decide (0 < k) = true := decide_eq_true (by omega)
        have g3 : (0 : Int) < (k : Int) := by omega
        have g4 : (k : Int) - 1 = (q : Int) := by omega
        have g5 : IntKind.i64.wrap (q : Int) = (q : Int) := by rw [IntKind.wrap_i64]; omega
        have g6 : (q : Int) < (b.length : Int) := by omega
        clear hkq
        have hcall := gr_call (before_call m t) wr
        unfold c25 at hcall
        cases hb : befM m t
        · rw [hb] at hcall
          have HE : Hid (ins befM b m = b.take k ++ m :: b.drop k) := hide (by
            rw [HI.out, HKQ.out, List.take_succ_eq_append_getElem hq, HTq.out, ins_no _ _ _ hb]
            simp)
          go_wp2_with fail
          go_quiet_grown ((go_at_call 35; exact hcall _ _))
          clear q0 q1 q2 q3 q4 q5 q6 p0 p1 p2 p3 p4 p5 p6 hcall c0
          have HG2 := hide (HG.out.trans (Gr.of (w := wr) nq osq))
          generalize grow (wr.drewN nq) osq = w2 at HG2 ⊢
          go_wp2_with fail
          go_meet
          exact ⟨k, hk, rfl, HE, HG2⟩
        · rw [hb] at hcall
          have HI2 : Hid (ins befM b m = ins befM (b.take q) m ++ b.drop q) := hide (by
            rw [HI.out, HKQ.out, List.take_succ_eq_append_getElem hq, HTq.out, ins_yes _ _ _ hb, List.drop_eq_getElem_cons hq, HTq.out]
            simp)
          go_wp2_with fail
          go_quiet_grown ((go_at_call 35; exact hcall _ _))
          clear q0 q1 q2 q3 q4 q5 q6 p0 p1 p2 p3 p4 p5 p6 hcall c0
          have HG2 := hide (HG.out.trans (Gr.of (w := wr) nq osq))
          generalize grow (wr.drewN nq) osq = w2 at HG2 ⊢
          go_wp2_with fail
          go_roundw
          case rel => exact ⟨q, by omega, by first | rfl | (congr 1; omega), HG2, HI2⟩
          case measure => simp [intOf]; omega
  case rest =>
    obtain ⟨k, hk, rfl, HI, HG⟩ := hcut
    have HL := hide (H0.out.below HG.out.below)
    have HM := hide (HM0.out.below' HG.out.below)
    have HBW := hide (below_step HG0.out.below HG.out.below)
    clear HG H0 HM0 HG0
    have c0 := HL.out.c0
    have HA1 := hide (HL.out.alloc (.cells #[.int .i64 0, .int .i64 0, .int .i64 0, .int .i64 0, .int .i64 0, .int .i64 0, .bool false] 25))
    have HM1 := hide (HM.out.alloc (.cells #[.int .i64 0, .int .i64 0, .int .i64 0, .int .i64 0, .int .i64 0, .int .i64 0, .bool false] 25))
    have HS1 : Hid ((wc.alloc (.cells #[.int .i64 0, .int .i64 0, .int .i64 0, .int .i64 0, .int .i64 0, .int .i64 0, .bool false] 25)).heap.size = wc.heap.size + 1) := hide (World.size_alloc _ _)
    have HB1 := hide (HBW.out.alloc HBW.out.size (.cells #[.int .i64 0, .int .i64 0, .int .i64 0, .int .i64 0, .int .i64 0, .int .i64 0, .bool false] 25))
    go_upto_region 5 with ((with_reducible refine gate_builtin (b := .append) (xs := #[.tmp 30, .tmp 32]) rfl ?_); at_builtin; refine wpList_plain (by rfl) (fun K hK => ?_); refine wp1_append flatM rfl k25_open (.tmp 30) (.tmp 32) 26 rfl zM 56 Try.underlying26 infoM rfl _ rfl HA1.out.bot _ _ _ [(default : M)] rfl (C_one (Blk.new wc 25 _) flatM rfl k25_mk) (by omega) (by simp only [List.length_singleton]; omega) (Nat.zero_le _) ?_; intro A' m' c' w3 hm' ho hg hblk; have HO := hide ho; have HG3 : Hid ((wc.alloc (.cells #[.int .i64 0, .int .i64 0, .int .i64 0, .int .i64 0, .int .i64 0, .int .i64 0, .bool false] 25)).grownBy w3 (Value.slice A b.length c).ownBlock) := hide hg; have HBK : Hid ((Value.slice A' m' c').ownBlock = (Value.slice A b.length c).ownBlock ∨ (Value.slice A' m' c').ownBlock = some (wc.heap.size + 1)) := hide (by rw [← HS1.out]; exact hblk); have HM3 := hide hm'; have HBL := hide (HA1.out.blk.grown hg (fun e => HA1.out.bg e.symm)); have k0 : w3.cell? ⟨g, 0, none⟩ = some (.slice A b.length c) := HBL.out.cell 0; have f0 : w3.frozen? ⟨g, 0, none⟩ = false := HBL.out.frozen 0; clear ho hg hblk hm'; refine hK _ _ ?_)
    clear c0 k0 f0 HA1
    have hn1 : b.length + 1 = m' := (HM3.out.trans (by simp)).symm
    have HN1 := hide hn1
    obtain ⟨L1, hL1⟩ : ∃ L1, b ++ [(default : M)] = L1 := ⟨_, rfl⟩
    have HLL : Hid (L1.length = m') := hide (by rw [← hL1, List.length_append, List.length_singleton]; exact hn1)
    have HO3a : OwnM w3 0 (.slice A' m' c') L1 := by have := HO.out; rwa [hL1] at this
    obtain ⟨-, hc2, g', rfl⟩ := own_some HO3a (by rw [HLL.out]; omega)
    have HC2 : Hid (m' ≤ c') := hide (by have := HLL.out; omega)
    have HOx := hide HO3a
    have hgg : g' ≠ g := fun e => own_blk_ne HO3a HBL.out (by decide) (by rw [← e]; rfl)
    have HGG := hide hgg
    have HNEW : Hid ((Value.slice A b.length c).ownBlock = some g' ∨ w.heap.size ≤ g') := hide (by
      rcases HBK.out with q | q
      · exact .inl (q.symm.trans rfl)
      · have q2 : some g' = some (wc.heap.size + 1) := q
        injection q2 with q2
        have := HBW.out.size
        exact .inr (by omega))
    have hgA : (Value.slice A b.length c).ownBlock ≠ some gm := fun e => by
      have := (HHB.out.bot.blk _ e).2
      have := HGM.out
      omega
    have HM3 := hide (HM1.out.grown HG3.out (fun e => hgA e.symm))
    have HT : Hid (Only w w3 (fun x => x = g ∨ (Value.slice A b.length c).ownBlock = some x ∨ w.heap.size ≤ x)) := hide ((only_of_below HB1.out _).step (only_of_grown HG3.out (S := fun x => (Value.slice A b.length c).ownBlock = some x) (fun i e => .inl e)) (fun x e _ => .inr (.inl e)))
    have hO4 := (Only.refl w3 (fun x => x = g)).setCell (p := ⟨g, 0, none⟩) (.inl rfl) (.slice (some ⟨g', 0, none⟩) m' c')
    have HT4 := hide (HT.out.step hO4 (fun x e _ => .inl e))
    have HB4 := hide (Blk.set_ HBL.out 0 (.slice (some ⟨g', 0, none⟩) m' c'))
    have HO4 := hide (HOx.out.only hO4 (fun x hx e => by simp only [Value.ownBlock, Option.some.injEq] at hx; exact HGG.out (hx.trans e)))
    have hgmg : gm ≠ g := by have := HGM.out; have := HGS.out; omega
    have HGMG : Hid (gm ≠ g') := hide (fun e => by
      rcases HNEW.out with q | q
      · exact hgA (e ▸ q)
      · have h1 := (HOx.out.blk g' rfl).2
        rcases HBK.out with q2 | q2
        · exact hgA (by rw [← q2, e]; rfl)
        · have q3 : some g' = some (wc.heap.size + 1) := q2
          injection q3 with q3
          have := HM.out.lt
          omega)
    have HM4 := hide (HM3.out.only hO4 hgmg)
    clear hO4 HT HBL HOx HO3a hc2 HG3 HBK HM1 HB1 HS1 HL HM HBW HO hgA hgg hgmg HM3
    obtain ⟨w4, hw4⟩ : ∃ w4, w3.setCell ⟨g, 0, none⟩ (.slice (some ⟨g', 0, none⟩) m' c') = w4 := ⟨_, rfl⟩
    rw [hw4] at HT4 HB4 HO4 HM4 ⊢
    clear hw4
    obtain ⟨k1, hk1⟩ : ∃ k1, k + 1 = k1 := ⟨_, rfl⟩
    have HK1 := hide hk1
    have hkm : k1 ≤ m' := by omega
    have hmc := HC2.out
    have wr2 : wrap64 ((k : Int) + 1) = (k1 : Int) := by rw [IntWalk.wrap64_in _ (by omega)]; omega
    have wr2b : IntKind.i64.wrap ((k : Int) + 1) = (k1 : Int) := by rw [IntKind.wrap_i64]; omega
    have wr2d : IntKind.i64.wrap (k1 : Int) = (k1 : Int) := by rw [IntKind.wrap_i64]; omega
    have wr2c : (k : Int) + 1 = (k1 : Int) := by omega
    have i1 : (k1 : Int) ≤ (m' : Int) := by omega
    have i2 : (k1 : Int) ≤ (c' : Int) := by omega
    have i3 : (k : Int) ≤ (m' : Int) := by omega
    have i4 : (m' : Int) ≤ (c' : Int) := by omega
    have i5 : (m' : Int) ≤ 16385 := by omega
    have hneq : c' ≠ k := by omega
    have k0 : w4.cell? ⟨g, 0, none⟩ = some (.slice (some ⟨g', 0, none⟩) m' c') := HB4.out.cell 0
    clear hk1 hn1
    have HT5 := hide (HT4.out.drew)
    have HO5 : Hid (OwnM w4.drew 0 (.slice (some ⟨g', 0, none⟩) L1.length c') L1) := hide (by rw [HLL.out]; exact HO4.out.drew)
    have HB5 := hide (HB4.out.drew)
    have HM5 := hide (HM4.out.drew)
    have HCC : Hid (Kd.C kM w4.drew (some ⟨g', k * 7, none⟩) (b.length - k) (b.drop k)) := hide (by
      have q := C_take (C_drop (k := 7) (c := c') (own_C HO5.out) rfl (m := k) (by rw [HLL.out]; have := HK1.out; omega) (by rw [HLL.out]; exact HC2.out)) (m := b.length - k) (by rw [HLL.out]; have := HN1.out; omega)
      rw [if_neg hneq, ← hL1, drop_take _ hk] at q
      have ha : (⟨g', 0, none⟩ : Addr).add (k * 7) = ⟨g', k * 7, none⟩ := by
        unfold Addr.add
        split <;> simp_all
      rw [show (some (⟨g', 0, none⟩ : Addr)).map (·.add (k * 7)) = some ⟨g', k * 7, none⟩ from congrArg some ha] at q
      exact q)
    have HMIN : Hid (Nat.min (m' - k) (m' - k1) = b.length - k) := hide (by
      show min _ _ = _
      have := HN1.out
      have := HK1.out
      omega)
    have HFIT : Hid (k1 + (b.length - k) ≤ L1.length) := hide (by rw [HLL.out]; have := HN1.out; have := HK1.out; omega)
    have HSL : Hid ((splice L1 k1 (b.drop k)).set k m = b.take k ++ m :: b.drop k) := hide (by rw [← hL1, ← HK1.out]; exact ins_list default m hk)
    have HSN : Hid ((splice L1 k1 (b.drop k)).length = m') := hide (by
      rw [length_splice _ _ _ (by rw [List.length_drop]; exact HFIT.out)]
      exact HLL.out)
    clear hL1 HT4 HO4 HB4 HM4
    have hneq2 : k1 ≠ k := by have := HK1.out; omega
    by_cases hcc : c' = k1
    · go_still_tail 13, (by kernel_rfl)
      change wpList _ _ _ _ _ w4.drew
      generalize w4.drew = w5 at HT5 HO5 HB5 HM5 HCC ⊢
      clear k0 wr2 wr2b wr2c wr2d
      refine wpList_copyM flatM rfl k25_open rfl (.tmp 42) (.tmp 48) 26 26 rfl Try.underlying26 infoSz HO5.out _ _ _ _ _ _ _ HMIN.out rfl rfl (b.drop k) HCC.out k1 HFIT.out (fun h0 => by have := HN1.out; have := HK1.out; have := HC2.out; omega) ?_
      intro w6 hown6 hO6
      have HO6 : Hid (OwnM w6 0 (.slice (some ⟨g', 0, none⟩) (splice L1 k1 (b.drop k)).length c') (splice L1 k1 (b.drop k))) := hide (by rw [HSN.out, ← HLL.out]; exact hown6)
      have HB6 := hide (HB5.out.only hO6 (fun e => HGG.out e.symm))
      have HM6 := hide (HM5.out.only hO6 HGMG.out)
      have HT6 := hide (HT5.out.step hO6 (fun x e hx => by
        subst e
        rcases HNEW.out with q | q
        · exact .inr (.inl q)
        · exact .inr (.inr q)))
      clear hown6 hO6 HO5 HB5 HM5 HT5 HCC
      obtain ⟨L6, hL6⟩ : ∃ L6, splice L1 k1 (b.drop k) = L6 := ⟨_, rfl⟩
      rw [hL6] at HO6 HSL HSN
      clear hL6
      go_upto_region 6 with (fail)
      have HO6d := hide (HO6.out.drew)
      have HKN : Hid (k < m') := hide (by have := HN1.out; omega)
      obtain ⟨t6, ht6⟩ : ∃ t6, L6[k]'(by rw [HSN.out]; exact HKN.out) = t6 := ⟨_, rfl⟩
      obtain ⟨q0, q1, q2, q3, q4, q5, q6, f0, f1, f2, f3, f4, f5, f6⟩ := own_at HO6d.out HSN.out HKN.out ht6
      have i6 : (k : Int) < (m' : Int) := by have := HKN.out; omega
      have k0 : w6.cell? ⟨g, 0, none⟩ = some (.slice (some ⟨g', 0, none⟩) m' c') := HB6.out.cell 0
      have p0 : w6.cell? ⟨gm, 0, none⟩ = some (.int .i64 m.f0.f0) := HM6.out.cell 0
      have p1 : w6.cell? ⟨gm, 1, none⟩ = some (.int .i64 m.f0.f1) := HM6.out.cell 1
      have p2 : w6.cell? ⟨gm, 2, none⟩ = some (.int .i64 m.f0.f2) := HM6.out.cell 2
      have p3 : w6.cell? ⟨gm, 3, none⟩ = some (.int .i64 m.f1) := HM6.out.cell 3
      have p4 : w6.cell? ⟨gm, 4, none⟩ = some (.int .i64 m.f2) := HM6.out.cell 4
      have p5 : w6.cell? ⟨gm, 5, none⟩ = some (.int .i64 m.f3) := HM6.out.cell 5
      have p6 : w6.cell? ⟨gm, 6, none⟩ = some (.bool m.f4) := HM6.out.cell 6
      clear ht6
      have HB7 := hide (HB6.out.drew)
      have HT7 := hide (HT6.out.drew)
      clear HB6 HT6 HO6
      go_still_tail 7, (by kernel_rfl)
      change wpList _ _ _ _ _ w6.drew
      clear k0 p0 p1 p2 p3 p4 p5 p6 HM6
      generalize w6.drew = w7 at HB7 HT7 HO6d q0 q1 q2 q3 q4 q5 q6 f0 f1 f2 f3 f4 f5 f6 ⊢
      go_wp2_with fail
      have hch : (((((((w7.setCell ⟨g', k * 7, none⟩ (.int .i64 m.f0.f0)).setCell ⟨g', k * 7 + 1, none⟩ (.int .i64 m.f0.f1)).setCell ⟨g', k * 7 + 2, none⟩ (.int .i64 m.f0.f2)).setCell ⟨g', k * 7 + 3, none⟩ (.int .i64 m.f1)).setCell ⟨g', k * 7 + 4, none⟩ (.int .i64 m.f2)).setCell ⟨g', k * 7 + 5, none⟩ (.int .i64 m.f3)).setCell ⟨g', k * 7 + 6, none⟩ (.bool m.f4)) = w7.setCells g' (k * 7) (c25 m) := rfl
      rw [hch]
      obtain ⟨hp1, hp2⟩ := own_put HO6d.out flatM k m (by rw [HSN.out]; exact HKN.out)
      go_end0
      have hE : (ins befM b m) = L6.set k m := HI.out.trans HSL.out.symm
      have hEl : (ins befM b m).length = m' := by rw [hE, List.length_set]; exact HSN.out
      refine ⟨rfl, ⟨some ⟨g', 0, none⟩, c', HHB.out.setb HN.out (HT7.out.step hp2 (T := fun x => x = g') (fun x e hx => by
        subst e
        rcases HNEW.out with q | q
        · exact .inr (.inl q)
        · exact .inr (.inr q))) (fun x e hx => by
        rcases e with e | e | e
        · exact .inl e
        · exact .inr e
        · omega) (by rw [hEl]; exact HB7.out.only hp2 (fun e => HGG.out e.symm)) (by rw [hE, List.length_set]; exact hp1) (fun x hx => by
        simp only [Value.ownBlock, Option.some.injEq] at hx
        subst hx
        exact HNEW.out)⟩, ?_⟩
      exact (HT7.out.step hp2 (T := fun x => x = g') (fun x e hx => by
        subst e
        rcases HNEW.out with q | q
        · exact .inr (.inl q)
        · exact .inr (.inr q))).mono (fun x e => by
        rcases e with e | e | e
        · exact e ▸ HGSG.out
        · exact HHB.out.sb x e
        · exact HN.out x e)
    · go_still_tail 13, (by kernel_rfl)
      change wpList _ _ _ _ _ w4.drew
      generalize w4.drew = w5 at HT5 HO5 HB5 HM5 HCC ⊢
      clear k0 wr2 wr2b wr2c wr2d
      refine wpList_copyM flatM rfl k25_open rfl (.tmp 42) (.tmp 48) 26 26 rfl Try.underlying26 infoSz HO5.out _ _ _ _ _ _ _ HMIN.out rfl rfl (b.drop k) HCC.out k1 HFIT.out (fun _ => rfl) ?_
      intro w6 hown6 hO6
      have HO6 : Hid (OwnM w6 0 (.slice (some ⟨g', 0, none⟩) (splice L1 k1 (b.drop k)).length c') (splice L1 k1 (b.drop k))) := hide (by rw [HSN.out, ← HLL.out]; exact hown6)
      have HB6 := hide (HB5.out.only hO6 (fun e => HGG.out e.symm))
      have HM6 := hide (HM5.out.only hO6 HGMG.out)
      have HT6 := hide (HT5.out.step hO6 (fun x e hx => by
        subst e
        rcases HNEW.out with q | q
        · exact .inr (.inl q)
        · exact .inr (.inr q)))
      clear hown6 hO6 HO5 HB5 HM5 HT5 HCC
      obtain ⟨L6, hL6⟩ : ∃ L6, splice L1 k1 (b.drop k) = L6 := ⟨_, rfl⟩
      rw [hL6] at HO6 HSL HSN
      clear hL6
      go_upto_region 6 with (fail)
      have HO6d := hide (HO6.out.drew)
      have HKN : Hid (k < m') := hide (by have := HN1.out; omega)
      obtain ⟨t6, ht6⟩ : ∃ t6, L6[k]'(by rw [HSN.out]; exact HKN.out) = t6 := ⟨_, rfl⟩
      obtain ⟨q0, q1, q2, q3, q4, q5, q6, f0, f1, f2, f3, f4, f5, f6⟩ := own_at HO6d.out HSN.out HKN.out ht6
      have i6 : (k : Int) < (m' : Int) := by have := HKN.out; omega
      have k0 : w6.cell? ⟨g, 0, none⟩ = some (.slice (some ⟨g', 0, none⟩) m' c') := HB6.out.cell 0
      have p0 : w6.cell? ⟨gm, 0, none⟩ = some (.int .i64 m.f0.f0) := HM6.out.cell 0
      have p1 : w6.cell? ⟨gm, 1, none⟩ = some (.int .i64 m.f0.f1) := HM6.out.cell 1
      have p2 : w6.cell? ⟨gm, 2, none⟩ = some (.int .i64 m.f0.f2) := HM6.out.cell 2
      have p3 : w6.cell? ⟨gm, 3, none⟩ = some (.int .i64 m.f1) := HM6.out.cell 3
      have p4 : w6.cell? ⟨gm, 4, none⟩ = some (.int .i64 m.f2) := HM6.out.cell 4
      have p5 : w6.cell? ⟨gm, 5, none⟩ = some (.int .i64 m.f3) := HM6.out.cell 5
      have p6 : w6.cell? ⟨gm, 6, none⟩ = some (.bool m.f4) := HM6.out.cell 6
      clear ht6
      have HB7 := hide (HB6.out.drew)
      have HT7 := hide (HT6.out.drew)
      clear HB6 HT6 HO6
      go_still_tail 7, (by kernel_rfl)
      change wpList _ _ _ _ _ w6.drew
      clear k0 p0 p1 p2 p3 p4 p5 p6 HM6
      generalize w6.drew = w7 at HB7 HT7 HO6d q0 q1 q2 q3 q4 q5 q6 f0 f1 f2 f3 f4 f5 f6 ⊢
      go_wp2_with fail
      have hch : (((((((w7.setCell ⟨g', k * 7, none⟩ (.int .i64 m.f0.f0)).setCell ⟨g', k * 7 + 1, none⟩ (.int .i64 m.f0.f1)).setCell ⟨g', k * 7 + 2, none⟩ (.int .i64 m.f0.f2)).setCell ⟨g', k * 7 + 3, none⟩ (.int .i64 m.f1)).setCell ⟨g', k * 7 + 4, none⟩ (.int .i64 m.f2)).setCell ⟨g', k * 7 + 5, none⟩ (.int .i64 m.f3)).setCell ⟨g', k * 7 + 6, none⟩ (.bool m.f4)) = w7.setCells g' (k * 7) (c25 m) := rfl
      rw [hch]
      obtain ⟨hp1, hp2⟩ := own_put HO6d.out flatM k m (by rw [HSN.out]; exact HKN.out)
      go_end0
      have hE : (ins befM b m) = L6.set k m := HI.out.trans HSL.out.symm
      have hEl : (ins befM b m).length = m' := by rw [hE, List.length_set]; exact HSN.out
      refine ⟨rfl, ⟨some ⟨g', 0, none⟩, c', HHB.out.setb HN.out (HT7.out.step hp2 (T := fun x => x = g') (fun x e hx => by
        subst e
        rcases HNEW.out with q | q
        · exact .inr (.inl q)
        · exact .inr (.inr q))) (fun x e hx => by
        rcases e with e | e | e
        · exact .inl e
        · exact .inr e
        · omega) (by rw [hEl]; exact HB7.out.only hp2 (fun e => HGG.out e.symm)) (by rw [hE, List.length_set]; exact hp1) (fun x hx => by
        simp only [Value.ownBlock, Option.some.injEq] at hx
        subst hx
        exact HNEW.out)⟩, ?_⟩
      exact (HT7.out.step hp2 (T := fun x => x = g') (fun x e hx => by
        subst e
        rcases HNEW.out with q | q
        · exact .inr (.inl q)
        · exact .inr (.inr q))).mono (fun x e => by
        rcases e with e | e | e
        · exact e ▸ HGSG.out
        · exact HHB.out.sb x e
        · exact HN.out x e)
end Go.Proofs.Ytkhdghlgkljdgaa.LQ
