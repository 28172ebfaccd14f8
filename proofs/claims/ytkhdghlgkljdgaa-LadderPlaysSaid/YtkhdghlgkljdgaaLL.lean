/- The ladder's Cut in a rung, walked; Cut. No law is proved here. -/
import Derived.Test.YtkhdghlgkljdgaaLK
namespace Go.Proofs.Ytkhdghlgkljdgaa.LQ
open Go.Proofs Go.Proofs.Ytkhdghlgkljdgaa.CQ Go.Proofs.Ytkhdghlgkljdgaa.Ref02 Go.Shelf Go.RowKit Go.Deep Go.Sort Go.Proofs.Ytkhdghlgkljdgaa.SortPure Go.Proofs.Ytkhdghlgkljdgaa.Types Go.Proofs.Ytkhdghlgkljdgaa.Heap Go.Proofs.Ytkhdghlgkljdgaa.Row Go.Proofs.Ytkhdghlgkljdgaa.Ord Go.Proofs.Ytkhdghlgkljdgaa.Sorted Go.Proofs.YtkhdghlgkljdgaaW.PrintWords Go.Proofs.YtkhdghlgkljdgaaW.PrintLast Go.Proofs.YtkhdghlgkljdgaaW.PrintMore
set_option linter.unusedVariables false
set_option linter.unusedSimpArgs false
theorem own_CR {w : World} {R : Option Addr} {c : Nat} {l : List Rg} (h : OwnR w (.slice R l.length c) l) : Kd.C kR w R l.length l := by
  obtain ⟨A', c', hv, _, hC, _⟩ := h.reads flatR rfl kR_mk
  cases hv
  exact hC
set_option maxHeartbeats 8000000 in
set_option maxRecDepth 100000 in
theorem cut_r {w : World} {S : Nat → Prop} {g : Nat} {A : Option Addr} {c : Nat} {b : List M} {most : Int} {R : Option Addr} {rc : Nat} {pre post : List Rg} {rx rcp : Nat} {rl : List M} {sl : List M} (h : LAt w S g A c b most R rc (pre ++ (⟨rx, rcp, rl⟩ : Rg) :: post)) (hi : Inv b ((pre ++ (⟨rx, rcp, rl⟩ : Rg) :: post).map Rg.l) sl) (hN : ∀ x, w.heap.size ≤ x → S x) (hm : most ≠ 0) {i : Nat} (hir : i < rl.length) {z : M} (hz : rl[i] = z) :
    Calls Try.prog 12 #[.pointer (some ⟨g, 0, none⟩), .int .i64 z.f0.f1, .int .i64 z.f3] w fun e w' => e = .returned (.tuple #[.agg (cM z).toArray, .int .i64 0]) ∧ Lq w' S g most (sl.filter (oth z.f0.f1 z.f3)) ∧ Only w w' S := by
  obtain ⟨W, hW⟩ : ∃ W, w.alloc (.cells #[.int .i64 0, .int .i64 0, .int .i64 0, .int .i64 0, .int .i64 0, .int .i64 0, .bool false] 25) = W := ⟨_, rfl⟩
  obtain ⟨ro, hro⟩ : ∃ ro, w.heap.size = ro := ⟨_, rfl⟩
  have HRO := hide hro
  have HB0 : Hid (Below w.heap.size w W) := hide (by rw [← hW]; exact (Below.refl _ _).alloc (Nat.le_refl _) _)
  have HSW : Hid (W.heap.size = ro + 1) := hide (by rw [← hW, ← hro]; exact World.size_alloc _ _)
  have HO0 : Hid (Blk W ro 25 #[.int .i64 0, .int .i64 0, .int .i64 0, .int .i64 0, .int .i64 0, .int .i64 0, .bool false]) := hide (by rw [← hW, ← hro]; exact Blk.new _ _ _)
  have hmo : Try.prog.follows .mixedOrders = true := by kernel_rfl
  have HN := hide hN
  have HL0 := hide ((h.to (T := fun x => S x ∧ x ≠ ro) (fun x hx hlt => ⟨hx, by omega⟩)).below HB0.out)
  have hiz : isOf z.f0.f1 z.f3 rl[i] := by rw [hz]; exact ⟨rfl, rfl⟩
  have HNC := hide (none_call hm HL0.out.c1)
  have HF0 := find_r z.f0.f1 z.f3 HL0.out hi (k := pre.length) (i := i) (by simp) (by rw [get_mid]; exact hir) (by simp only [get_mid]; exact hiz)
  obtain ⟨z1, z2, z3, -⟩ := inv_sizes hi
  have hi' : Inv b (pre.map Rg.l ++ rl :: post.map Rg.l) sl := by simpa using hi
  have HI1 : Hid (rl.length = 1 → Hid (Inv b ((pre ++ post).map Rg.l) (sl.filter (oth z.f0.f1 z.f3)))) := hide (fun e => hide (by simpa using hi'.cut1 hir hiz e))
  have HI2 : Hid (rl.length ≠ 1 → ∀ y c', Hid (Inv b ((pre ++ (⟨y, c', rl.eraseIdx i⟩ : Rg) :: post).map Rg.l) (sl.filter (oth z.f0.f1 z.f3)))) := hide (fun e y c' => hide (by simpa using hi'.cut2 hir hiz e))
  have hrl : rl.length ≤ 16384 := (z3 (⟨rx, rcp, rl⟩ : Rg) (by simp)).1
  obtain ⟨n, hn⟩ : ∃ n, pre.length = n := ⟨_, rfl⟩
  obtain ⟨n1, hn1⟩ : ∃ n1, (pre ++ (⟨rx, rcp, rl⟩ : Rg) :: post).length = n1 := ⟨_, rfl⟩
  have hnn : n < n1 := by rw [← hn, ← hn1]; simp
  have HPN := hide hn
  have HNN := hide hn1
  have HPK : Hid (∃ h : pre.length < (pre ++ (⟨rx, rcp, rl⟩ : Rg) :: post).length, (pre ++ (⟨rx, rcp, rl⟩ : Rg) :: post)[pre.length] = (⟨rx, rcp, rl⟩ : Rg)) := hide ⟨by simp, by simp⟩
  rw [hn] at HF0
  have HF := hide HF0
  obtain ⟨-, hrc, x, rfl⟩ := own_someR HL0.out.row (by omega)
  rw [hn1] at hrc
  have hcr : rl.length ≤ rcp := own_cap (HL0.out.rung (⟨rx, rcp, rl⟩ : Rg) (by simp))
  have hn64 : (n1 : Int) ≤ 16384 := by omega
  have k1 : (n : Int) < (n1 : Int) := by omega
  have k2 : ¬ (n : Int) < 0 := by omega
  have k2d : decide ((n : Int) < 0) = false := decide_eq_false k2
  have k3 : (i : Int) < (rl.length : Int) := by omega
  have hr64 : (rl.length : Int) ≤ 16384 := by omega
  have HZ := hide hz
  have HRL := hide hrl
  have HN1 := hide z2
  clear h hi hi' hN hm HF0 z1 z2 z3 hiz hz hrl hn hn1
  unfold cM c25
  go_enter Try.func12, Try.ntmps12
  go_upto_region 10 with (first
    | (go_at_call 20; refine HNC.out.mono ?_; rintro e w1 ⟨rfl, hw1⟩; have hw2 := hw1.symm; subst hw2)
    | (go_at_call 21; refine HF.out.mono ?_; rintro e w1 ⟨rfl, hb1⟩; have HB1 := hide (below_step HB0.out hb1); have HR1 := hide (HO0.out.below' hb1); have HL1 := hide (HL0.out.below hb1); have c2 : w1.cell? ⟨g, 2, none⟩ = some (.slice (some ⟨x, 0, none⟩) n1 rc) := (by rw [← HNN.out]; exact HL1.out.c2); have qr : w1.cell? ⟨x, n, none⟩ = some (.slice (some ⟨rx, 0, none⟩) rl.length rcp) := (by rw [← HPN.out]; exact (at_R0 HL1.out.row HPK.out.1 HPK.out.2).1); obtain ⟨q0, q1, q2, q3, q4, q5, q6, -⟩ := own_at (show OwnM w1 0 (.slice (some ⟨rx, 0, none⟩) rl.length rcp) rl from HL1.out.rung (⟨rx, rcp, rl⟩ : Rg) (by simp)) rfl hir HZ.out; clear hb1))
  have HSX : Hid ((w1.alloc (.cells #[.int .i64 z.f0.f0, .int .i64 z.f0.f1, .int .i64 z.f0.f2, .int .i64 z.f1, .int .i64 z.f2, .int .i64 z.f3, .bool z.f4] 25)).heap.size = w1.heap.size + 1) := hide (World.size_alloc _ _)
  have hrx : ro < w1.heap.size := HR1.out.lt
  have HR2 := hide (HR1.out.alloc (.cells #[.int .i64 z.f0.f0, .int .i64 z.f0.f1, .int .i64 z.f0.f2, .int .i64 z.f1, .int .i64 z.f2, .int .i64 z.f3, .bool z.f4] 25))
  have HX2 := hide (Blk.new w1 25 #[.int .i64 z.f0.f0, .int .i64 z.f0.f1, .int .i64 z.f0.f2, .int .i64 z.f1, .int .i64 z.f2, .int .i64 z.f3, .bool z.f4])
  have HBX := hide ((Below.refl w1.heap.size w1).alloc (Nat.le_refl _) (.cells #[.int .i64 z.f0.f0, .int .i64 z.f0.f1, .int .i64 z.f0.f2, .int .i64 z.f1, .int .i64 z.f2, .int .i64 z.f3, .bool z.f4] 25))
  obtain ⟨gx, hgx⟩ : ∃ gx, w1.heap.size = gx := ⟨_, rfl⟩
  have HRX : Hid (w.heap.size ≤ ro ∧ ro < gx) := hide (by have := HRO.out; omega)
  have HL2 := hide ((HL1.out.to (T := (fun x => S x ∧ x ≠ ro ∧ x ≠ gx)) (fun x hx hlt => ⟨hx.1, hx.2, by omega⟩)).below HBX.out)
  have HON2 := hide ((only_of_below (below_step HB1.out HBX.out) S))
  rw [hgx] at HX2 HSX
  obtain ⟨w2, hw2⟩ : ∃ w2, w1.alloc (.cells #[.int .i64 z.f0.f0, .int .i64 z.f0.f1, .int .i64 z.f0.f2, .int .i64 z.f1, .int .i64 z.f2, .int .i64 z.f3, .bool z.f4] 25) = w2 := ⟨_, rfl⟩
  rw [hw2] at HR2 HX2 HL2 HSX HON2 ⊢
  rw [hgx]
  clear HBX hw2 hgx hW hro HF HNC HR1 hrx HL1 HL0 qr q0 q1 q2 q3 q4 q5 q6 c2 HB1
  have HN2 : Hid (∀ z, w2.heap.size ≤ z → S z ∧ z ≠ ro ∧ z ≠ gx) := hide (fun z hz => ⟨HN.out z (by have := HSX.out; have := HRX.out; omega), by have := HSX.out; have := HRX.out; omega, by have := HSX.out; omega⟩)
  have c2 : w2.cell? ⟨g, 2, none⟩ = some (.slice (some ⟨x, 0, none⟩) n1 rc) := by rw [← HNN.out]; exact HL2.out.c2
  have c2d : w2.drew.cell? ⟨g, 2, none⟩ = some (.slice (some ⟨x, 0, none⟩) n1 rc) := c2
  obtain ⟨i1, hi1⟩ : ∃ i1, i + 1 = i1 := ⟨_, rfl⟩
  have wr2c : (i : Int) + 1 = (i1 : Int) := by omega
  have j1 : (i1 : Int) ≤ (rl.length : Int) := by omega
  have j2 : (rl.length : Int) ≤ (rcp : Int) := by omega
  have j3 : (i1 : Int) ≤ (rcp : Int) := by omega
  have j4 : (i : Int) ≤ (rcp : Int) := by omega
  have j6 : i ≤ i1 := by omega
  have j7 : (i : Int) ≤ (i1 : Int) := by omega
  have j5 : (i : Int) ≤ (rl.length : Int) := by omega
  have hcr2 : rl.length ≤ rcp := hcr
  have HRG : Hid (OwnM w2.drew 0 (.slice (some ⟨rx, 0, none⟩) rl.length rcp) rl) := hide (HL2.out.drew.rung (⟨rx, rcp, rl⟩ : Rg) (by simp))
  have HTK := hide (HRG.out.take flatM (m := i) (by omega))
  have HDR := hide (C_drop (k := 7) (c := rcp) (own_C HRG.out) rfl (m := i1) (by omega) hcr)
  have HER : Hid (rl.take i ++ rl.drop i1 = rl.eraseIdx i) := hide (by rw [← hi1, List.eraseIdx_eq_take_drop_succ])
  have HEL : Hid ((rl.take i).length + (rl.drop i1).length = (rl.eraseIdx i).length ∧ (rl.eraseIdx i).length ≤ 16385) := hide (by
    rw [List.length_eraseIdx, if_pos hir, List.length_take, List.length_drop]
    have := HRL.out
    omega)
  have HI1N := hide hi1
  clear hi1
  have wr2 : wrap64 (i1 : Int) = (i1 : Int) := IntWalk.wrap64_in _ (by omega)
  have wr2d : IntKind.i64.wrap (i1 : Int) = (i1 : Int) := by rw [i64_w]; exact wr2
  go_cut [] from 47 to 60 (fun wx => ∃ y c', Hid (LAt wx (fun x => S x ∧ x ≠ ro ∧ x ≠ gx) g A c b most (some ⟨x, 0, none⟩) rc (pre ++ (⟨y, c', rl.eraseIdx i⟩ : Rg) :: post)) ∧ Hid (Blk wx ro 25 #[.int .i64 0, .int .i64 0, .int .i64 0, .int .i64 0, .int .i64 0, .int .i64 0, .bool false]) ∧ Hid (Blk wx gx 25 #[.int .i64 z.f0.f0, .int .i64 z.f0.f1, .int .i64 z.f0.f2, .int .i64 z.f1, .int .i64 z.f2, .int .i64 z.f3, .bool z.f4]) ∧ Hid (Only w wx S))
  case first =>
    by_cases hcc : rcp = i1
    · have hcc2 := hcc.symm
      subst hcc2
      have HDN : Hid (rl.drop i1 = []) := hide (List.drop_of_length_le hcr2)
      have HER : Hid (rl.take i ++ ([] : List M) = rl.eraseIdx i) := hide (by rw [← HDN.out]; exact HER.out)
      have HEL : Hid ((rl.take i).length + ([] : List M).length = (rl.eraseIdx i).length ∧ (rl.eraseIdx i).length ≤ 16385) := hide (by rw [← HDN.out]; exact HEL.out)
      have HD : Hid (Kd.C kM w2.drew (some ⟨rx, 0, none⟩) 0 ([] : List M)) := hide (nil_C _ _)
      go_region_held3 (fun w' => w'.cell? ⟨g, 2, none⟩ = some (.slice (some ⟨x, 0, none⟩) n1 rc)) (first | exact (by assumption) | go_keep) (first
        | (refine step_append flatM rfl k25_open rfl (.tmp 54) (.tmp 58) 62 rfl zM 56 Try.underlying62 infoM rfl _ (by rfl) HTK.out _ _ _ ([] : List M) (by rfl) HD.out (by omega) (by have := HEL.out; omega) (Nat.zero_le _) ?_
           intro A' m' c' w3 hm' ho hg hblk
           have HO := hide ho
           have HG3 : Hid (w2.drew.grownBy w3 (some rx)) := hide hg
           have HBK : Hid ((Value.slice A' m' c').ownBlock = some rx ∨ (Value.slice A' m' c').ownBlock = some w2.drew.heap.size) := hide hblk
           have HM3 := hide hm'
           have HRW := hide ((HL2.out.row.drew).only (only_of_grown hg (S := fun y => y = rx) (fun i e => .inl (by injection e with e; exact e.symm))) (fun y hy e => HL2.out.rx (r := (⟨rx, i1, rl⟩ : Rg)) (by simp) (by rw [hy, e])))
           have HBL := hide (HL2.out.blk.drew.grown hg (fun e => HL2.out.xg (r := (⟨rx, i1, rl⟩ : Rg)) (by simp) (by injection e with e; exact e.symm)))
           have e2 : w3.cell? ⟨g, 2, none⟩ = some (.slice (some ⟨x, 0, none⟩) n1 rc) := by rw [← HNN.out]; exact HBL.out.cell 2
           obtain ⟨eq, ef⟩ := at_R0 HRW.out HPK.out.1 HPK.out.2
           rw [HPN.out] at eq ef
           have e2s : (w3.setCell ⟨x, n, none⟩ (.slice A' m' c')).cell? ⟨g, 2, none⟩ = some (.slice (some ⟨x, 0, none⟩) n1 rc) := (((Only.refl w3 (fun y => y = x)).setCell (p := ⟨x, n, none⟩) (.inl rfl) (.slice A' m' c')).cell (p := ⟨g, 2, none⟩) HBL.out.lt (fun e => HL2.out.rg (by rw [← e]; rfl))).trans e2
           clear ho hg hblk hm'))
      all_goals (
        clear c2 c2d e2 e2s eq ef HD
        have hnew : ∃ y, (Value.slice A' m' c').ownBlock = some y ∧ (y = rx ∨ y = w2.heap.size) := by
          rcases HBK.out with q | q
          · exact ⟨rx, q, .inl rfl⟩
          · exact ⟨_, q, .inr rfl⟩
        obtain ⟨y, hy1, hy2⟩ := hnew
        obtain ⟨-, -, rfl⟩ := own_block HO.out hy1
        have hmn : m' = (rl.eraseIdx i).length := HM3.out.trans HEL.out.1
        subst hmn
        have HO3 : Hid (OwnM w3 0 (.slice (some ⟨y, 0, none⟩) (rl.eraseIdx i).length c') (rl.eraseIdx i)) := hide (by have := HO.out; rwa [HER.out] at this)
        obtain ⟨hp1, hp2⟩ := own_putR (r' := ⟨y, c', rl.eraseIdx i⟩) HRW.out
        rw [HPN.out] at hp1 hp2
        have hxs : x < w2.heap.size := (HL2.out.row.blk x rfl).2
        have hyx : y ≠ x := fun e => by
          rcases hy2 with q | q
          · exact HL2.out.rx (r := (⟨rx, i1, rl⟩ : Rg)) (by simp) (by rw [← q, e]; rfl)
          · omega
        have hON : Only w2 (w3.setCell ⟨x, n, none⟩ (.slice (some ⟨y, 0, none⟩) (rl.eraseIdx i).length c')) (fun z => z = rx ∨ z = x) := ((only_of_grown HG3.out (S := fun z => z = rx) (fun i e => .inl (by injection e with e; exact e.symm))).undrew.mono (fun z e => .inl e)).step hp2 (fun z e _ => .inr e)
        have hrl : rx < w2.heap.size := ((HL2.out.rung (⟨rx, i1, rl⟩ : Rg) (by simp)).blk rx rfl).2
        have hfin := HL2.out.setr (r' := ⟨y, c', rl.eraseIdx i⟩) (fun z hz => HN2.out z hz) hON (fun z e hz => by
          rcases e with e | e
          · exact .inl e
          · exact .inr (by rw [e]; rfl)) hp1 (HO3.out.only hp2 (fun z hz e => hyx (by simp only [Value.ownBlock, Option.some.injEq] at hz; exact hz.trans e))) (by
          rcases hy2 with q | q
          · exact .inl q
          · exact .inr (Nat.le_of_eq q.symm))
        have hS : ∀ z, (z = rx ∨ z = x) → S z ∧ z ≠ ro ∧ z ≠ gx := fun z e => by
          rcases e with e | e
          · rw [e]; exact HL2.out.ss (⟨rx, i1, rl⟩ : Rg) (by simp)
          · rw [e]; exact HL2.out.sr x rfl
        have hro : Blk (w3.setCell ⟨x, n, none⟩ (.slice (some ⟨y, 0, none⟩) (rl.eraseIdx i).length c')) ro 25 #[.int .i64 0, .int .i64 0, .int .i64 0, .int .i64 0, .int .i64 0, .int .i64 0, .bool false] := HR2.out.only hON (fun e => (hS ro e).2.1 rfl)
        have hgx : Blk (w3.setCell ⟨x, n, none⟩ (.slice (some ⟨y, 0, none⟩) (rl.eraseIdx i).length c')) gx 25 #[.int .i64 z.f0.f0, .int .i64 z.f0.f1, .int .i64 z.f0.f2, .int .i64 z.f1, .int .i64 z.f2, .int .i64 z.f3, .bool z.f4] := HX2.out.only hON (fun e => (hS gx e).2.2 rfl)
        have hOnw := HON2.out.step hON (fun z e _ => (hS z e).1)
        go_wp2_with fail
        go_meet
        exact ⟨y, c', hide hfin, hide hro, hide hgx, hide hOnw⟩)
    · have HD : Hid (Kd.C kM w2.drew (some ⟨rx, i1 * 7, none⟩) (rl.length - i1) (rl.drop i1)) := hide (by
        have h := HDR.out
        rw [if_neg hcc] at h
        rw [show (some (⟨rx, 0, none⟩ : Addr)).map (·.add (i1 * 7)) = some ⟨rx, i1 * 7, none⟩ from congrArg some (add0 rx _)] at h
        exact h)
      go_region_held3 (fun w' => w'.cell? ⟨g, 2, none⟩ = some (.slice (some ⟨x, 0, none⟩) n1 rc)) (first | exact (by assumption) | go_keep) (first
        | (refine step_append flatM rfl k25_open rfl (.tmp 54) (.tmp 58) 62 rfl zM 56 Try.underlying62 infoM rfl _ (by rfl) HTK.out _ _ _ (rl.drop i1) (by rfl) HD.out (by omega) (by have := HEL.out; omega) (Nat.zero_le _) ?_
           intro A' m' c' w3 hm' ho hg hblk
           have HO := hide ho
           have HG3 : Hid (w2.drew.grownBy w3 (some rx)) := hide hg
           have HBK : Hid ((Value.slice A' m' c').ownBlock = some rx ∨ (Value.slice A' m' c').ownBlock = some w2.drew.heap.size) := hide hblk
           have HM3 := hide hm'
           have HRW := hide ((HL2.out.row.drew).only (only_of_grown hg (S := fun y => y = rx) (fun i e => .inl (by injection e with e; exact e.symm))) (fun y hy e => HL2.out.rx (r := (⟨rx, rcp, rl⟩ : Rg)) (by simp) (by rw [hy, e])))
           have HBL := hide (HL2.out.blk.drew.grown hg (fun e => HL2.out.xg (r := (⟨rx, rcp, rl⟩ : Rg)) (by simp) (by injection e with e; exact e.symm)))
           have e2 : w3.cell? ⟨g, 2, none⟩ = some (.slice (some ⟨x, 0, none⟩) n1 rc) := by rw [← HNN.out]; exact HBL.out.cell 2
           obtain ⟨eq, ef⟩ := at_R0 HRW.out HPK.out.1 HPK.out.2
           rw [HPN.out] at eq ef
           have e2s : (w3.setCell ⟨x, n, none⟩ (.slice A' m' c')).cell? ⟨g, 2, none⟩ = some (.slice (some ⟨x, 0, none⟩) n1 rc) := (((Only.refl w3 (fun y => y = x)).setCell (p := ⟨x, n, none⟩) (.inl rfl) (.slice A' m' c')).cell (p := ⟨g, 2, none⟩) HBL.out.lt (fun e => HL2.out.rg (by rw [← e]; rfl))).trans e2
           clear ho hg hblk hm'))
      all_goals (
        clear c2 c2d e2 e2s eq ef HD
        have hnew : ∃ y, (Value.slice A' m' c').ownBlock = some y ∧ (y = rx ∨ y = w2.heap.size) := by
          rcases HBK.out with q | q
          · exact ⟨rx, q, .inl rfl⟩
          · exact ⟨_, q, .inr rfl⟩
        obtain ⟨y, hy1, hy2⟩ := hnew
        obtain ⟨-, -, rfl⟩ := own_block HO.out hy1
        have hmn : m' = (rl.eraseIdx i).length := HM3.out.trans HEL.out.1
        subst hmn
        have HO3 : Hid (OwnM w3 0 (.slice (some ⟨y, 0, none⟩) (rl.eraseIdx i).length c') (rl.eraseIdx i)) := hide (by have := HO.out; rwa [HER.out] at this)
        obtain ⟨hp1, hp2⟩ := own_putR (r' := ⟨y, c', rl.eraseIdx i⟩) HRW.out
        rw [HPN.out] at hp1 hp2
        have hxs : x < w2.heap.size := (HL2.out.row.blk x rfl).2
        have hyx : y ≠ x := fun e => by
          rcases hy2 with q | q
          · exact HL2.out.rx (r := (⟨rx, rcp, rl⟩ : Rg)) (by simp) (by rw [← q, e]; rfl)
          · omega
        have hON : Only w2 (w3.setCell ⟨x, n, none⟩ (.slice (some ⟨y, 0, none⟩) (rl.eraseIdx i).length c')) (fun z => z = rx ∨ z = x) := ((only_of_grown HG3.out (S := fun z => z = rx) (fun i e => .inl (by injection e with e; exact e.symm))).undrew.mono (fun z e => .inl e)).step hp2 (fun z e _ => .inr e)
        have hrl : rx < w2.heap.size := ((HL2.out.rung (⟨rx, rcp, rl⟩ : Rg) (by simp)).blk rx rfl).2
        have hfin := HL2.out.setr (r' := ⟨y, c', rl.eraseIdx i⟩) (fun z hz => HN2.out z hz) hON (fun z e hz => by
          rcases e with e | e
          · exact .inl e
          · exact .inr (by rw [e]; rfl)) hp1 (HO3.out.only hp2 (fun z hz e => hyx (by simp only [Value.ownBlock, Option.some.injEq] at hz; exact hz.trans e))) (by
          rcases hy2 with q | q
          · exact .inl q
          · exact .inr (Nat.le_of_eq q.symm))
        have hS : ∀ z, (z = rx ∨ z = x) → S z ∧ z ≠ ro ∧ z ≠ gx := fun z e => by
          rcases e with e | e
          · rw [e]; exact HL2.out.ss (⟨rx, rcp, rl⟩ : Rg) (by simp)
          · rw [e]; exact HL2.out.sr x rfl
        have hro : Blk (w3.setCell ⟨x, n, none⟩ (.slice (some ⟨y, 0, none⟩) (rl.eraseIdx i).length c')) ro 25 #[.int .i64 0, .int .i64 0, .int .i64 0, .int .i64 0, .int .i64 0, .int .i64 0, .bool false] := HR2.out.only hON (fun e => (hS ro e).2.1 rfl)
        have hgx : Blk (w3.setCell ⟨x, n, none⟩ (.slice (some ⟨y, 0, none⟩) (rl.eraseIdx i).length c')) gx 25 #[.int .i64 z.f0.f0, .int .i64 z.f0.f1, .int .i64 z.f0.f2, .int .i64 z.f1, .int .i64 z.f2, .int .i64 z.f3, .bool z.f4] := HX2.out.only hON (fun e => (hS gx e).2.2 rfl)
        have hOnw := HON2.out.step hON (fun z e _ => (hS z e).1)
        go_wp2_with fail
        go_meet
        exact ⟨y, c', hide hfin, hide hro, hide hgx, hide hOnw⟩)
  case rest =>
    obtain ⟨y, c', HLa, HRa, HXa, HONa⟩ := hcut
    clear c2 c2d HTK HDR HER HEL HRG HL2 HR2 HX2 HON2 wr2 wr2d wr2c j1 j2 j3 j4 j5 j6 j7 hcr2
    go_upto_if 63 with (fail)
    go_cut [] from 61 to 80 (fun wx => ∃ R' rc' rs', Hid (LAt wx (fun x => S x ∧ x ≠ ro ∧ x ≠ gx) g A c b most R' rc' rs') ∧ Hid (Blk wx ro 25 #[.int .i64 0, .int .i64 0, .int .i64 0, .int .i64 0, .int .i64 0, .int .i64 0, .bool false]) ∧ Hid (Blk wx gx 25 #[.int .i64 z.f0.f0, .int .i64 z.f0.f1, .int .i64 z.f0.f2, .int .i64 z.f1, .int .i64 z.f2, .int .i64 z.f3, .bool z.f4]) ∧ Hid (Only w wx S) ∧ Hid (Inv b (rs'.map Rg.l) (sl.filter (oth z.f0.f1 z.f3))))
    case first =>
      by_cases h1 : rl.length = 1
      · have hb1 : ((rl.length : Int) == 1) = true := by rw [h1]; rfl
        have HH1 := hide h1
        clear h1
        have HN3 : Hid (∀ z, wc.heap.size ≤ z → S z ∧ z ≠ ro ∧ z ≠ gx) := hide (fun z hz => ⟨HN.out z (by have := HONa.out.size; omega), by have := HRa.out.lt; omega, by have := HXa.out.lt; omega⟩)
        go_upto_region 12 with (fail)
        clear hb1
        have HNN2 : Hid ((pre ++ (⟨y, c', rl.eraseIdx i⟩ : Rg) :: post).length = n1) := hide (by rw [← HNN.out]; simp)
        have HLP : Hid (n1 = n + 1 + post.length) := hide (by rw [← HNN.out, ← HPN.out]; simp; omega)
        have c2 : wc.cell? ⟨g, 2, none⟩ = some (.slice (some ⟨x, 0, none⟩) n1 rc) := by rw [← HNN2.out]; exact HLa.out.c2
        have c2d : wc.drew.cell? ⟨g, 2, none⟩ = some (.slice (some ⟨x, 0, none⟩) n1 rc) := c2
        have HTK : Hid (OwnR wc.drew (.slice (some ⟨x, 0, none⟩) n rc) pre) := hide (by
          have q := HLa.out.row.drew.take flatR (m := n) (by rw [HNN2.out]; omega)
          rw [← HPN.out, List.take_left] at q
          rw [← HPN.out]
          exact q)
        obtain ⟨n2, hn2⟩ : ∃ n2, n + 1 = n2 := ⟨_, rfl⟩
        have HDR : Hid (Kd.C kR wc.drew (if rc = n2 then some ⟨x, 0, none⟩ else some ⟨x, n2, none⟩) (n1 - n2) post) := hide (by
          have q := C_drop (k := 1) (c := rc) (own_CR HLa.out.row.drew) rfl (m := n2) (by rw [HNN2.out]; omega) (by rw [HNN2.out]; exact hrc)
          rw [HNN2.out, Nat.mul_one] at q
          rw [show (some (⟨x, 0, none⟩ : Addr)).map (·.add n2) = some ⟨x, n2, none⟩ from congrArg some (add0 x _)] at q
          have hd : (pre ++ (⟨y, c', rl.eraseIdx i⟩ : Rg) :: post).drop n2 = post := by
            rw [← hn2, ← HPN.out, show pre ++ (⟨y, c', rl.eraseIdx i⟩ : Rg) :: post = (pre ++ [⟨y, c', rl.eraseIdx i⟩]) ++ post by simp]
            exact List.drop_left' (by simp)
          rw [hd] at q
          exact q)
        have HEL : Hid (pre.length + post.length = (pre ++ post).length ∧ (pre ++ post).length ≤ 16384) := hide (by rw [List.length_append]; have := HLP.out; have := HPN.out; omega)
        have j1 : (n2 : Int) ≤ (n1 : Int) := by have := HLP.out; omega
        have j2 : (n1 : Int) ≤ (rc : Int) := by omega
        have j3 : (n2 : Int) ≤ (rc : Int) := by omega
        have j4 : (n : Int) ≤ (rc : Int) := by omega
        have j5 : (n : Int) ≤ (n1 : Int) := by omega
        have j6 : n ≤ n2 := by omega
        have j7 : (n : Int) ≤ (n2 : Int) := by omega
        have hrc2 : n1 ≤ rc := by omega
        have HR2 : Hid (n + 1 = n2) := hide hn2
        have hn2c : (n : Int) + 1 = (n2 : Int) := by omega
        have wr2 : wrap64 (n2 : Int) = (n2 : Int) := IntWalk.wrap64_in _ (by omega)
        have wr2d : IntKind.i64.wrap (n2 : Int) = (n2 : Int) := by rw [i64_w]; exact wr2
        have HPE : Hid (rc = n2 → post = []) := hide (fun e => List.eq_nil_of_length_eq_zero (by have := HLP.out; have := HR2.out; omega))
        clear hn2
        by_cases hcc : rc = n2
        · have hpe := HPE.out hcc
          have hcc2 := hcc.symm
          subst hcc2
          have HER : Hid (pre ++ ([] : List Rg) = pre ++ post) := hide (by rw [hpe])
          have HEL : Hid (pre.length + ([] : List Rg).length = (pre ++ post).length ∧ (pre ++ post).length ≤ 16384) := hide (by rw [hpe] at HEL ⊢; exact HEL.out)
          have HD : Hid (Kd.C kR wc.drew (some ⟨x, 0, none⟩) 0 ([] : List Rg)) := hide ⟨rfl, by omega, fun h => absurd h (by omega)⟩
          clear hpe
          go_region_law ((first
            | (refine step_append flatR rfl kR_open rfl (.tmp 70) (.tmp 77) 45 rfl (.slice none 0 0) 24 Try.underlying45 infoR2 rfl _ (by rfl) HTK.out _ _ _ ([] : List Rg) (by rfl) HD.out (by omega) (by have := HEL.out; omega) (Nat.zero_le _) ?_
               intro A' m' c' w3 hm' ho hg hblk
               have HO := hide ho
               have HG3 : Hid (wc.drew.grownBy w3 (some x)) := hide hg
               have HBK : Hid ((Value.slice A' m' c').ownBlock = some x ∨ (Value.slice A' m' c').ownBlock = some wc.drew.heap.size) := hide hblk
               have HM3 := hide hm'
               have HBL := hide (HLa.out.blk.drew.grown hg (fun e => HLa.out.rg e.symm))
               have e2 : w3.cell? ⟨g, 2, none⟩ = some (.slice (some ⟨x, 0, none⟩) n1 n2) := by rw [← HNN2.out]; exact HBL.out.cell 2
               have f2 : w3.frozen? ⟨g, 2, none⟩ = false := HBL.out.frozen 2
               clear ho hg hblk hm')))
          all_goals (
            clear c2 c2d e2 f2 HD
            have hmn : m' = (pre ++ post).length := HM3.out.trans HEL.out.1
            have hall : Hid (LAt (w3.setCell ⟨g, 2, none⟩ (.slice A' m' c')) (fun x => S x ∧ x ≠ ro ∧ x ≠ gx) g A c b most A' c' (pre ++ post)) ∧ Hid (Blk (w3.setCell ⟨g, 2, none⟩ (.slice A' m' c')) ro 25 #[.int .i64 0, .int .i64 0, .int .i64 0, .int .i64 0, .int .i64 0, .int .i64 0, .bool false]) ∧ Hid (Blk (w3.setCell ⟨g, 2, none⟩ (.slice A' m' c')) gx 25 #[.int .i64 z.f0.f0, .int .i64 z.f0.f1, .int .i64 z.f0.f2, .int .i64 z.f1, .int .i64 z.f2, .int .i64 z.f3, .bool z.f4]) ∧ Hid (Only w (w3.setCell ⟨g, 2, none⟩ (.slice A' m' c')) S) := by
              subst hmn
              have HO3 : Hid (OwnR w3 (.slice A' (pre ++ post).length c') (pre ++ post)) := hide (by have := HO.out; rwa [HER.out] at this)
              have hO4 := (Only.refl w3 (fun z => z = g)).setCell (p := ⟨g, 2, none⟩) (.inl rfl) (.slice A' (pre ++ post).length c')
              have hON : Only wc (w3.setCell ⟨g, 2, none⟩ (.slice A' (pre ++ post).length c')) (fun z => z = g ∨ z = x) := ((only_of_grown HG3.out (S := fun z => z = x) (fun i e => .inl (by injection e with e; exact e.symm))).undrew.mono (fun z e => .inr e)).step hO4 (fun z e _ => .inl e)
              have hnew : ∀ y, (Value.slice A' (pre ++ post).length c').ownBlock = some y → y = x ∨ wc.heap.size ≤ y := fun y hy => by
                rcases HBK.out with q | q
                · exact .inl (by have := hy.symm.trans q; injection this)
                · have q2 : some y = some wc.drew.heap.size := hy.symm.trans q
                  injection q2 with q2
                  exact .inr (Nat.le_of_eq q2.symm)
              have hgl : g < wc.heap.size := HLa.out.blk.lt
              have hgx0 : x ≠ g := fun e => HLa.out.rg (by rw [← e]; rfl)
              have hfin := HLa.out.dropr (R' := A') (rc' := c') (fun z hz => HN3.out z hz) hON (fun z e hz => by
                rcases e with e | e
                · exact .inl e
                · exact .inr (by rw [e]; rfl)) (Blk.set_ HBL.out 2 _) (HO3.out.only hO4 (fun z hz e => by
                rcases hnew z hz with q | q
                · exact hgx0 (q.symm.trans e)
                · omega)) (fun z hz => by
                rcases hnew z hz with q | q
                · exact .inl (by rw [q]; rfl)
                · exact .inr q)
              have hS : ∀ z, (z = g ∨ z = x) → S z ∧ z ≠ ro ∧ z ≠ gx := fun z e => by
                rcases e with e | e
                · rw [e]; exact HLa.out.sg
                · rw [e]; exact HLa.out.sr x rfl
              have hro : Blk (w3.setCell ⟨g, 2, none⟩ (.slice A' (pre ++ post).length c')) ro 25 #[.int .i64 0, .int .i64 0, .int .i64 0, .int .i64 0, .int .i64 0, .int .i64 0, .bool false] := HRa.out.only hON (fun e => (hS ro e).2.1 rfl)
              have hgx : Blk (w3.setCell ⟨g, 2, none⟩ (.slice A' (pre ++ post).length c')) gx 25 #[.int .i64 z.f0.f0, .int .i64 z.f0.f1, .int .i64 z.f0.f2, .int .i64 z.f1, .int .i64 z.f2, .int .i64 z.f3, .bool z.f4] := HXa.out.only hON (fun e => (hS gx e).2.2 rfl)
              have hOnw := HONa.out.step hON (fun z e _ => (hS z e).1)
              exact ⟨hide hfin, hide hro, hide hgx, hide hOnw⟩
            obtain ⟨a1, a2, a3, a4⟩ := hall
            clear hmn
            go_wp2_with fail
            go_meet
            exact ⟨A', c', pre ++ post, a1, a2, a3, a4, HI1.out HH1.out⟩)
        · have HER : Hid (pre ++ post = pre ++ post) := hide rfl
          have HD : Hid (Kd.C kR wc.drew (some ⟨x, n2, none⟩) (n1 - n2) post) := hide (by
            have h := HDR.out
            rw [if_neg hcc] at h
            exact h)
          go_region_law ((first
            | (refine step_append flatR rfl kR_open rfl (.tmp 70) (.tmp 77) 45 rfl (.slice none 0 0) 24 Try.underlying45 infoR2 rfl _ (by rfl) HTK.out _ _ _ (post : List Rg) (by rfl) HD.out (by omega) (by have := HEL.out; omega) (Nat.zero_le _) ?_
               intro A' m' c' w3 hm' ho hg hblk
               have HO := hide ho
               have HG3 : Hid (wc.drew.grownBy w3 (some x)) := hide hg
               have HBK : Hid ((Value.slice A' m' c').ownBlock = some x ∨ (Value.slice A' m' c').ownBlock = some wc.drew.heap.size) := hide hblk
               have HM3 := hide hm'
               have HBL := hide (HLa.out.blk.drew.grown hg (fun e => HLa.out.rg e.symm))
               have e2 : w3.cell? ⟨g, 2, none⟩ = some (.slice (some ⟨x, 0, none⟩) n1 rc) := by rw [← HNN2.out]; exact HBL.out.cell 2
               have f2 : w3.frozen? ⟨g, 2, none⟩ = false := HBL.out.frozen 2
               clear ho hg hblk hm')))
          all_goals (
            clear c2 c2d e2 f2 HD
            have hmn : m' = (pre ++ post).length := HM3.out.trans HEL.out.1
            have hall : Hid (LAt (w3.setCell ⟨g, 2, none⟩ (.slice A' m' c')) (fun x => S x ∧ x ≠ ro ∧ x ≠ gx) g A c b most A' c' (pre ++ post)) ∧ Hid (Blk (w3.setCell ⟨g, 2, none⟩ (.slice A' m' c')) ro 25 #[.int .i64 0, .int .i64 0, .int .i64 0, .int .i64 0, .int .i64 0, .int .i64 0, .bool false]) ∧ Hid (Blk (w3.setCell ⟨g, 2, none⟩ (.slice A' m' c')) gx 25 #[.int .i64 z.f0.f0, .int .i64 z.f0.f1, .int .i64 z.f0.f2, .int .i64 z.f1, .int .i64 z.f2, .int .i64 z.f3, .bool z.f4]) ∧ Hid (Only w (w3.setCell ⟨g, 2, none⟩ (.slice A' m' c')) S) := by
              subst hmn
              have HO3 : Hid (OwnR w3 (.slice A' (pre ++ post).length c') (pre ++ post)) := hide (by have := HO.out; rwa [HER.out] at this)
              have hO4 := (Only.refl w3 (fun z => z = g)).setCell (p := ⟨g, 2, none⟩) (.inl rfl) (.slice A' (pre ++ post).length c')
              have hON : Only wc (w3.setCell ⟨g, 2, none⟩ (.slice A' (pre ++ post).length c')) (fun z => z = g ∨ z = x) := ((only_of_grown HG3.out (S := fun z => z = x) (fun i e => .inl (by injection e with e; exact e.symm))).undrew.mono (fun z e => .inr e)).step hO4 (fun z e _ => .inl e)
              have hnew : ∀ y, (Value.slice A' (pre ++ post).length c').ownBlock = some y → y = x ∨ wc.heap.size ≤ y := fun y hy => by
                rcases HBK.out with q | q
                · exact .inl (by have := hy.symm.trans q; injection this)
                · have q2 : some y = some wc.drew.heap.size := hy.symm.trans q
                  injection q2 with q2
                  exact .inr (Nat.le_of_eq q2.symm)
              have hgl : g < wc.heap.size := HLa.out.blk.lt
              have hgx0 : x ≠ g := fun e => HLa.out.rg (by rw [← e]; rfl)
              have hfin := HLa.out.dropr (R' := A') (rc' := c') (fun z hz => HN3.out z hz) hON (fun z e hz => by
                rcases e with e | e
                · exact .inl e
                · exact .inr (by rw [e]; rfl)) (Blk.set_ HBL.out 2 _) (HO3.out.only hO4 (fun z hz e => by
                rcases hnew z hz with q | q
                · exact hgx0 (q.symm.trans e)
                · omega)) (fun z hz => by
                rcases hnew z hz with q | q
                · exact .inl (by rw [q]; rfl)
                · exact .inr q)
              have hS : ∀ z, (z = g ∨ z = x) → S z ∧ z ≠ ro ∧ z ≠ gx := fun z e => by
                rcases e with e | e
                · rw [e]; exact HLa.out.sg
                · rw [e]; exact HLa.out.sr x rfl
              have hro : Blk (w3.setCell ⟨g, 2, none⟩ (.slice A' (pre ++ post).length c')) ro 25 #[.int .i64 0, .int .i64 0, .int .i64 0, .int .i64 0, .int .i64 0, .int .i64 0, .bool false] := HRa.out.only hON (fun e => (hS ro e).2.1 rfl)
              have hgx : Blk (w3.setCell ⟨g, 2, none⟩ (.slice A' (pre ++ post).length c')) gx 25 #[.int .i64 z.f0.f0, .int .i64 z.f0.f1, .int .i64 z.f0.f2, .int .i64 z.f1, .int .i64 z.f2, .int .i64 z.f3, .bool z.f4] := HXa.out.only hON (fun e => (hS gx e).2.2 rfl)
              have hOnw := HONa.out.step hON (fun z e _ => (hS z e).1)
              exact ⟨hide hfin, hide hro, hide hgx, hide hOnw⟩
            obtain ⟨a1, a2, a3, a4⟩ := hall
            clear hmn
            go_wp2_with fail
            go_meet
            exact ⟨A', c', pre ++ post, a1, a2, a3, a4, HI1.out HH1.out⟩)
      · have hb1 : ((rl.length : Int) == 1) = false := beq_eq_false_iff_ne.2 (by omega)
        have hb2 : (rl.length == 1) = false := beq_eq_false_iff_ne.2 h1
        have HH1 := hide h1
        clear h1
        go_wp2_with fail
        go_meet
        exact ⟨_, rc, _, HLa, HRa, HXa, HONa, HI2.out HH1.out y c'⟩
    case rest =>
      obtain ⟨R', rc', rs', HLb, HRb, HXb, HONb, HIb⟩ := hcut
      have p0 : wc.cell? ⟨gx, 0, none⟩ = some (.int .i64 z.f0.f0) := HXb.out.cell 0
      have p1 : wc.cell? ⟨gx, 1, none⟩ = some (.int .i64 z.f0.f1) := HXb.out.cell 1
      have p2 : wc.cell? ⟨gx, 2, none⟩ = some (.int .i64 z.f0.f2) := HXb.out.cell 2
      have p3 : wc.cell? ⟨gx, 3, none⟩ = some (.int .i64 z.f1) := HXb.out.cell 3
      have p4 : wc.cell? ⟨gx, 4, none⟩ = some (.int .i64 z.f2) := HXb.out.cell 4
      have p5 : wc.cell? ⟨gx, 5, none⟩ = some (.int .i64 z.f3) := HXb.out.cell 5
      have p6 : wc.cell? ⟨gx, 6, none⟩ = some (.bool z.f4) := HXb.out.cell 6
      have r0 : wc.cell? ⟨ro, 0, none⟩ = some (.int .i64 0) := HRb.out.cell 0
      have v0 : wc.frozen? ⟨ro, 0, none⟩ = false := HRb.out.frozen 0
      have r1 : wc.cell? ⟨ro, 1, none⟩ = some (.int .i64 0) := HRb.out.cell 1
      have v1 : wc.frozen? ⟨ro, 1, none⟩ = false := HRb.out.frozen 1
      have r2 : wc.cell? ⟨ro, 2, none⟩ = some (.int .i64 0) := HRb.out.cell 2
      have v2 : wc.frozen? ⟨ro, 2, none⟩ = false := HRb.out.frozen 2
      have r3 : wc.cell? ⟨ro, 3, none⟩ = some (.int .i64 0) := HRb.out.cell 3
      have v3 : wc.frozen? ⟨ro, 3, none⟩ = false := HRb.out.frozen 3
      have r4 : wc.cell? ⟨ro, 4, none⟩ = some (.int .i64 0) := HRb.out.cell 4
      have v4 : wc.frozen? ⟨ro, 4, none⟩ = false := HRb.out.frozen 4
      have r5 : wc.cell? ⟨ro, 5, none⟩ = some (.int .i64 0) := HRb.out.cell 5
      have v5 : wc.frozen? ⟨ro, 5, none⟩ = false := HRb.out.frozen 5
      have r6 : wc.cell? ⟨ro, 6, none⟩ = some (.bool false) := HRb.out.cell 6
      have v6 : wc.frozen? ⟨ro, 6, none⟩ = false := HRb.out.frozen 6
      go_wp2_with fail
      have hch : (((((((wc.setCell ⟨ro, 0, none⟩ (.int .i64 z.f0.f0)).setCell ⟨ro, 1, none⟩ (.int .i64 z.f0.f1)).setCell ⟨ro, 2, none⟩ (.int .i64 z.f0.f2)).setCell ⟨ro, 3, none⟩ (.int .i64 z.f1)).setCell ⟨ro, 4, none⟩ (.int .i64 z.f2)).setCell ⟨ro, 5, none⟩ (.int .i64 z.f3)).setCell ⟨ro, 6, none⟩ (.bool z.f4)) = wc.setCells ro 0 (c25 z) := rfl
      rw [hch]
      have hO4 := only_set7 wc ro z
      have hR4 := set7 default z HRb.out
      refine bodyPost_ret (v := .tuple #[.agg #[.int .i64 z.f0.f0, .int .i64 z.f0.f1, .int .i64 z.f0.f2, .int .i64 z.f1, .int .i64 z.f2, .int .i64 z.f3, .bool z.f4], .int .i64 0]) ?_ rfl ⟨rfl, ⟨A, c, b, R', rc', rs', (HLb.out.only hO4 (fun x hx e => hx.2.1 e)).to (fun x hx _ => hx.1), HIb.out⟩, HONb.out.step hO4 (fun x e hx => by have := HRX.out; omega)⟩
      refine results_list (rs := [.cell 6 25, .tmp 7]) rfl (by simp) ?_
      exact Vals.cell ro 25 _ (0, 0) _ rfl hR4 Try.underlying25 rfl (by kernel_rfl) (Vals.tmp Vals.nil)
theorem cut_some {w : World} {S : Nat → Prop} {g : Nat} {most : Int} {sl : List M} (h : Lq w S g most sl) (hN : ∀ x, w.heap.size ≤ x → S x) (hm : most ≠ 0) {z : M} (hz : z ∈ sl) :
    Calls Try.prog 12 #[.pointer (some ⟨g, 0, none⟩), .int .i64 z.f0.f1, .int .i64 z.f3] w fun e w' => e = .returned (.tuple #[.agg (cM z).toArray, .int .i64 0]) ∧ Lq w' S g most (sl.filter (oth z.f0.f1 z.f3)) ∧ Only w w' S := by
  obtain ⟨A, c, b, R, rc, rs, h, hi⟩ := h
  rcases hi.mem.1 hz with q | ⟨l, hl, q⟩
  · obtain ⟨i, hib, e⟩ := List.getElem_of_mem q
    exact cut_b h hi hN hm hib e
  · obtain ⟨⟨rx, rcp, rl⟩, hr, rfl⟩ := List.mem_map.1 hl
    obtain ⟨pre, post, rfl⟩ := List.append_of_mem hr
    obtain ⟨i, hir, e⟩ := List.getElem_of_mem q
    exact cut_r h hi hN hm hir e
end Go.Proofs.Ytkhdghlgkljdgaa.LQ
