/- The ladder's remove. No law is proved here. -/
import Derived.Test.YtkhdghlgkljdgaaLD
namespace Go.Proofs.Ytkhdghlgkljdgaa.LQ
open Go.Proofs Go.Proofs.Ytkhdghlgkljdgaa.CQ Go.Proofs.Ytkhdghlgkljdgaa.Ref02 Go.Shelf Go.RowKit Go.Deep Go.Sort Go.Proofs.Ytkhdghlgkljdgaa.SortPure Go.Proofs.Ytkhdghlgkljdgaa.Types Go.Proofs.Ytkhdghlgkljdgaa.Heap Go.Proofs.Ytkhdghlgkljdgaa.Row Go.Proofs.Ytkhdghlgkljdgaa.Ord Go.Proofs.Ytkhdghlgkljdgaa.Sorted Go.Proofs.YtkhdghlgkljdgaaW.PrintWords Go.Proofs.YtkhdghlgkljdgaaW.PrintLast Go.Proofs.YtkhdghlgkljdgaaW.PrintMore
set_option linter.unusedVariables false
set_option linter.unusedSimpArgs false
theorem only_set7 (w : World) (go : Nat) (z : M) : Only w (w.setCells go 0 (c25 z)) (fun b => b = go) := by
  unfold c25
  simp only [World.setCells]
  exact ((((((((Only.refl w (fun b => b = go)).setCell (p := ⟨go, 0, none⟩) (.inl rfl) (.int .i64 z.f0.f0)).setCell (p := ⟨go, 1, none⟩) (.inl rfl) (.int .i64 z.f0.f1)).setCell (p := ⟨go, 2, none⟩) (.inl rfl) (.int .i64 z.f0.f2)).setCell (p := ⟨go, 3, none⟩) (.inl rfl) (.int .i64 z.f1)).setCell (p := ⟨go, 4, none⟩) (.inl rfl) (.int .i64 z.f2)).setCell (p := ⟨go, 5, none⟩) (.inl rfl) (.int .i64 z.f3)).setCell (p := ⟨go, 6, none⟩) (.inl rfl) (.bool z.f4))
theorem set7 {w : World} {go : Nat} (z z' : M) (hO : Blk w go 25 (cM z).toArray) : Blk (w.setCells go 0 (c25 z')) go 25 (cM z').toArray := by
  unfold c25
  simp only [World.setCells, Nat.reduceAdd, Nat.zero_add]
  have hO' : Blk w go 25 #[.int .i64 z.f0.f0, .int .i64 z.f0.f1, .int .i64 z.f0.f2, .int .i64 z.f1, .int .i64 z.f2, .int .i64 z.f3, .bool z.f4] := hO
  have := ((((((hO'.set_ 0 (.int .i64 z'.f0.f0)).set_ 1 (.int .i64 z'.f0.f1)).set_ 2 (.int .i64 z'.f0.f2)).set_ 3 (.int .i64 z'.f1)).set_ 4 (.int .i64 z'.f2)).set_ 5 (.int .i64 z'.f3)).set_ 6 (.bool z'.f4)
  simp only [List.setIfInBounds_toArray, List.set_cons_zero, List.set_cons_succ] at this
  exact (show Blk _ go 25 #[.int .i64 z'.f0.f0, .int .i64 z'.f0.f1, .int .i64 z'.f0.f2, .int .i64 z'.f1, .int .i64 z'.f2, .int .i64 z'.f3, .bool z'.f4] from this)
theorem add0 (x n : Nat) : (⟨x, 0, none⟩ : Addr).add n = ⟨x, n, none⟩ := by
  unfold Addr.add
  split <;> simp_all
set_option maxHeartbeats 8000000 in
set_option maxRecDepth 100000 in
theorem remove_call {w : World} {S : Nat → Prop} {g : Nat} {A : Option Addr} {c : Nat} {b : List M} {most : Int} {R : Option Addr} {rc : Nat} {rs : List Rg} (h : LAt w S g A c b most R rc rs) (hN : ∀ x, w.heap.size ≤ x → S x) (hb : b.length ≤ 16385) {i : Nat} (hi : i < b.length) {z : M} (hz : b[i] = z) :
    Calls Try.prog 26 #[.pointer (some ⟨g, 0, none⟩), .int .i64 i] w fun e w' => e = .returned (.agg (cM z).toArray) ∧ (∃ A' c', LAt w' S g A' c' (b.eraseIdx i) most R rc rs) ∧ Only w w' S := by
  have hmo : Try.prog.follows .mixedOrders = true := by kernel_rfl
  have HN := hide hN
  have HHB := hide h
  obtain ⟨W, hW⟩ : ∃ W, w.alloc (.cells #[.int .i64 0, .int .i64 0, .int .i64 0, .int .i64 0, .int .i64 0, .int .i64 0, .bool false] 25) = W := ⟨_, rfl⟩
  obtain ⟨ro, hro⟩ : ∃ ro, w.heap.size = ro := ⟨_, rfl⟩
  have HRO := hide hro
  have HB0 : Hid (Below w.heap.size w W) := hide (by rw [← hW]; exact (Below.refl _ _).alloc (Nat.le_refl _) _)
  have HO0 : Hid (Blk W ro 25 #[.int .i64 0, .int .i64 0, .int .i64 0, .int .i64 0, .int .i64 0, .int .i64 0, .bool false]) := hide (by rw [← hW, ← hro]; exact Blk.new _ _ _)
  have HL0 := hide (h.below HB0.out)
  have HGS : Hid (g < w.heap.size) := hide h.blk.lt
  have HGSG : Hid (S g) := hide h.sg
  obtain ⟨-, hc2, x, rfl⟩ := own_some h.bot (by omega)
  have HX : Hid (x < w.heap.size) := hide (h.bot.blk x rfl).2
  obtain ⟨q0, q1, q2, q3, q4, q5, q6, _⟩ := own_at HL0.out.bot rfl hi hz
  have c0 := HL0.out.c0
  have b1 : (i : Int) < (b.length : Int) := by omega
  have hb64 : (b.length : Int) ≤ 16385 := by omega
  have HZ := hide hz
  clear h hN hz
  unfold cM c25
  go_enter Try.func26, Try.ntmps26
  go_upto_region 2 with (fail)
  clear q0 q1 q2 q3 q4 q5 q6 c0 hW hro
  have HL1 := hide ((HL0.out.alloc (.cells #[.int .i64 z.f0.f0, .int .i64 z.f0.f1, .int .i64 z.f0.f2, .int .i64 z.f1, .int .i64 z.f2, .int .i64 z.f3, .bool z.f4] 25)).drew)
  have HO1 := hide ((HO0.out.alloc (.cells #[.int .i64 z.f0.f0, .int .i64 z.f0.f1, .int .i64 z.f0.f2, .int .i64 z.f1, .int .i64 z.f2, .int .i64 z.f3, .bool z.f4] 25)).drew)
  have HX1 : Hid (Blk (W.alloc (.cells #[.int .i64 z.f0.f0, .int .i64 z.f0.f1, .int .i64 z.f0.f2, .int .i64 z.f1, .int .i64 z.f2, .int .i64 z.f3, .bool z.f4] 25)).drew W.heap.size 25 #[.int .i64 z.f0.f0, .int .i64 z.f0.f1, .int .i64 z.f0.f2, .int .i64 z.f1, .int .i64 z.f2, .int .i64 z.f3, .bool z.f4]) := hide ((Blk.new W _ _).drew)
  have HB1 : Hid (Below w.heap.size w (W.alloc (.cells #[.int .i64 z.f0.f0, .int .i64 z.f0.f1, .int .i64 z.f0.f2, .int .i64 z.f1, .int .i64 z.f2, .int .i64 z.f3, .bool z.f4] 25)).drew) := hide ((HB0.out.alloc HB0.out.size (.cells #[.int .i64 z.f0.f0, .int .i64 z.f0.f1, .int .i64 z.f0.f2, .int .i64 z.f1, .int .i64 z.f2, .int .i64 z.f3, .bool z.f4] 25)).trans (below_drewN (Below.refl _ _) 1))
  have HW1 : Hid (w.heap.size < W.heap.size ∧ ro < W.heap.size) := hide (by have := HO0.out.lt; have := HRO.out; omega)
  have HS1 : Hid ((W.alloc (.cells #[.int .i64 z.f0.f0, .int .i64 z.f0.f1, .int .i64 z.f0.f2, .int .i64 z.f1, .int .i64 z.f2, .int .i64 z.f3, .bool z.f4] 25)).drew.heap.size = W.heap.size + 1) := hide (World.size_alloc _ _)
  have c0 : (W.alloc (.cells #[.int .i64 z.f0.f0, .int .i64 z.f0.f1, .int .i64 z.f0.f2, .int .i64 z.f1, .int .i64 z.f2, .int .i64 z.f3, .bool z.f4] 25)).cell? ⟨g, 0, none⟩ = some (.slice (some ⟨x, 0, none⟩) b.length c) := (HL0.out.alloc _).c0
  have c0d : (W.alloc (.cells #[.int .i64 z.f0.f0, .int .i64 z.f0.f1, .int .i64 z.f0.f2, .int .i64 z.f1, .int .i64 z.f2, .int .i64 z.f3, .bool z.f4] 25)).drew.cell? ⟨g, 0, none⟩ = some (.slice (some ⟨x, 0, none⟩) b.length c) := (HL0.out.alloc _).c0
  obtain ⟨W1, hW1⟩ : ∃ W1, W.alloc (.cells #[.int .i64 z.f0.f0, .int .i64 z.f0.f1, .int .i64 z.f0.f2, .int .i64 z.f1, .int .i64 z.f2, .int .i64 z.f3, .bool z.f4] 25) = W1 := ⟨_, rfl⟩
  rw [hW1] at HL1 HO1 HX1 HB1 HS1 c0 c0d ⊢
  clear hW1
  obtain ⟨i1, hi1⟩ : ∃ i1, i + 1 = i1 := ⟨_, rfl⟩
  have HI1 := hide hi1
  have wr2 : wrap64 ((i : Int) + 1) = (i1 : Int) := by rw [IntWalk.wrap64_in _ (by omega)]; omega
  have wr2d : IntKind.i64.wrap (i1 : Int) = (i1 : Int) := by rw [IntKind.wrap_i64]; omega
  have wr2c : (i : Int) + 1 = (i1 : Int) := by omega
  have j1 : (i1 : Int) ≤ (b.length : Int) := by omega
  have j2 : (b.length : Int) ≤ (c : Int) := by omega
  have j3 : (i1 : Int) ≤ (c : Int) := by omega
  have j4 : (i : Int) ≤ (c : Int) := by omega
  have j6 : i ≤ i1 := by omega
  have j7 : (i : Int) ≤ (i1 : Int) := by omega
  have j5 : (i : Int) ≤ (b.length : Int) := by omega
  have HTK := hide (HL1.out.bot.take flatM (m := i) (by omega))
  have HDR := hide (C_drop (k := 7) (c := c) (own_C HL1.out.bot) rfl (m := i1) (by omega) hc2)
  have HER : Hid (b.take i ++ b.drop i1 = b.eraseIdx i) := hide (by rw [← hi1, List.eraseIdx_eq_take_drop_succ])
  have HEL : Hid ((b.take i).length + (b.drop i1).length = (b.eraseIdx i).length ∧ (b.eraseIdx i).length ≤ 16385) := hide (by
    rw [List.length_eraseIdx, if_pos hi, List.length_take, List.length_drop]
    omega)
  clear hi1
  go_cut [] from 13 to 29 (fun wx => ∃ A' c', Hid (LAt wx S g A' c' (b.eraseIdx i) most (R) rc rs) ∧ Hid (Blk wx ro 25 #[.int .i64 0, .int .i64 0, .int .i64 0, .int .i64 0, .int .i64 0, .int .i64 0, .bool false]) ∧ Hid (Blk wx W.heap.size 25 #[.int .i64 z.f0.f0, .int .i64 z.f0.f1, .int .i64 z.f0.f2, .int .i64 z.f1, .int .i64 z.f2, .int .i64 z.f3, .bool z.f4]) ∧ Hid (Only w wx (fun y => y = g ∨ y = x)) ∧ Hid (∀ y, (Value.slice A' (b.eraseIdx i).length c').ownBlock = some y → y = x ∨ W.heap.size < y))
  case first =>
   by_cases hcc : c = i1
   · have hcc2 := hcc.symm
     subst hcc2
     have HDN : Hid (b.drop i1 = []) := hide (List.drop_of_length_le (by omega))
     have HER : Hid (b.take i ++ ([] : List M) = b.eraseIdx i) := hide (by rw [← HDN.out]; exact HER.out)
     have HEL : Hid ((b.take i).length + ([] : List M).length = (b.eraseIdx i).length ∧ (b.eraseIdx i).length ≤ 16385) := hide (by rw [← HDN.out]; exact HEL.out)
     have HD : Hid (Kd.C kM W1.drew (some ⟨x, 0, none⟩) 0 ([] : List M)) := hide (nil_C _ _)
     go_region_law ((first
       | (refine step_append flatM rfl k25_open rfl (.tmp 19) (.tmp 26) 26 rfl zM 56 Try.underlying26 infoM rfl _ (by rfl) HTK.out _ _ _ ([] : List M) (by rfl) HD.out (by omega) (by have := HEL.out; omega) (Nat.zero_le _) ?_
          intro A' m' c' w3 hm' ho hg hblk
          have HO := hide ho
          have HG3 : Hid (W1.drew.grownBy w3 (some x)) := hide hg
          have HBK : Hid ((Value.slice A' m' c').ownBlock = some x ∨ (Value.slice A' m' c').ownBlock = some W1.drew.heap.size) := hide hblk
          have HM3 := hide hm'
          have HBL := hide (HL1.out.blk.grown hg (fun e => HL1.out.bg e.symm))
          have k0 : w3.cell? ⟨g, 0, none⟩ = some (.slice (some ⟨x, 0, none⟩) b.length i1) := HBL.out.cell 0
          have f0 : w3.frozen? ⟨g, 0, none⟩ = false := HBL.out.frozen 0
          clear ho hg hblk hm')))
     all_goals (
       clear HD
       generalize W1.drew = w2 at HL1 HO1 HX1 HB1 HS1 HTK HDR HG3 HBK c0d
       clear c0 c0d
       have hmn : m' = (b.eraseIdx i).length := HM3.out.trans HEL.out.1
       subst hmn
       have HO3 : Hid (OwnM w3 0 (.slice A' (b.eraseIdx i).length c') (b.eraseIdx i)) := hide (by have := HO.out; rwa [HER.out] at this)
       have hO4 := (Only.refl w3 (fun x => x = g)).setCell (p := ⟨g, 0, none⟩) (.inl rfl) (.slice A' (b.eraseIdx i).length c')
       have HNEW : Hid (∀ y, (Value.slice A' (b.eraseIdx i).length c').ownBlock = some y → y = x ∨ W.heap.size < y) := hide (fun y hy => by
         rcases HBK.out with q | q
         · exact .inl (by have := hy.symm.trans q; injection this)
         · have q2 : some y = some w2.heap.size := hy.symm.trans q
           injection q2 with q2
           have := HS1.out
           exact .inr (by omega))
       have HON : Hid (Only w w3 (fun y => y = g ∨ y = x)) := hide ((only_of_below HB1.out _).step (only_of_grown HG3.out (S := fun y => y = x) (fun i e => .inl (by injection e with e; exact e.symm))) (fun y e _ => .inr e))
       have HR3 := hide ((HO1.out.grown HG3.out (fun e => by injection e with e; have := HRO.out; have := HX.out; omega)).only hO4 (fun e => by have := HRO.out; have := HGS.out; omega))
       have HX3 := hide ((HX1.out.grown HG3.out (fun e => by injection e with e; have := HW1.out; have := HX.out; omega)).only hO4 (fun e => by have := HW1.out; have := HGS.out; omega))
       have HL4 := hide (HHB.out.setb HN.out (T := fun y => y = g ∨ y = x) (HON.out.step hO4 (fun y e _ => .inl e)) (fun y e hy => by
         rcases e with e | e
         · exact .inl e
         · exact .inr (by rw [e]; rfl)) (Blk.set_ HBL.out 0 _) (HO3.out.only hO4 (fun y hy e => by
         rcases HNEW.out y hy with q | q
         · exact HHB.out.bg (by rw [← e, q]; rfl)
         · have := HGS.out
           have := HW1.out
           omega)) (fun y hy => by
         rcases HNEW.out y hy with q | q
         · exact .inl (by rw [q]; rfl)
         · exact .inr (by have := HW1.out; omega)))
       have HON4 := hide (HON.out.step hO4 (fun y e _ => .inl e))
       clear hO4 HON HO3 HO HG3 HBK HBL k0 f0 HL1 HO1 HX1 HTK HDR HB1
       go_wp2_with fail
       go_meet
       exact ⟨A', c', HL4, HR3, HX3, HON4, HNEW⟩)
   · have HD : Hid (Kd.C kM W1.drew (some ⟨x, i1 * 7, none⟩) (b.length - i1) (b.drop i1)) := hide (by
       have h := HDR.out
       rw [if_neg hcc] at h
       rw [show (some (⟨x, 0, none⟩ : Addr)).map (·.add (i1 * 7)) = some ⟨x, i1 * 7, none⟩ from congrArg some (add0 x _)] at h
       exact h)
     go_region_law ((first
       | (refine step_append flatM rfl k25_open rfl (.tmp 19) (.tmp 26) 26 rfl zM 56 Try.underlying26 infoM rfl _ (by rfl) HTK.out _ _ _ (b.drop i1) (by rfl) HD.out (by omega) (by have := HEL.out; omega) (Nat.zero_le _) ?_
          intro A' m' c' w3 hm' ho hg hblk
          have HO := hide ho
          have HG3 : Hid (W1.drew.grownBy w3 (some x)) := hide hg
          have HBK : Hid ((Value.slice A' m' c').ownBlock = some x ∨ (Value.slice A' m' c').ownBlock = some W1.drew.heap.size) := hide hblk
          have HM3 := hide hm'
          have HBL := hide (HL1.out.blk.grown hg (fun e => HL1.out.bg e.symm))
          have k0 : w3.cell? ⟨g, 0, none⟩ = some (.slice (some ⟨x, 0, none⟩) b.length c) := HBL.out.cell 0
          have f0 : w3.frozen? ⟨g, 0, none⟩ = false := HBL.out.frozen 0
          clear ho hg hblk hm')))
     all_goals (
       clear HD
       generalize W1.drew = w2 at HL1 HO1 HX1 HB1 HS1 HTK HDR HG3 HBK c0d
       clear c0 c0d
       have hmn : m' = (b.eraseIdx i).length := HM3.out.trans HEL.out.1
       subst hmn
       have HO3 : Hid (OwnM w3 0 (.slice A' (b.eraseIdx i).length c') (b.eraseIdx i)) := hide (by have := HO.out; rwa [HER.out] at this)
       have hO4 := (Only.refl w3 (fun x => x = g)).setCell (p := ⟨g, 0, none⟩) (.inl rfl) (.slice A' (b.eraseIdx i).length c')
       have HNEW : Hid (∀ y, (Value.slice A' (b.eraseIdx i).length c').ownBlock = some y → y = x ∨ W.heap.size < y) := hide (fun y hy => by
         rcases HBK.out with q | q
         · exact .inl (by have := hy.symm.trans q; injection this)
         · have q2 : some y = some w2.heap.size := hy.symm.trans q
           injection q2 with q2
           have := HS1.out
           exact .inr (by omega))
       have HON : Hid (Only w w3 (fun y => y = g ∨ y = x)) := hide ((only_of_below HB1.out _).step (only_of_grown HG3.out (S := fun y => y = x) (fun i e => .inl (by injection e with e; exact e.symm))) (fun y e _ => .inr e))
       have HR3 := hide ((HO1.out.grown HG3.out (fun e => by injection e with e; have := HRO.out; have := HX.out; omega)).only hO4 (fun e => by have := HRO.out; have := HGS.out; omega))
       have HX3 := hide ((HX1.out.grown HG3.out (fun e => by injection e with e; have := HW1.out; have := HX.out; omega)).only hO4 (fun e => by have := HW1.out; have := HGS.out; omega))
       have HL4 := hide (HHB.out.setb HN.out (T := fun y => y = g ∨ y = x) (HON.out.step hO4 (fun y e _ => .inl e)) (fun y e hy => by
         rcases e with e | e
         · exact .inl e
         · exact .inr (by rw [e]; rfl)) (Blk.set_ HBL.out 0 _) (HO3.out.only hO4 (fun y hy e => by
         rcases HNEW.out y hy with q | q
         · exact HHB.out.bg (by rw [← e, q]; rfl)
         · have := HGS.out
           have := HW1.out
           omega)) (fun y hy => by
         rcases HNEW.out y hy with q | q
         · exact .inl (by rw [q]; rfl)
         · exact .inr (by have := HW1.out; omega)))
       have HON4 := hide (HON.out.step hO4 (fun y e _ => .inl e))
       clear hO4 HON HO3 HO HG3 HBK HBL k0 f0 HL1 HO1 HX1 HTK HDR HB1
       go_wp2_with fail
       go_meet
       exact ⟨A', c', HL4, HR3, HX3, HON4, HNEW⟩)
  case rest =>
    obtain ⟨A', c', HL4, HR3, HX3, HON4, HNEW⟩ := hcut
    clear c0 c0d HL1 HO1 HX1 HB1 HTK HDR wr2 wr2c wr2d
    have p0 : wc.cell? ⟨W.heap.size, 0, none⟩ = some (.int .i64 z.f0.f0) := HX3.out.cell 0
    have p1 : wc.cell? ⟨W.heap.size, 1, none⟩ = some (.int .i64 z.f0.f1) := HX3.out.cell 1
    have p2 : wc.cell? ⟨W.heap.size, 2, none⟩ = some (.int .i64 z.f0.f2) := HX3.out.cell 2
    have p3 : wc.cell? ⟨W.heap.size, 3, none⟩ = some (.int .i64 z.f1) := HX3.out.cell 3
    have p4 : wc.cell? ⟨W.heap.size, 4, none⟩ = some (.int .i64 z.f2) := HX3.out.cell 4
    have p5 : wc.cell? ⟨W.heap.size, 5, none⟩ = some (.int .i64 z.f3) := HX3.out.cell 5
    have p6 : wc.cell? ⟨W.heap.size, 6, none⟩ = some (.bool z.f4) := HX3.out.cell 6
    have r0 : wc.cell? ⟨ro, 0, none⟩ = some (.int .i64 0) := HR3.out.cell 0
    have v0 : wc.frozen? ⟨ro, 0, none⟩ = false := HR3.out.frozen 0
    have r1 : wc.cell? ⟨ro, 1, none⟩ = some (.int .i64 0) := HR3.out.cell 1
    have v1 : wc.frozen? ⟨ro, 1, none⟩ = false := HR3.out.frozen 1
    have r2 : wc.cell? ⟨ro, 2, none⟩ = some (.int .i64 0) := HR3.out.cell 2
    have v2 : wc.frozen? ⟨ro, 2, none⟩ = false := HR3.out.frozen 2
    have r3 : wc.cell? ⟨ro, 3, none⟩ = some (.int .i64 0) := HR3.out.cell 3
    have v3 : wc.frozen? ⟨ro, 3, none⟩ = false := HR3.out.frozen 3
    have r4 : wc.cell? ⟨ro, 4, none⟩ = some (.int .i64 0) := HR3.out.cell 4
    have v4 : wc.frozen? ⟨ro, 4, none⟩ = false := HR3.out.frozen 4
    have r5 : wc.cell? ⟨ro, 5, none⟩ = some (.int .i64 0) := HR3.out.cell 5
    have v5 : wc.frozen? ⟨ro, 5, none⟩ = false := HR3.out.frozen 5
    have r6 : wc.cell? ⟨ro, 6, none⟩ = some (.bool false) := HR3.out.cell 6
    have v6 : wc.frozen? ⟨ro, 6, none⟩ = false := HR3.out.frozen 6
    go_wp2_with fail
    have hch : (((((((wc.setCell ⟨ro, 0, none⟩ (.int .i64 z.f0.f0)).setCell ⟨ro, 1, none⟩ (.int .i64 z.f0.f1)).setCell ⟨ro, 2, none⟩ (.int .i64 z.f0.f2)).setCell ⟨ro, 3, none⟩ (.int .i64 z.f1)).setCell ⟨ro, 4, none⟩ (.int .i64 z.f2)).setCell ⟨ro, 5, none⟩ (.int .i64 z.f3)).setCell ⟨ro, 6, none⟩ (.bool z.f4)) = wc.setCells ro 0 (c25 z) := rfl
    rw [hch]
    have hO5 := only_set7 wc ro z
    have hR5 := set7 default z HR3.out
    refine bodyPost_ret (v := .agg #[.int .i64 z.f0.f0, .int .i64 z.f0.f1, .int .i64 z.f0.f2, .int .i64 z.f1, .int .i64 z.f2, .int .i64 z.f3, .bool z.f4]) ?_ rfl ⟨rfl, ⟨A', c', ?_⟩, ?_⟩
    · exact results_cell_row rfl _ _ ro 25 _ (0, 0) _ rfl hR5 Try.underlying25 rfl (by kernel_rfl)
    · have hf : ∀ y, y < w.heap.size ∨ W.heap.size < y → y ≠ ro := fun y hy e => by have := HRO.out; have := HW1.out; omega
      refine HHB.out.setb HN.out (T := fun y => y = g ∨ y = x) (HON4.out.step hO5 (fun y e hy => by have := HRO.out; omega)) (fun y e hy => ?_) (HL4.out.blk.only hO5 (fun e => by have := HRO.out; have := HGS.out; omega)) (HL4.out.bot.only hO5 (fun y hy e => ?_)) (fun y hy => ?_)
      · rcases e with e | e
        · exact .inl e
        · exact .inr (by rw [e]; rfl)
      · rcases HNEW.out y hy with q | q
        · have := HX.out; have := HRO.out; omega
        · have := HW1.out; omega
      · rcases HNEW.out y hy with q | q
        · exact .inl (by rw [q]; rfl)
        · exact .inr (by have := HW1.out; omega)
    · exact (HON4.out.step hO5 (T := fun y => y = ro) (fun y e hy => by have := HRO.out; omega)).mono (fun y e => by
        rcases e with e | e
        · exact e ▸ HGSG.out
        · exact HHB.out.sb y (by rw [e]; rfl))
end Go.Proofs.Ytkhdghlgkljdgaa.LQ
