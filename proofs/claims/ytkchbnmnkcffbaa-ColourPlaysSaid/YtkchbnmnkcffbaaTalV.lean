/- The contract of the reference's Visit (isochronref12). No law is proved here. -/
import Derived.Test.YtkchbnmnkcffbaaTalR
namespace Go.Proofs.Ytkchbnmnkcffbaa.Colour
open Go.RowKit Go.Sort Go.Proofs.Ytkchbnmnkcffbaa.GrK Go.Proofs.Ytkchbnmnkcffbaa.Types Go.Proofs.Ytkchbnmnkcffbaa.Heap Go.Proofs.Ytkchbnmnkcffbaa.Row Go.Proofs.YtkchbnmnkcffbaaW.PrintWords Go.Proofs.YtkchbnmnkcffbaaW.PrintLast Go.Proofs.YtkchbnmnkcffbaaW.PrintMore
attribute [local go_sem] max2_int min2_int max_two min_two max_three min_three max_four min_four
set_option linter.unusedVariables false
set_option linter.unusedSimpArgs false
/-- What the reference's visit leaves: the token at q, the tally at p, its counts at g. -/
def RVLeft (w : World) (q p g : Nat) (n a : Int) (cnt : Bool) (s m : Int) (t : TS) (told : Int) (over : Bool) : Ending → World → Prop := fun e w' =>
  e = .returned (.tuple #[.int .i64 told, .bool over]) ∧ RK w' q n a cnt s m ∧ RT w' p g t ∧ Only w w' (fun b => b = q ∨ b = p ∨ b = g)
theorem rvisit_turn (w : World) (q p g : Nat) (n a s m lo : Int) (t : TS) (hc : t.c = 0 ∨ t.c = 1) (hn : n ≤ 16) (ha : 0 ≤ a) (hlt : a + 1 < n) (hK : RK w q n a false s m) (h : RT w p g t) : Calls Try.prog 26 #[.pointer (some ⟨q, 0, none⟩), .pointer (some ⟨p, 0, none⟩), .int .i64 lo] w (RVLeft w q p g n (a + 1) false s m (flipS t) 0 false) := by
  obtain ⟨k0, k1, k2, k3, k4⟩ := RK.all hK
  have f1 : w.frozen? ⟨q, 1, none⟩ = false := Blk.frozen hK 1
  have HK := hide hK
  have HT := hide h
  have hqp : q ≠ p := Blk.ne_ hK h.blk (by decide)
  have hqg : q ≠ g := Blk.ne_ hK h.net (by decide)
  have HFl := hide (fun W hW => rflip_call W p g t hc hW)
  have w1 : wrap64 (n - 1) = n - 1 := by unfold wrap64; omega
  have w2 : wrap64 (a + 1) = a + 1 := by unfold wrap64; omega
  have e0 : (n == 0) = false := by rw [beq_eq_false_iff_ne]; omega
  have e1 : (a == n - 1) = false := by rw [beq_eq_false_iff_ne]; omega
  have e2 : (a + 1).tmod n = (a + 1) := by exact Int.tmod_eq_of_lt (by omega) (by omega)
  clear h hK hc
  go_enter Try.func26, Try.ntmps26
  go_wp2_with fail
  rename_i K1 h1
  have HC := hide h1
  clear h1
  go_region
  have HK1 := hide (Blk.drew HK.out)
  have HT1 : Hid (RT w.drew p g t) := hide ⟨HT.out.blk.drew, HT.out.net.drew⟩
  have HO1 := hide ((Only.refl w (fun b => b = q ∨ b = p ∨ b = g)).drew)
  generalize w.drew = wA at HK1 HT1 HO1 ⊢
  refine HC.out _ _ ?_
  clear HC K1 HK HT k0 k1 k2 k3 k4 f1
  obtain ⟨k0, k1, k2, k3, k4⟩ := RK.all HK1.out
  have f1 : wA.frozen? ⟨q, 1, none⟩ = false := Blk.frozen HK1.out 1
  go_wp2_with fail
  rename_i K1 h1
  have HC := hide h1
  clear h1
  go_region
  have HK2 : Hid (RK (wA.setCell ⟨q, 1, none⟩ (.int .i64 (a + 1))).drew q n (a + 1) false s m) := hide (Blk.set_ HK1.out 1 _).drew
  have HT2 : Hid (RT (wA.setCell ⟨q, 1, none⟩ (.int .i64 (a + 1))).drew p g t) := hide ⟨(Blk.far HT1.out.blk (p := ⟨q, 1, none⟩) (fun e => hqp e.symm) _).drew, (Blk.far HT1.out.net (p := ⟨q, 1, none⟩) (fun e => hqg e.symm) _).drew⟩
  have HO2 := hide (HO1.out.setCell (p := ⟨q, 1, none⟩) (.inl (.inl rfl)) (.int .i64 (a + 1))).drew
  generalize (wA.setCell ⟨q, 1, none⟩ (.int .i64 (a + 1))).drew = wB at HK2 HT2 HO2 ⊢
  refine HC.out _ _ ?_
  clear HC K1 HK1 HT1 HO1 k0 k1 k2 k3 k4 f1
  obtain ⟨k0, k1, k2, k3, k4⟩ := RK.all HK2.out
  go_wp2_with (go_at_call 25; refine (HFl.out _ HT2.out).mono ?_; rintro e w5 ⟨rfl, hT5, hO5⟩; have HK5 : Hid (RK w5 q n (a + 1) false s m) := hide (Blk.only HK2.out hO5 (fun e => by rcases e with e | e; exact hqp e; exact hqg e)); have HT5 := hide hT5; have HO5 := hide (HO2.out.trans (hO5.mono (T := fun b => b = q ∨ b = p ∨ b = g) (fun i e => .inr e))); have j2 : w5.cell? ⟨q, 2, none⟩ = some (.bool false) := Blk.cell HK5.out 2; have j3 : w5.cell? ⟨q, 3, none⟩ = some (.int .i64 s) := Blk.cell HK5.out 3; have j4 : w5.cell? ⟨q, 4, none⟩ = some (.int .i64 m) := Blk.cell HK5.out 4; have g2 : w5.frozen? ⟨q, 2, none⟩ = false := Blk.frozen HK5.out 2; have g3 : w5.frozen? ⟨q, 3, none⟩ = false := Blk.frozen HK5.out 3; have g4 : w5.frozen? ⟨q, 4, none⟩ = false := Blk.frozen HK5.out 4; clear hT5 hO5)
  refine bodyPost_ret (v := .tuple #[.int .i64 0, .bool false]) (results_list (rs := [.tmp 6, .tmp 7]) rfl (by simp) (Vals.tmp (Vals.tmp Vals.nil))) rfl ⟨rfl, HK5.out, HT5.out, HO5.out⟩
theorem rvisit_turnL (w : World) (q p g : Nat) (n a s m lo : Int) (t : TS) (hc : t.c = 0 ∨ t.c = 1) (hn : n ≤ 16) (ha : 0 ≤ a) (hlt : a + 1 = n) (hK : RK w q n a false s m) (h : RT w p g t) : Calls Try.prog 26 #[.pointer (some ⟨q, 0, none⟩), .pointer (some ⟨p, 0, none⟩), .int .i64 lo] w (RVLeft w q p g n 0 true 0 NV (flipS t) 0 false) := by
  obtain ⟨k0, k1, k2, k3, k4⟩ := RK.all hK
  have f1 : w.frozen? ⟨q, 1, none⟩ = false := Blk.frozen hK 1
  have HK := hide hK
  have HT := hide h
  have hqp : q ≠ p := Blk.ne_ hK h.blk (by decide)
  have hqg : q ≠ g := Blk.ne_ hK h.net (by decide)
  have HFl := hide (fun W hW => rflip_call W p g t hc hW)
  have w1 : wrap64 (n - 1) = n - 1 := by unfold wrap64; omega
  have w2 : wrap64 (a + 1) = a + 1 := by unfold wrap64; omega
  have e0 : (n == 0) = false := by rw [beq_eq_false_iff_ne]; omega
  have e1 : (a == n - 1) = true := by rw [beq_iff_eq]; omega
  have e2 : (a + 1).tmod n = 0 := by rw [hlt]; exact Int.tmod_self
  clear h hK hc
  go_enter Try.func26, Try.ntmps26
  go_wp2_with fail
  rename_i K1 h1
  have HC := hide h1
  clear h1
  go_region
  have HK1 := hide (Blk.drew HK.out)
  have HT1 : Hid (RT w.drew p g t) := hide ⟨HT.out.blk.drew, HT.out.net.drew⟩
  have HO1 := hide ((Only.refl w (fun b => b = q ∨ b = p ∨ b = g)).drew)
  generalize w.drew = wA at HK1 HT1 HO1 ⊢
  refine HC.out _ _ ?_
  clear HC K1 HK HT k0 k1 k2 k3 k4 f1
  obtain ⟨k0, k1, k2, k3, k4⟩ := RK.all HK1.out
  have f1 : wA.frozen? ⟨q, 1, none⟩ = false := Blk.frozen HK1.out 1
  go_wp2_with fail
  rename_i K1 h1
  have HC := hide h1
  clear h1
  go_region
  have HK2 : Hid (RK (wA.setCell ⟨q, 1, none⟩ (.int .i64 0)).drew q n 0 false s m) := hide (Blk.set_ HK1.out 1 _).drew
  have HT2 : Hid (RT (wA.setCell ⟨q, 1, none⟩ (.int .i64 0)).drew p g t) := hide ⟨(Blk.far HT1.out.blk (p := ⟨q, 1, none⟩) (fun e => hqp e.symm) _).drew, (Blk.far HT1.out.net (p := ⟨q, 1, none⟩) (fun e => hqg e.symm) _).drew⟩
  have HO2 := hide (HO1.out.setCell (p := ⟨q, 1, none⟩) (.inl (.inl rfl)) (.int .i64 0)).drew
  generalize (wA.setCell ⟨q, 1, none⟩ (.int .i64 0)).drew = wB at HK2 HT2 HO2 ⊢
  refine HC.out _ _ ?_
  clear HC K1 HK1 HT1 HO1 k0 k1 k2 k3 k4 f1
  obtain ⟨k0, k1, k2, k3, k4⟩ := RK.all HK2.out
  go_wp2_with (go_at_call 25; refine (HFl.out _ HT2.out).mono ?_; rintro e w5 ⟨rfl, hT5, hO5⟩; have HK5 : Hid (RK w5 q n 0 false s m) := hide (Blk.only HK2.out hO5 (fun e => by rcases e with e | e; exact hqp e; exact hqg e)); have HT5 := hide hT5; have HO5 := hide (HO2.out.trans (hO5.mono (T := fun b => b = q ∨ b = p ∨ b = g) (fun i e => .inr e))); have j2 : w5.cell? ⟨q, 2, none⟩ = some (.bool false) := Blk.cell HK5.out 2; have j3 : w5.cell? ⟨q, 3, none⟩ = some (.int .i64 s) := Blk.cell HK5.out 3; have j4 : w5.cell? ⟨q, 4, none⟩ = some (.int .i64 m) := Blk.cell HK5.out 4; have g2 : w5.frozen? ⟨q, 2, none⟩ = false := Blk.frozen HK5.out 2; have g3 : w5.frozen? ⟨q, 3, none⟩ = false := Blk.frozen HK5.out 3; have g4 : w5.frozen? ⟨q, 4, none⟩ = false := Blk.frozen HK5.out 4; clear hT5 hO5)
  refine bodyPost_ret (v := .tuple #[.int .i64 0, .bool false]) (results_list (rs := [.tmp 6, .tmp 7]) rfl (by simp) (Vals.tmp (Vals.tmp Vals.nil))) rfl ⟨rfl, Blk.set_ (Blk.set_ (Blk.set_ HK5.out 2 _) 3 _) 4 _, ⟨Blk.far (Blk.far (Blk.far HT5.out.blk (p := ⟨q, 2, none⟩) (fun e => hqp e.symm) _) (p := ⟨q, 3, none⟩) (fun e => hqp e.symm) _) (p := ⟨q, 4, none⟩) (fun e => hqp e.symm) _, Blk.far (Blk.far (Blk.far HT5.out.net (p := ⟨q, 2, none⟩) (fun e => hqg e.symm) _) (p := ⟨q, 3, none⟩) (fun e => hqg e.symm) _) (p := ⟨q, 4, none⟩) (fun e => hqg e.symm) _⟩, ((HO5.out.setCell (p := ⟨q, 2, none⟩) (.inl (.inl rfl)) _).setCell (p := ⟨q, 3, none⟩) (.inl (.inl rfl)) _).setCell (p := ⟨q, 4, none⟩) (.inl (.inl rfl)) _⟩
theorem rvisit_count0 (w : World) (q p g : Nat) (n a s m lo n0 n1 r : Int) (hn : n ≤ 16) (ha : 0 ≤ a) (hlt : a + 1 < n) (hK : RK w q n a true s m) (h : RT w p g ⟨0, n0, n1, r⟩) : Calls Try.prog 26 #[.pointer (some ⟨q, 0, none⟩), .pointer (some ⟨p, 0, none⟩), .int .i64 lo] w (RVLeft w q p g n (a + 1) true (wrap64 (s + n1)) (Colour.mn (Colour.mn m lo) r) ⟨0, n0, n1, r⟩ 0 false) := by
  obtain ⟨k0, k1, k2, k3, k4⟩ := RK.all hK
  have f1 : w.frozen? ⟨q, 1, none⟩ = false := Blk.frozen hK 1
  have HK := hide hK
  have HT := hide h
  have hqp : q ≠ p := Blk.ne_ hK h.blk (by decide)
  have hqg : q ≠ g := Blk.ne_ hK h.net (by decide)
  have w1 : wrap64 (n - 1) = n - 1 := by unfold wrap64; omega
  have w2 : wrap64 (a + 1) = a + 1 := by unfold wrap64; omega
  have e0 : (n == 0) = false := by rw [beq_eq_false_iff_ne]; omega
  have e1 : (a == n - 1) = false := by rw [beq_eq_false_iff_ne]; omega
  have e2 : (a + 1).tmod n = (a + 1) := by exact Int.tmod_eq_of_lt (by omega) (by omega)
  clear h hK
  go_enter Try.func26, Try.ntmps26
  go_wp2_with fail
  rename_i K1 h1
  have HC := hide h1
  clear h1
  go_region
  have HK1 := hide (Blk.drew HK.out)
  have HT1 : Hid (RT w.drew p g ⟨0, n0, n1, r⟩) := hide ⟨HT.out.blk.drew, HT.out.net.drew⟩
  have HO1 := hide ((Only.refl w (fun b => b = q ∨ b = p ∨ b = g)).drew)
  generalize w.drew = wA at HK1 HT1 HO1 ⊢
  refine HC.out _ _ ?_
  clear HC K1 HK HT k0 k1 k2 k3 k4 f1
  obtain ⟨k0, k1, k2, k3, k4⟩ := RK.all HK1.out
  have f1 : wA.frozen? ⟨q, 1, none⟩ = false := Blk.frozen HK1.out 1
  go_wp2_with fail
  rename_i K1 h1
  have HC := hide h1
  clear h1
  go_region
  have HK2 : Hid (RK (wA.setCell ⟨q, 1, none⟩ (.int .i64 (a + 1))).drew q n (a + 1) true s m) := hide (Blk.set_ HK1.out 1 _).drew
  have HT2 : Hid (RT (wA.setCell ⟨q, 1, none⟩ (.int .i64 (a + 1))).drew p g ⟨0, n0, n1, r⟩) := hide ⟨(Blk.far HT1.out.blk (p := ⟨q, 1, none⟩) (fun e => hqp e.symm) _).drew, (Blk.far HT1.out.net (p := ⟨q, 1, none⟩) (fun e => hqg e.symm) _).drew⟩
  have HO2 := hide (HO1.out.setCell (p := ⟨q, 1, none⟩) (.inl (.inl rfl)) (.int .i64 (a + 1))).drew
  generalize (wA.setCell ⟨q, 1, none⟩ (.int .i64 (a + 1))).drew = wB at HK2 HT2 HO2 ⊢
  refine HC.out _ _ ?_
  clear HC K1 HK1 HT1 HO1 k0 k1 k2 k3 k4 f1
  obtain ⟨k0, k1, k2, k3, k4⟩ := RK.all HK2.out
  obtain ⟨t0, t1, t2, t3, t4⟩ := RT.all HT2.out
  have f3 : wB.frozen? ⟨q, 3, none⟩ = false := Blk.frozen HK2.out 3
  have sq : IntKind.i64.wrap (s + n1) = wrap64 (s + n1) := i64_w _
  go_wp2_with fail
  rename_i K1 h1
  have HC := hide h1
  clear h1
  go_region
  have HK3 : Hid (RK (wB.setCell ⟨q, 3, none⟩ (.int .i64 (wrap64 (s + n1)))).drew q n (a + 1) true (wrap64 (s + n1)) m) := hide (Blk.set_ HK2.out 3 _).drew
  have HT3 : Hid (RT (wB.setCell ⟨q, 3, none⟩ (.int .i64 (wrap64 (s + n1)))).drew p g ⟨0, n0, n1, r⟩) := hide ⟨(Blk.far HT2.out.blk (p := ⟨q, 3, none⟩) (fun e => hqp e.symm) _).drew, (Blk.far HT2.out.net (p := ⟨q, 3, none⟩) (fun e => hqg e.symm) _).drew⟩
  have HO3 := hide (HO2.out.setCell (p := ⟨q, 3, none⟩) (.inl (.inl rfl)) (.int .i64 (wrap64 (s + n1)))).drew
  generalize (wB.setCell ⟨q, 3, none⟩ (.int .i64 (wrap64 (s + n1)))).drew = wC at HK3 HT3 HO3 ⊢
  refine HC.out _ _ ?_
  clear HC K1 HK2 HT2 HO2 k0 k1 k2 k3 k4 f3 t0 t1 t2 t3 t4 sq
  obtain ⟨k0, k1, k2, k3, k4⟩ := RK.all HK3.out
  obtain ⟨t0, t1, t2, t3, t4⟩ := RT.all HT3.out
  have f4 : wC.frozen? ⟨q, 4, none⟩ = false := Blk.frozen HK3.out 4
  obtain ⟨sv, hsv⟩ : ∃ sv, (wrap64 (s + n1)) = sv := ⟨_, rfl⟩
  have HSv := hide hsv
  rw [hsv] at k3 HK3
  clear hsv
  obtain ⟨m1, hm1⟩ : ∃ m1, Colour.mn m lo = m1 := ⟨_, rfl⟩
  have hq1 : (if lo < m then lo else m) = m1 := hm1
  obtain ⟨mv, hmv⟩ : ∃ mv, Colour.mn m1 r = mv := ⟨_, rfl⟩
  have hq2 : (if r < m1 then r else m1) = mv := hmv
  have hmm : Colour.mn (Colour.mn m lo) r = mv := by rw [hm1, hmv]
  have HMm := hide hmm
  clear hmm hm1 hmv
  go_wp2_with fail
  rename_i K1 h1
  have HC := hide h1
  clear h1
  go_region
  have HK4 : Hid (RK (wC.setCell ⟨q, 4, none⟩ (.int .i64 mv)).drew q n (a + 1) true sv mv) := hide (Blk.set_ HK3.out 4 _).drew
  have HT4 : Hid (RT (wC.setCell ⟨q, 4, none⟩ (.int .i64 mv)).drew p g ⟨0, n0, n1, r⟩) := hide ⟨(Blk.far HT3.out.blk (p := ⟨q, 4, none⟩) (fun e => hqp e.symm) _).drew, (Blk.far HT3.out.net (p := ⟨q, 4, none⟩) (fun e => hqg e.symm) _).drew⟩
  have HO4 := hide (HO3.out.setCell (p := ⟨q, 4, none⟩) (.inl (.inl rfl)) (.int .i64 mv)).drew
  generalize (wC.setCell ⟨q, 4, none⟩ (.int .i64 mv)).drew = wD at HK4 HT4 HO4 ⊢
  refine HC.out _ _ ?_
  clear HC K1 HK3 HT3 HO3 k0 k1 k2 k3 k4 f4 t0 t1 t2 t3 t4
  obtain ⟨k0, k1, k2, k3, k4⟩ := RK.all HK4.out
  have f2 : wD.frozen? ⟨q, 2, none⟩ = false := Blk.frozen HK4.out 2
  have f3 : wD.frozen? ⟨q, 3, none⟩ = false := Blk.frozen HK4.out 3
  have f4 : wD.frozen? ⟨q, 4, none⟩ = false := Blk.frozen HK4.out 4
  rw [HSv.out, HMm.out]
  go_wp2_with fail
  refine bodyPost_ret (v := .tuple #[.int .i64 0, .bool false]) (results_list (rs := [.tmp 6, .tmp 7]) rfl (by simp) (Vals.tmp (Vals.tmp Vals.nil))) rfl ⟨rfl, HK4.out, HT4.out, HO4.out⟩
theorem rvisit_count0LY (w : World) (q p g : Nat) (n a s m lo n0 n1 r : Int) (hn : n ≤ 16) (ha : 0 ≤ a) (hlt : a + 1 = n) (ho : (wrap64 (s + n1)) = 0) (hK : RK w q n a true s m) (h : RT w p g ⟨0, n0, n1, r⟩) : Calls Try.prog 26 #[.pointer (some ⟨q, 0, none⟩), .pointer (some ⟨p, 0, none⟩), .int .i64 lo] w (RVLeft w q p g n 0 false 0 NV ⟨0, n0, n1, r⟩ (Colour.mn (Colour.mn m lo) r) true) := by
  have HOh := hide ho
  clear ho
  obtain ⟨k0, k1, k2, k3, k4⟩ := RK.all hK
  have f1 : w.frozen? ⟨q, 1, none⟩ = false := Blk.frozen hK 1
  have HK := hide hK
  have HT := hide h
  have hqp : q ≠ p := Blk.ne_ hK h.blk (by decide)
  have hqg : q ≠ g := Blk.ne_ hK h.net (by decide)
  have w1 : wrap64 (n - 1) = n - 1 := by unfold wrap64; omega
  have w2 : wrap64 (a + 1) = a + 1 := by unfold wrap64; omega
  have e0 : (n == 0) = false := by rw [beq_eq_false_iff_ne]; omega
  have e1 : (a == n - 1) = true := by rw [beq_iff_eq]; omega
  have e2 : (a + 1).tmod n = 0 := by rw [hlt]; exact Int.tmod_self
  clear h hK
  go_enter Try.func26, Try.ntmps26
  go_wp2_with fail
  rename_i K1 h1
  have HC := hide h1
  clear h1
  go_region
  have HK1 := hide (Blk.drew HK.out)
  have HT1 : Hid (RT w.drew p g ⟨0, n0, n1, r⟩) := hide ⟨HT.out.blk.drew, HT.out.net.drew⟩
  have HO1 := hide ((Only.refl w (fun b => b = q ∨ b = p ∨ b = g)).drew)
  generalize w.drew = wA at HK1 HT1 HO1 ⊢
  refine HC.out _ _ ?_
  clear HC K1 HK HT k0 k1 k2 k3 k4 f1
  obtain ⟨k0, k1, k2, k3, k4⟩ := RK.all HK1.out
  have f1 : wA.frozen? ⟨q, 1, none⟩ = false := Blk.frozen HK1.out 1
  go_wp2_with fail
  rename_i K1 h1
  have HC := hide h1
  clear h1
  go_region
  have HK2 : Hid (RK (wA.setCell ⟨q, 1, none⟩ (.int .i64 0)).drew q n 0 true s m) := hide (Blk.set_ HK1.out 1 _).drew
  have HT2 : Hid (RT (wA.setCell ⟨q, 1, none⟩ (.int .i64 0)).drew p g ⟨0, n0, n1, r⟩) := hide ⟨(Blk.far HT1.out.blk (p := ⟨q, 1, none⟩) (fun e => hqp e.symm) _).drew, (Blk.far HT1.out.net (p := ⟨q, 1, none⟩) (fun e => hqg e.symm) _).drew⟩
  have HO2 := hide (HO1.out.setCell (p := ⟨q, 1, none⟩) (.inl (.inl rfl)) (.int .i64 0)).drew
  generalize (wA.setCell ⟨q, 1, none⟩ (.int .i64 0)).drew = wB at HK2 HT2 HO2 ⊢
  refine HC.out _ _ ?_
  clear HC K1 HK1 HT1 HO1 k0 k1 k2 k3 k4 f1
  obtain ⟨k0, k1, k2, k3, k4⟩ := RK.all HK2.out
  obtain ⟨t0, t1, t2, t3, t4⟩ := RT.all HT2.out
  have f3 : wB.frozen? ⟨q, 3, none⟩ = false := Blk.frozen HK2.out 3
  have sq : IntKind.i64.wrap (s + n1) = wrap64 (s + n1) := i64_w _
  go_wp2_with fail
  rename_i K1 h1
  have HC := hide h1
  clear h1
  go_region
  have HK3 : Hid (RK (wB.setCell ⟨q, 3, none⟩ (.int .i64 (wrap64 (s + n1)))).drew q n 0 true (wrap64 (s + n1)) m) := hide (Blk.set_ HK2.out 3 _).drew
  have HT3 : Hid (RT (wB.setCell ⟨q, 3, none⟩ (.int .i64 (wrap64 (s + n1)))).drew p g ⟨0, n0, n1, r⟩) := hide ⟨(Blk.far HT2.out.blk (p := ⟨q, 3, none⟩) (fun e => hqp e.symm) _).drew, (Blk.far HT2.out.net (p := ⟨q, 3, none⟩) (fun e => hqg e.symm) _).drew⟩
  have HO3 := hide (HO2.out.setCell (p := ⟨q, 3, none⟩) (.inl (.inl rfl)) (.int .i64 (wrap64 (s + n1)))).drew
  generalize (wB.setCell ⟨q, 3, none⟩ (.int .i64 (wrap64 (s + n1)))).drew = wC at HK3 HT3 HO3 ⊢
  refine HC.out _ _ ?_
  clear HC K1 HK2 HT2 HO2 k0 k1 k2 k3 k4 f3 t0 t1 t2 t3 t4 sq
  obtain ⟨k0, k1, k2, k3, k4⟩ := RK.all HK3.out
  obtain ⟨t0, t1, t2, t3, t4⟩ := RT.all HT3.out
  have f4 : wC.frozen? ⟨q, 4, none⟩ = false := Blk.frozen HK3.out 4
  obtain ⟨sv, hsv⟩ : ∃ sv, (wrap64 (s + n1)) = sv := ⟨_, rfl⟩
  have HSv := hide hsv
  rw [hsv] at k3 HK3
  clear hsv
  obtain ⟨m1, hm1⟩ : ∃ m1, Colour.mn m lo = m1 := ⟨_, rfl⟩
  have hq1 : (if lo < m then lo else m) = m1 := hm1
  obtain ⟨mv, hmv⟩ : ∃ mv, Colour.mn m1 r = mv := ⟨_, rfl⟩
  have hq2 : (if r < m1 then r else m1) = mv := hmv
  have hmm : Colour.mn (Colour.mn m lo) r = mv := by rw [hm1, hmv]
  have HMm := hide hmm
  clear hmm hm1 hmv
  go_wp2_with fail
  rename_i K1 h1
  have HC := hide h1
  clear h1
  go_region
  have HK4 : Hid (RK (wC.setCell ⟨q, 4, none⟩ (.int .i64 mv)).drew q n 0 true sv mv) := hide (Blk.set_ HK3.out 4 _).drew
  have HT4 : Hid (RT (wC.setCell ⟨q, 4, none⟩ (.int .i64 mv)).drew p g ⟨0, n0, n1, r⟩) := hide ⟨(Blk.far HT3.out.blk (p := ⟨q, 4, none⟩) (fun e => hqp e.symm) _).drew, (Blk.far HT3.out.net (p := ⟨q, 4, none⟩) (fun e => hqg e.symm) _).drew⟩
  have HO4 := hide (HO3.out.setCell (p := ⟨q, 4, none⟩) (.inl (.inl rfl)) (.int .i64 mv)).drew
  generalize (wC.setCell ⟨q, 4, none⟩ (.int .i64 mv)).drew = wD at HK4 HT4 HO4 ⊢
  refine HC.out _ _ ?_
  clear HC K1 HK3 HT3 HO3 k0 k1 k2 k3 k4 f4 t0 t1 t2 t3 t4
  obtain ⟨k0, k1, k2, k3, k4⟩ := RK.all HK4.out
  have f2 : wD.frozen? ⟨q, 2, none⟩ = false := Blk.frozen HK4.out 2
  have f3 : wD.frozen? ⟨q, 3, none⟩ = false := Blk.frozen HK4.out 3
  have f4 : wD.frozen? ⟨q, 4, none⟩ = false := Blk.frozen HK4.out 4
  have ho := HOh.out
  rw [HSv.out] at ho
  subst ho
  rw [HMm.out]
  go_wp2_with fail
  refine bodyPost_ret (v := .tuple #[.int .i64 mv, .bool true]) (results_list (rs := [.tmp 6, .tmp 7]) rfl (by simp) (Vals.tmp (Vals.tmp Vals.nil))) rfl ⟨rfl, (Blk.set_ (Blk.set_ (Blk.set_ HK4.out 3 _) 4 _) 2 _), ⟨(Blk.far (Blk.far (Blk.far HT4.out.blk (p := ⟨q, 3, none⟩) (fun e => hqp e.symm) _) (p := ⟨q, 4, none⟩) (fun e => hqp e.symm) _) (p := ⟨q, 2, none⟩) (fun e => hqp e.symm) _), (Blk.far (Blk.far (Blk.far HT4.out.net (p := ⟨q, 3, none⟩) (fun e => hqg e.symm) _) (p := ⟨q, 4, none⟩) (fun e => hqg e.symm) _) (p := ⟨q, 2, none⟩) (fun e => hqg e.symm) _)⟩, (((HO4.out.setCell (p := ⟨q, 3, none⟩) (.inl (.inl rfl)) _).setCell (p := ⟨q, 4, none⟩) (.inl (.inl rfl)) _).setCell (p := ⟨q, 2, none⟩) (.inl (.inl rfl)) _)⟩
theorem rvisit_count0LN (w : World) (q p g : Nat) (n a s m lo n0 n1 r : Int) (hn : n ≤ 16) (ha : 0 ≤ a) (hlt : a + 1 = n) (ho : (wrap64 (s + n1)) ≠ 0) (hK : RK w q n a true s m) (h : RT w p g ⟨0, n0, n1, r⟩) : Calls Try.prog 26 #[.pointer (some ⟨q, 0, none⟩), .pointer (some ⟨p, 0, none⟩), .int .i64 lo] w (RVLeft w q p g n 0 true 0 NV ⟨0, n0, n1, r⟩ 0 false) := by
  have HOh := hide ho
  clear ho
  obtain ⟨k0, k1, k2, k3, k4⟩ := RK.all hK
  have f1 : w.frozen? ⟨q, 1, none⟩ = false := Blk.frozen hK 1
  have HK := hide hK
  have HT := hide h
  have hqp : q ≠ p := Blk.ne_ hK h.blk (by decide)
  have hqg : q ≠ g := Blk.ne_ hK h.net (by decide)
  have w1 : wrap64 (n - 1) = n - 1 := by unfold wrap64; omega
  have w2 : wrap64 (a + 1) = a + 1 := by unfold wrap64; omega
  have e0 : (n == 0) = false := by rw [beq_eq_false_iff_ne]; omega
  have e1 : (a == n - 1) = true := by rw [beq_iff_eq]; omega
  have e2 : (a + 1).tmod n = 0 := by rw [hlt]; exact Int.tmod_self
  clear h hK
  go_enter Try.func26, Try.ntmps26
  go_wp2_with fail
  rename_i K1 h1
  have HC := hide h1
  clear h1
  go_region
  have HK1 := hide (Blk.drew HK.out)
  have HT1 : Hid (RT w.drew p g ⟨0, n0, n1, r⟩) := hide ⟨HT.out.blk.drew, HT.out.net.drew⟩
  have HO1 := hide ((Only.refl w (fun b => b = q ∨ b = p ∨ b = g)).drew)
  generalize w.drew = wA at HK1 HT1 HO1 ⊢
  refine HC.out _ _ ?_
  clear HC K1 HK HT k0 k1 k2 k3 k4 f1
  obtain ⟨k0, k1, k2, k3, k4⟩ := RK.all HK1.out
  have f1 : wA.frozen? ⟨q, 1, none⟩ = false := Blk.frozen HK1.out 1
  go_wp2_with fail
  rename_i K1 h1
  have HC := hide h1
  clear h1
  go_region
  have HK2 : Hid (RK (wA.setCell ⟨q, 1, none⟩ (.int .i64 0)).drew q n 0 true s m) := hide (Blk.set_ HK1.out 1 _).drew
  have HT2 : Hid (RT (wA.setCell ⟨q, 1, none⟩ (.int .i64 0)).drew p g ⟨0, n0, n1, r⟩) := hide ⟨(Blk.far HT1.out.blk (p := ⟨q, 1, none⟩) (fun e => hqp e.symm) _).drew, (Blk.far HT1.out.net (p := ⟨q, 1, none⟩) (fun e => hqg e.symm) _).drew⟩
  have HO2 := hide (HO1.out.setCell (p := ⟨q, 1, none⟩) (.inl (.inl rfl)) (.int .i64 0)).drew
  generalize (wA.setCell ⟨q, 1, none⟩ (.int .i64 0)).drew = wB at HK2 HT2 HO2 ⊢
  refine HC.out _ _ ?_
  clear HC K1 HK1 HT1 HO1 k0 k1 k2 k3 k4 f1
  obtain ⟨k0, k1, k2, k3, k4⟩ := RK.all HK2.out
  obtain ⟨t0, t1, t2, t3, t4⟩ := RT.all HT2.out
  have f3 : wB.frozen? ⟨q, 3, none⟩ = false := Blk.frozen HK2.out 3
  have sq : IntKind.i64.wrap (s + n1) = wrap64 (s + n1) := i64_w _
  go_wp2_with fail
  rename_i K1 h1
  have HC := hide h1
  clear h1
  go_region
  have HK3 : Hid (RK (wB.setCell ⟨q, 3, none⟩ (.int .i64 (wrap64 (s + n1)))).drew q n 0 true (wrap64 (s + n1)) m) := hide (Blk.set_ HK2.out 3 _).drew
  have HT3 : Hid (RT (wB.setCell ⟨q, 3, none⟩ (.int .i64 (wrap64 (s + n1)))).drew p g ⟨0, n0, n1, r⟩) := hide ⟨(Blk.far HT2.out.blk (p := ⟨q, 3, none⟩) (fun e => hqp e.symm) _).drew, (Blk.far HT2.out.net (p := ⟨q, 3, none⟩) (fun e => hqg e.symm) _).drew⟩
  have HO3 := hide (HO2.out.setCell (p := ⟨q, 3, none⟩) (.inl (.inl rfl)) (.int .i64 (wrap64 (s + n1)))).drew
  generalize (wB.setCell ⟨q, 3, none⟩ (.int .i64 (wrap64 (s + n1)))).drew = wC at HK3 HT3 HO3 ⊢
  refine HC.out _ _ ?_
  clear HC K1 HK2 HT2 HO2 k0 k1 k2 k3 k4 f3 t0 t1 t2 t3 t4 sq
  obtain ⟨k0, k1, k2, k3, k4⟩ := RK.all HK3.out
  obtain ⟨t0, t1, t2, t3, t4⟩ := RT.all HT3.out
  have f4 : wC.frozen? ⟨q, 4, none⟩ = false := Blk.frozen HK3.out 4
  obtain ⟨sv, hsv⟩ : ∃ sv, (wrap64 (s + n1)) = sv := ⟨_, rfl⟩
  have HSv := hide hsv
  rw [hsv] at k3 HK3
  clear hsv
  obtain ⟨m1, hm1⟩ : ∃ m1, Colour.mn m lo = m1 := ⟨_, rfl⟩
  have hq1 : (if lo < m then lo else m) = m1 := hm1
  obtain ⟨mv, hmv⟩ : ∃ mv, Colour.mn m1 r = mv := ⟨_, rfl⟩
  have hq2 : (if r < m1 then r else m1) = mv := hmv
  have hmm : Colour.mn (Colour.mn m lo) r = mv := by rw [hm1, hmv]
  have HMm := hide hmm
  clear hmm hm1 hmv
  go_wp2_with fail
  rename_i K1 h1
  have HC := hide h1
  clear h1
  go_region
  have HK4 : Hid (RK (wC.setCell ⟨q, 4, none⟩ (.int .i64 mv)).drew q n 0 true sv mv) := hide (Blk.set_ HK3.out 4 _).drew
  have HT4 : Hid (RT (wC.setCell ⟨q, 4, none⟩ (.int .i64 mv)).drew p g ⟨0, n0, n1, r⟩) := hide ⟨(Blk.far HT3.out.blk (p := ⟨q, 4, none⟩) (fun e => hqp e.symm) _).drew, (Blk.far HT3.out.net (p := ⟨q, 4, none⟩) (fun e => hqg e.symm) _).drew⟩
  have HO4 := hide (HO3.out.setCell (p := ⟨q, 4, none⟩) (.inl (.inl rfl)) (.int .i64 mv)).drew
  generalize (wC.setCell ⟨q, 4, none⟩ (.int .i64 mv)).drew = wD at HK4 HT4 HO4 ⊢
  refine HC.out _ _ ?_
  clear HC K1 HK3 HT3 HO3 k0 k1 k2 k3 k4 f4 t0 t1 t2 t3 t4
  obtain ⟨k0, k1, k2, k3, k4⟩ := RK.all HK4.out
  have f2 : wD.frozen? ⟨q, 2, none⟩ = false := Blk.frozen HK4.out 2
  have f3 : wD.frozen? ⟨q, 3, none⟩ = false := Blk.frozen HK4.out 3
  have f4 : wD.frozen? ⟨q, 4, none⟩ = false := Blk.frozen HK4.out 4
  have ho := HOh.out
  rw [HSv.out] at ho
  have ho2 : (sv == 0) = false := by simpa using ho
  go_wp2_with fail
  refine bodyPost_ret (v := .tuple #[.int .i64 0, .bool false]) (results_list (rs := [.tmp 6, .tmp 7]) rfl (by simp) (Vals.tmp (Vals.tmp Vals.nil))) rfl ⟨rfl, (Blk.set_ (Blk.set_ HK4.out 3 _) 4 _), ⟨(Blk.far (Blk.far HT4.out.blk (p := ⟨q, 3, none⟩) (fun e => hqp e.symm) _) (p := ⟨q, 4, none⟩) (fun e => hqp e.symm) _), (Blk.far (Blk.far HT4.out.net (p := ⟨q, 3, none⟩) (fun e => hqg e.symm) _) (p := ⟨q, 4, none⟩) (fun e => hqg e.symm) _)⟩, ((HO4.out.setCell (p := ⟨q, 3, none⟩) (.inl (.inl rfl)) _).setCell (p := ⟨q, 4, none⟩) (.inl (.inl rfl)) _)⟩
theorem rvisit_count1 (w : World) (q p g : Nat) (n a s m lo n0 n1 r : Int) (hn : n ≤ 16) (ha : 0 ≤ a) (hlt : a + 1 < n) (hK : RK w q n a true s m) (h : RT w p g ⟨1, n0, n1, r⟩) : Calls Try.prog 26 #[.pointer (some ⟨q, 0, none⟩), .pointer (some ⟨p, 0, none⟩), .int .i64 lo] w (RVLeft w q p g n (a + 1) true (wrap64 (s + n0)) (Colour.mn (Colour.mn m lo) r) ⟨1, n0, n1, r⟩ 0 false) := by
  obtain ⟨k0, k1, k2, k3, k4⟩ := RK.all hK
  have f1 : w.frozen? ⟨q, 1, none⟩ = false := Blk.frozen hK 1
  have HK := hide hK
  have HT := hide h
  have hqp : q ≠ p := Blk.ne_ hK h.blk (by decide)
  have hqg : q ≠ g := Blk.ne_ hK h.net (by decide)
  have w1 : wrap64 (n - 1) = n - 1 := by unfold wrap64; omega
  have w2 : wrap64 (a + 1) = a + 1 := by unfold wrap64; omega
  have e0 : (n == 0) = false := by rw [beq_eq_false_iff_ne]; omega
  have e1 : (a == n - 1) = false := by rw [beq_eq_false_iff_ne]; omega
  have e2 : (a + 1).tmod n = (a + 1) := by exact Int.tmod_eq_of_lt (by omega) (by omega)
  clear h hK
  go_enter Try.func26, Try.ntmps26
  go_wp2_with fail
  rename_i K1 h1
  have HC := hide h1
  clear h1
  go_region
  have HK1 := hide (Blk.drew HK.out)
  have HT1 : Hid (RT w.drew p g ⟨1, n0, n1, r⟩) := hide ⟨HT.out.blk.drew, HT.out.net.drew⟩
  have HO1 := hide ((Only.refl w (fun b => b = q ∨ b = p ∨ b = g)).drew)
  generalize w.drew = wA at HK1 HT1 HO1 ⊢
  refine HC.out _ _ ?_
  clear HC K1 HK HT k0 k1 k2 k3 k4 f1
  obtain ⟨k0, k1, k2, k3, k4⟩ := RK.all HK1.out
  have f1 : wA.frozen? ⟨q, 1, none⟩ = false := Blk.frozen HK1.out 1
  go_wp2_with fail
  rename_i K1 h1
  have HC := hide h1
  clear h1
  go_region
  have HK2 : Hid (RK (wA.setCell ⟨q, 1, none⟩ (.int .i64 (a + 1))).drew q n (a + 1) true s m) := hide (Blk.set_ HK1.out 1 _).drew
  have HT2 : Hid (RT (wA.setCell ⟨q, 1, none⟩ (.int .i64 (a + 1))).drew p g ⟨1, n0, n1, r⟩) := hide ⟨(Blk.far HT1.out.blk (p := ⟨q, 1, none⟩) (fun e => hqp e.symm) _).drew, (Blk.far HT1.out.net (p := ⟨q, 1, none⟩) (fun e => hqg e.symm) _).drew⟩
  have HO2 := hide (HO1.out.setCell (p := ⟨q, 1, none⟩) (.inl (.inl rfl)) (.int .i64 (a + 1))).drew
  generalize (wA.setCell ⟨q, 1, none⟩ (.int .i64 (a + 1))).drew = wB at HK2 HT2 HO2 ⊢
  refine HC.out _ _ ?_
  clear HC K1 HK1 HT1 HO1 k0 k1 k2 k3 k4 f1
  obtain ⟨k0, k1, k2, k3, k4⟩ := RK.all HK2.out
  obtain ⟨t0, t1, t2, t3, t4⟩ := RT.all HT2.out
  have f3 : wB.frozen? ⟨q, 3, none⟩ = false := Blk.frozen HK2.out 3
  have sq : IntKind.i64.wrap (s + n0) = wrap64 (s + n0) := i64_w _
  go_wp2_with fail
  rename_i K1 h1
  have HC := hide h1
  clear h1
  go_region
  have HK3 : Hid (RK (wB.setCell ⟨q, 3, none⟩ (.int .i64 (wrap64 (s + n0)))).drew q n (a + 1) true (wrap64 (s + n0)) m) := hide (Blk.set_ HK2.out 3 _).drew
  have HT3 : Hid (RT (wB.setCell ⟨q, 3, none⟩ (.int .i64 (wrap64 (s + n0)))).drew p g ⟨1, n0, n1, r⟩) := hide ⟨(Blk.far HT2.out.blk (p := ⟨q, 3, none⟩) (fun e => hqp e.symm) _).drew, (Blk.far HT2.out.net (p := ⟨q, 3, none⟩) (fun e => hqg e.symm) _).drew⟩
  have HO3 := hide (HO2.out.setCell (p := ⟨q, 3, none⟩) (.inl (.inl rfl)) (.int .i64 (wrap64 (s + n0)))).drew
  generalize (wB.setCell ⟨q, 3, none⟩ (.int .i64 (wrap64 (s + n0)))).drew = wC at HK3 HT3 HO3 ⊢
  refine HC.out _ _ ?_
  clear HC K1 HK2 HT2 HO2 k0 k1 k2 k3 k4 f3 t0 t1 t2 t3 t4 sq
  obtain ⟨k0, k1, k2, k3, k4⟩ := RK.all HK3.out
  obtain ⟨t0, t1, t2, t3, t4⟩ := RT.all HT3.out
  have f4 : wC.frozen? ⟨q, 4, none⟩ = false := Blk.frozen HK3.out 4
  obtain ⟨sv, hsv⟩ : ∃ sv, (wrap64 (s + n0)) = sv := ⟨_, rfl⟩
  have HSv := hide hsv
  rw [hsv] at k3 HK3
  clear hsv
  obtain ⟨m1, hm1⟩ : ∃ m1, Colour.mn m lo = m1 := ⟨_, rfl⟩
  have hq1 : (if lo < m then lo else m) = m1 := hm1
  obtain ⟨mv, hmv⟩ : ∃ mv, Colour.mn m1 r = mv := ⟨_, rfl⟩
  have hq2 : (if r < m1 then r else m1) = mv := hmv
  have hmm : Colour.mn (Colour.mn m lo) r = mv := by rw [hm1, hmv]
  have HMm := hide hmm
  clear hmm hm1 hmv
  go_wp2_with fail
  rename_i K1 h1
  have HC := hide h1
  clear h1
  go_region
  have HK4 : Hid (RK (wC.setCell ⟨q, 4, none⟩ (.int .i64 mv)).drew q n (a + 1) true sv mv) := hide (Blk.set_ HK3.out 4 _).drew
  have HT4 : Hid (RT (wC.setCell ⟨q, 4, none⟩ (.int .i64 mv)).drew p g ⟨1, n0, n1, r⟩) := hide ⟨(Blk.far HT3.out.blk (p := ⟨q, 4, none⟩) (fun e => hqp e.symm) _).drew, (Blk.far HT3.out.net (p := ⟨q, 4, none⟩) (fun e => hqg e.symm) _).drew⟩
  have HO4 := hide (HO3.out.setCell (p := ⟨q, 4, none⟩) (.inl (.inl rfl)) (.int .i64 mv)).drew
  generalize (wC.setCell ⟨q, 4, none⟩ (.int .i64 mv)).drew = wD at HK4 HT4 HO4 ⊢
  refine HC.out _ _ ?_
  clear HC K1 HK3 HT3 HO3 k0 k1 k2 k3 k4 f4 t0 t1 t2 t3 t4
  obtain ⟨k0, k1, k2, k3, k4⟩ := RK.all HK4.out
  have f2 : wD.frozen? ⟨q, 2, none⟩ = false := Blk.frozen HK4.out 2
  have f3 : wD.frozen? ⟨q, 3, none⟩ = false := Blk.frozen HK4.out 3
  have f4 : wD.frozen? ⟨q, 4, none⟩ = false := Blk.frozen HK4.out 4
  rw [HSv.out, HMm.out]
  go_wp2_with fail
  refine bodyPost_ret (v := .tuple #[.int .i64 0, .bool false]) (results_list (rs := [.tmp 6, .tmp 7]) rfl (by simp) (Vals.tmp (Vals.tmp Vals.nil))) rfl ⟨rfl, HK4.out, HT4.out, HO4.out⟩
theorem rvisit_count1LY (w : World) (q p g : Nat) (n a s m lo n0 n1 r : Int) (hn : n ≤ 16) (ha : 0 ≤ a) (hlt : a + 1 = n) (ho : (wrap64 (s + n0)) = 0) (hK : RK w q n a true s m) (h : RT w p g ⟨1, n0, n1, r⟩) : Calls Try.prog 26 #[.pointer (some ⟨q, 0, none⟩), .pointer (some ⟨p, 0, none⟩), .int .i64 lo] w (RVLeft w q p g n 0 false 0 NV ⟨1, n0, n1, r⟩ (Colour.mn (Colour.mn m lo) r) true) := by
  have HOh := hide ho
  clear ho
  obtain ⟨k0, k1, k2, k3, k4⟩ := RK.all hK
  have f1 : w.frozen? ⟨q, 1, none⟩ = false := Blk.frozen hK 1
  have HK := hide hK
  have HT := hide h
  have hqp : q ≠ p := Blk.ne_ hK h.blk (by decide)
  have hqg : q ≠ g := Blk.ne_ hK h.net (by decide)
  have w1 : wrap64 (n - 1) = n - 1 := by unfold wrap64; omega
  have w2 : wrap64 (a + 1) = a + 1 := by unfold wrap64; omega
  have e0 : (n == 0) = false := by rw [beq_eq_false_iff_ne]; omega
  have e1 : (a == n - 1) = true := by rw [beq_iff_eq]; omega
  have e2 : (a + 1).tmod n = 0 := by rw [hlt]; exact Int.tmod_self
  clear h hK
  go_enter Try.func26, Try.ntmps26
  go_wp2_with fail
  rename_i K1 h1
  have HC := hide h1
  clear h1
  go_region
  have HK1 := hide (Blk.drew HK.out)
  have HT1 : Hid (RT w.drew p g ⟨1, n0, n1, r⟩) := hide ⟨HT.out.blk.drew, HT.out.net.drew⟩
  have HO1 := hide ((Only.refl w (fun b => b = q ∨ b = p ∨ b = g)).drew)
  generalize w.drew = wA at HK1 HT1 HO1 ⊢
  refine HC.out _ _ ?_
  clear HC K1 HK HT k0 k1 k2 k3 k4 f1
  obtain ⟨k0, k1, k2, k3, k4⟩ := RK.all HK1.out
  have f1 : wA.frozen? ⟨q, 1, none⟩ = false := Blk.frozen HK1.out 1
  go_wp2_with fail
  rename_i K1 h1
  have HC := hide h1
  clear h1
  go_region
  have HK2 : Hid (RK (wA.setCell ⟨q, 1, none⟩ (.int .i64 0)).drew q n 0 true s m) := hide (Blk.set_ HK1.out 1 _).drew
  have HT2 : Hid (RT (wA.setCell ⟨q, 1, none⟩ (.int .i64 0)).drew p g ⟨1, n0, n1, r⟩) := hide ⟨(Blk.far HT1.out.blk (p := ⟨q, 1, none⟩) (fun e => hqp e.symm) _).drew, (Blk.far HT1.out.net (p := ⟨q, 1, none⟩) (fun e => hqg e.symm) _).drew⟩
  have HO2 := hide (HO1.out.setCell (p := ⟨q, 1, none⟩) (.inl (.inl rfl)) (.int .i64 0)).drew
  generalize (wA.setCell ⟨q, 1, none⟩ (.int .i64 0)).drew = wB at HK2 HT2 HO2 ⊢
  refine HC.out _ _ ?_
  clear HC K1 HK1 HT1 HO1 k0 k1 k2 k3 k4 f1
  obtain ⟨k0, k1, k2, k3, k4⟩ := RK.all HK2.out
  obtain ⟨t0, t1, t2, t3, t4⟩ := RT.all HT2.out
  have f3 : wB.frozen? ⟨q, 3, none⟩ = false := Blk.frozen HK2.out 3
  have sq : IntKind.i64.wrap (s + n0) = wrap64 (s + n0) := i64_w _
  go_wp2_with fail
  rename_i K1 h1
  have HC := hide h1
  clear h1
  go_region
  have HK3 : Hid (RK (wB.setCell ⟨q, 3, none⟩ (.int .i64 (wrap64 (s + n0)))).drew q n 0 true (wrap64 (s + n0)) m) := hide (Blk.set_ HK2.out 3 _).drew
  have HT3 : Hid (RT (wB.setCell ⟨q, 3, none⟩ (.int .i64 (wrap64 (s + n0)))).drew p g ⟨1, n0, n1, r⟩) := hide ⟨(Blk.far HT2.out.blk (p := ⟨q, 3, none⟩) (fun e => hqp e.symm) _).drew, (Blk.far HT2.out.net (p := ⟨q, 3, none⟩) (fun e => hqg e.symm) _).drew⟩
  have HO3 := hide (HO2.out.setCell (p := ⟨q, 3, none⟩) (.inl (.inl rfl)) (.int .i64 (wrap64 (s + n0)))).drew
  generalize (wB.setCell ⟨q, 3, none⟩ (.int .i64 (wrap64 (s + n0)))).drew = wC at HK3 HT3 HO3 ⊢
  refine HC.out _ _ ?_
  clear HC K1 HK2 HT2 HO2 k0 k1 k2 k3 k4 f3 t0 t1 t2 t3 t4 sq
  obtain ⟨k0, k1, k2, k3, k4⟩ := RK.all HK3.out
  obtain ⟨t0, t1, t2, t3, t4⟩ := RT.all HT3.out
  have f4 : wC.frozen? ⟨q, 4, none⟩ = false := Blk.frozen HK3.out 4
  obtain ⟨sv, hsv⟩ : ∃ sv, (wrap64 (s + n0)) = sv := ⟨_, rfl⟩
  have HSv := hide hsv
  rw [hsv] at k3 HK3
  clear hsv
  obtain ⟨m1, hm1⟩ : ∃ m1, Colour.mn m lo = m1 := ⟨_, rfl⟩
  have hq1 : (if lo < m then lo else m) = m1 := hm1
  obtain ⟨mv, hmv⟩ : ∃ mv, Colour.mn m1 r = mv := ⟨_, rfl⟩
  have hq2 : (if r < m1 then r else m1) = mv := hmv
  have hmm : Colour.mn (Colour.mn m lo) r = mv := by rw [hm1, hmv]
  have HMm := hide hmm
  clear hmm hm1 hmv
  go_wp2_with fail
  rename_i K1 h1
  have HC := hide h1
  clear h1
  go_region
  have HK4 : Hid (RK (wC.setCell ⟨q, 4, none⟩ (.int .i64 mv)).drew q n 0 true sv mv) := hide (Blk.set_ HK3.out 4 _).drew
  have HT4 : Hid (RT (wC.setCell ⟨q, 4, none⟩ (.int .i64 mv)).drew p g ⟨1, n0, n1, r⟩) := hide ⟨(Blk.far HT3.out.blk (p := ⟨q, 4, none⟩) (fun e => hqp e.symm) _).drew, (Blk.far HT3.out.net (p := ⟨q, 4, none⟩) (fun e => hqg e.symm) _).drew⟩
  have HO4 := hide (HO3.out.setCell (p := ⟨q, 4, none⟩) (.inl (.inl rfl)) (.int .i64 mv)).drew
  generalize (wC.setCell ⟨q, 4, none⟩ (.int .i64 mv)).drew = wD at HK4 HT4 HO4 ⊢
  refine HC.out _ _ ?_
  clear HC K1 HK3 HT3 HO3 k0 k1 k2 k3 k4 f4 t0 t1 t2 t3 t4
  obtain ⟨k0, k1, k2, k3, k4⟩ := RK.all HK4.out
  have f2 : wD.frozen? ⟨q, 2, none⟩ = false := Blk.frozen HK4.out 2
  have f3 : wD.frozen? ⟨q, 3, none⟩ = false := Blk.frozen HK4.out 3
  have f4 : wD.frozen? ⟨q, 4, none⟩ = false := Blk.frozen HK4.out 4
  have ho := HOh.out
  rw [HSv.out] at ho
  subst ho
  rw [HMm.out]
  go_wp2_with fail
  refine bodyPost_ret (v := .tuple #[.int .i64 mv, .bool true]) (results_list (rs := [.tmp 6, .tmp 7]) rfl (by simp) (Vals.tmp (Vals.tmp Vals.nil))) rfl ⟨rfl, (Blk.set_ (Blk.set_ (Blk.set_ HK4.out 3 _) 4 _) 2 _), ⟨(Blk.far (Blk.far (Blk.far HT4.out.blk (p := ⟨q, 3, none⟩) (fun e => hqp e.symm) _) (p := ⟨q, 4, none⟩) (fun e => hqp e.symm) _) (p := ⟨q, 2, none⟩) (fun e => hqp e.symm) _), (Blk.far (Blk.far (Blk.far HT4.out.net (p := ⟨q, 3, none⟩) (fun e => hqg e.symm) _) (p := ⟨q, 4, none⟩) (fun e => hqg e.symm) _) (p := ⟨q, 2, none⟩) (fun e => hqg e.symm) _)⟩, (((HO4.out.setCell (p := ⟨q, 3, none⟩) (.inl (.inl rfl)) _).setCell (p := ⟨q, 4, none⟩) (.inl (.inl rfl)) _).setCell (p := ⟨q, 2, none⟩) (.inl (.inl rfl)) _)⟩
theorem rvisit_count1LN (w : World) (q p g : Nat) (n a s m lo n0 n1 r : Int) (hn : n ≤ 16) (ha : 0 ≤ a) (hlt : a + 1 = n) (ho : (wrap64 (s + n0)) ≠ 0) (hK : RK w q n a true s m) (h : RT w p g ⟨1, n0, n1, r⟩) : Calls Try.prog 26 #[.pointer (some ⟨q, 0, none⟩), .pointer (some ⟨p, 0, none⟩), .int .i64 lo] w (RVLeft w q p g n 0 true 0 NV ⟨1, n0, n1, r⟩ 0 false) := by
  have HOh := hide ho
  clear ho
  obtain ⟨k0, k1, k2, k3, k4⟩ := RK.all hK
  have f1 : w.frozen? ⟨q, 1, none⟩ = false := Blk.frozen hK 1
  have HK := hide hK
  have HT := hide h
  have hqp : q ≠ p := Blk.ne_ hK h.blk (by decide)
  have hqg : q ≠ g := Blk.ne_ hK h.net (by decide)
  have w1 : wrap64 (n - 1) = n - 1 := by unfold wrap64; omega
  have w2 : wrap64 (a + 1) = a + 1 := by unfold wrap64; omega
  have e0 : (n == 0) = false := by rw [beq_eq_false_iff_ne]; omega
  have e1 : (a == n - 1) = true := by rw [beq_iff_eq]; omega
  have e2 : (a + 1).tmod n = 0 := by rw [hlt]; exact Int.tmod_self
  clear h hK
  go_enter Try.func26, Try.ntmps26
  go_wp2_with fail
  rename_i K1 h1
  have HC := hide h1
  clear h1
  go_region
  have HK1 := hide (Blk.drew HK.out)
  have HT1 : Hid (RT w.drew p g ⟨1, n0, n1, r⟩) := hide ⟨HT.out.blk.drew, HT.out.net.drew⟩
  have HO1 := hide ((Only.refl w (fun b => b = q ∨ b = p ∨ b = g)).drew)
  generalize w.drew = wA at HK1 HT1 HO1 ⊢
  refine HC.out _ _ ?_
  clear HC K1 HK HT k0 k1 k2 k3 k4 f1
  obtain ⟨k0, k1, k2, k3, k4⟩ := RK.all HK1.out
  have f1 : wA.frozen? ⟨q, 1, none⟩ = false := Blk.frozen HK1.out 1
  go_wp2_with fail
  rename_i K1 h1
  have HC := hide h1
  clear h1
  go_region
  have HK2 : Hid (RK (wA.setCell ⟨q, 1, none⟩ (.int .i64 0)).drew q n 0 true s m) := hide (Blk.set_ HK1.out 1 _).drew
  have HT2 : Hid (RT (wA.setCell ⟨q, 1, none⟩ (.int .i64 0)).drew p g ⟨1, n0, n1, r⟩) := hide ⟨(Blk.far HT1.out.blk (p := ⟨q, 1, none⟩) (fun e => hqp e.symm) _).drew, (Blk.far HT1.out.net (p := ⟨q, 1, none⟩) (fun e => hqg e.symm) _).drew⟩
  have HO2 := hide (HO1.out.setCell (p := ⟨q, 1, none⟩) (.inl (.inl rfl)) (.int .i64 0)).drew
  generalize (wA.setCell ⟨q, 1, none⟩ (.int .i64 0)).drew = wB at HK2 HT2 HO2 ⊢
  refine HC.out _ _ ?_
  clear HC K1 HK1 HT1 HO1 k0 k1 k2 k3 k4 f1
  obtain ⟨k0, k1, k2, k3, k4⟩ := RK.all HK2.out
  obtain ⟨t0, t1, t2, t3, t4⟩ := RT.all HT2.out
  have f3 : wB.frozen? ⟨q, 3, none⟩ = false := Blk.frozen HK2.out 3
  have sq : IntKind.i64.wrap (s + n0) = wrap64 (s + n0) := i64_w _
  go_wp2_with fail
  rename_i K1 h1
  have HC := hide h1
  clear h1
  go_region
  have HK3 : Hid (RK (wB.setCell ⟨q, 3, none⟩ (.int .i64 (wrap64 (s + n0)))).drew q n 0 true (wrap64 (s + n0)) m) := hide (Blk.set_ HK2.out 3 _).drew
  have HT3 : Hid (RT (wB.setCell ⟨q, 3, none⟩ (.int .i64 (wrap64 (s + n0)))).drew p g ⟨1, n0, n1, r⟩) := hide ⟨(Blk.far HT2.out.blk (p := ⟨q, 3, none⟩) (fun e => hqp e.symm) _).drew, (Blk.far HT2.out.net (p := ⟨q, 3, none⟩) (fun e => hqg e.symm) _).drew⟩
  have HO3 := hide (HO2.out.setCell (p := ⟨q, 3, none⟩) (.inl (.inl rfl)) (.int .i64 (wrap64 (s + n0)))).drew
  generalize (wB.setCell ⟨q, 3, none⟩ (.int .i64 (wrap64 (s + n0)))).drew = wC at HK3 HT3 HO3 ⊢
  refine HC.out _ _ ?_
  clear HC K1 HK2 HT2 HO2 k0 k1 k2 k3 k4 f3 t0 t1 t2 t3 t4 sq
  obtain ⟨k0, k1, k2, k3, k4⟩ := RK.all HK3.out
  obtain ⟨t0, t1, t2, t3, t4⟩ := RT.all HT3.out
  have f4 : wC.frozen? ⟨q, 4, none⟩ = false := Blk.frozen HK3.out 4
  obtain ⟨sv, hsv⟩ : ∃ sv, (wrap64 (s + n0)) = sv := ⟨_, rfl⟩
  have HSv := hide hsv
  rw [hsv] at k3 HK3
  clear hsv
  obtain ⟨m1, hm1⟩ : ∃ m1, Colour.mn m lo = m1 := ⟨_, rfl⟩
  have hq1 : (if lo < m then lo else m) = m1 := hm1
  obtain ⟨mv, hmv⟩ : ∃ mv, Colour.mn m1 r = mv := ⟨_, rfl⟩
  have hq2 : (if r < m1 then r else m1) = mv := hmv
  have hmm : Colour.mn (Colour.mn m lo) r = mv := by rw [hm1, hmv]
  have HMm := hide hmm
  clear hmm hm1 hmv
  go_wp2_with fail
  rename_i K1 h1
  have HC := hide h1
  clear h1
  go_region
  have HK4 : Hid (RK (wC.setCell ⟨q, 4, none⟩ (.int .i64 mv)).drew q n 0 true sv mv) := hide (Blk.set_ HK3.out 4 _).drew
  have HT4 : Hid (RT (wC.setCell ⟨q, 4, none⟩ (.int .i64 mv)).drew p g ⟨1, n0, n1, r⟩) := hide ⟨(Blk.far HT3.out.blk (p := ⟨q, 4, none⟩) (fun e => hqp e.symm) _).drew, (Blk.far HT3.out.net (p := ⟨q, 4, none⟩) (fun e => hqg e.symm) _).drew⟩
  have HO4 := hide (HO3.out.setCell (p := ⟨q, 4, none⟩) (.inl (.inl rfl)) (.int .i64 mv)).drew
  generalize (wC.setCell ⟨q, 4, none⟩ (.int .i64 mv)).drew = wD at HK4 HT4 HO4 ⊢
  refine HC.out _ _ ?_
  clear HC K1 HK3 HT3 HO3 k0 k1 k2 k3 k4 f4 t0 t1 t2 t3 t4
  obtain ⟨k0, k1, k2, k3, k4⟩ := RK.all HK4.out
  have f2 : wD.frozen? ⟨q, 2, none⟩ = false := Blk.frozen HK4.out 2
  have f3 : wD.frozen? ⟨q, 3, none⟩ = false := Blk.frozen HK4.out 3
  have f4 : wD.frozen? ⟨q, 4, none⟩ = false := Blk.frozen HK4.out 4
  have ho := HOh.out
  rw [HSv.out] at ho
  have ho2 : (sv == 0) = false := by simpa using ho
  go_wp2_with fail
  refine bodyPost_ret (v := .tuple #[.int .i64 0, .bool false]) (results_list (rs := [.tmp 6, .tmp 7]) rfl (by simp) (Vals.tmp (Vals.tmp Vals.nil))) rfl ⟨rfl, (Blk.set_ (Blk.set_ HK4.out 3 _) 4 _), ⟨(Blk.far (Blk.far HT4.out.blk (p := ⟨q, 3, none⟩) (fun e => hqp e.symm) _) (p := ⟨q, 4, none⟩) (fun e => hqp e.symm) _), (Blk.far (Blk.far HT4.out.net (p := ⟨q, 3, none⟩) (fun e => hqg e.symm) _) (p := ⟨q, 4, none⟩) (fun e => hqg e.symm) _)⟩, ((HO4.out.setCell (p := ⟨q, 3, none⟩) (.inl (.inl rfl)) _).setCell (p := ⟨q, 4, none⟩) (.inl (.inl rfl)) _)⟩
end Go.Proofs.Ytkchbnmnkcffbaa.Colour
