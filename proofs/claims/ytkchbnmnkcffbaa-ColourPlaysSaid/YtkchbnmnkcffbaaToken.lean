/- The contracts of colour.Token. No law is proved here. -/
import Derived.Test.YtkchbnmnkcffbaaColour
import Derived.Deep.RegionWith
namespace Go.Proofs.Ytkchbnmnkcffbaa.Colour
open Go.RowKit Go.Sort Go.Proofs.Ytkchbnmnkcffbaa.GrK Go.Proofs.Ytkchbnmnkcffbaa.Types Go.Proofs.Ytkchbnmnkcffbaa.Heap Go.Proofs.YtkchbnmnkcffbaaW.PrintWords Go.Proofs.YtkchbnmnkcffbaaW.PrintLast Go.Proofs.YtkchbnmnkcffbaaW.PrintMore
attribute [local go_sem] max2_int min2_int max_two min_two max_three min_three max_four min_four
set_option linter.unusedVariables false
set_option linter.unusedSimpArgs false
abbrev NV : Int := 4611686018427387904
def tok (n a : Int) (cnt : Bool) (s m : Int) : Array Value := #[.int .i64 n, .int .i64 a, .bool cnt, .int .i64 s, .int .i64 m]
def Tk (w : World) (q : Nat) (n a : Int) (cnt : Bool) (s m : Int) : Prop := Blk w q 72 (tok n a cnt s m)
theorem Tk.all {w : World} {q : Nat} {n a s m : Int} {cnt : Bool} (h : Tk w q n a cnt s m) : w.cell? ⟨q, 0, none⟩ = some (.int .i64 n) ∧ w.cell? ⟨q, 1, none⟩ = some (.int .i64 a) ∧ w.cell? ⟨q, 2, none⟩ = some (.bool cnt) ∧ w.cell? ⟨q, 3, none⟩ = some (.int .i64 s) ∧ w.cell? ⟨q, 4, none⟩ = some (.int .i64 m) :=
  ⟨Blk.cell h 0, Blk.cell h 1, Blk.cell h 2, Blk.cell h 3, Blk.cell h 4⟩
theorem newtoken_ok (n : Int) (h1 : 1 ≤ n) (h2 : n ≤ 16) (w : World) : Calls Try.prog 15 #[.int .i64 n] w fun e w' => e = .returned (.tuple #[.pointer (some ⟨w.heap.size, 0, none⟩), .int .i64 0]) ∧ Tk w' w.heap.size n 0 false 0 NV ∧ Below w.heap.size w w' := by
  have HB := hide ((Below.refl w.heap.size w).alloc (Nat.le_refl _) (.cells (tok n 0 false 0 NV) 72))
  have HN := hide (Blk.new w 72 (tok n 0 false 0 NV))
  unfold tok at HB HN
  have g1 : ¬ n < 1 := by omega
  have g2 : ¬ 16 < n := by omega
  clear h1 h2
  go_enter Try.func15, Try.ntmps15
  go_wp2
  go_ret2
  exact ⟨rfl, HN.out, HB.out⟩
theorem newtoken_bad (n : Int) (h : n < 1 ∨ 16 < n) (w : World) : Calls Try.prog 15 #[.int .i64 n] w fun e w' => e = .returned (.tuple #[.pointer none, .int .i64 1]) ∧ w' = w := by
  by_cases h1 : n < 1
  · clear h
    go_enter Try.func15, Try.ntmps15
    go_wp2
    go_ret2
    exact ⟨rfl, rfl⟩
  · have h2 : 16 < n := by omega
    clear h
    go_enter Try.func15, Try.ntmps15
    go_wp2
    go_ret2
    exact ⟨rfl, rfl⟩
theorem tnone_call (w : World) (q : Nat) (n a : Int) (cnt : Bool) (s m : Int) (hn : n ≠ 0) (h : Tk w q n a cnt s m) : Calls Try.prog 29 #[.pointer (some ⟨q, 0, none⟩)] w fun e w' => e = .returned (.bool false) ∧ w' = w := by
  obtain ⟨h0, h1, h2, h3, h4⟩ := h.all
  have hb : (n == 0) = false := by simpa using hn
  clear h hn
  go_enter Try.func29, Try.ntmps29
  go_wp2
  go_ret
  exact ⟨rfl, rfl⟩
theorem at_call (w : World) (q : Nat) (n a : Int) (cnt : Bool) (s m : Int) (hn : n ≠ 0) (h : Tk w q n a cnt s m) : Calls Try.prog 18 #[.pointer (some ⟨q, 0, none⟩)] w fun e w' => e = .returned (.int .i64 a) ∧ w' = w := by
  have H := hide (tnone_call w q n a cnt s m hn h)
  obtain ⟨h0, h1, h2, h3, h4⟩ := h.all
  clear h hn
  go_enter Try.func18, Try.ntmps18
  go_wp2_with (go_at_call 29; refine (unhide H).mono ?_; rintro e w1 ⟨rfl, rfl⟩; clear H)
  go_ret
  exact ⟨rfl, rfl⟩
theorem counting_call (w : World) (q : Nat) (n a : Int) (cnt : Bool) (s m : Int) (hn : n ≠ 0) (h : Tk w q n a cnt s m) : Calls Try.prog 17 #[.pointer (some ⟨q, 0, none⟩)] w fun e w' => e = .returned (.bool cnt) ∧ w' = w := by
  have H := hide (tnone_call w q n a cnt s m hn h)
  obtain ⟨h0, h1, h2, h3, h4⟩ := h.all
  clear h hn
  go_enter Try.func17, Try.ntmps17
  go_wp2_with (go_at_call 29; refine (unhide H).mono ?_; rintro e w1 ⟨rfl, rfl⟩; clear H)
  go_ret
  exact ⟨rfl, rfl⟩
theorem least3_call (w : World) (g : Nat) (a b c : Int) (ha : a ≤ 4611686018427387904) (h : Blk w g 2 #[.int .i64 a, .int .i64 b, .int .i64 c]) :
    Calls Try.prog 28 #[.slice (some ⟨g, 0, none⟩) 3 3] w fun e w' => e = .returned (.int .i64 (mn (mn a b) c)) ∧ w = w' := by
  have h0 := h.cell 0
  have h1 := h.cell 1
  have h2 := h.cell 2
  simp at h0 h1 h2
  clear h
  obtain ⟨n, hn⟩ : ∃ n, mn a b = n := ⟨_, rfl⟩
  rw [hn]
  obtain ⟨n', hn'⟩ : ∃ n', mn n c = n' := ⟨_, rfl⟩
  rw [hn']
  have hm_ : (if a < 4611686018427387904 then a else 4611686018427387904) = a := by split <;> omega
  have hn_ : (if b < a then b else a) = n := hn
  have hn2_ : (if c < n then c else n) = n' := hn'
  clear hn ha hn'
  go_enter Try.func28, Try.ntmps28
  go_wp2
  refine wp_loop_rounds 4 ?_
  rw [rounds_succ]
  go_wp2
  rw [rounds_succ]
  go_wp2
  rw [rounds_succ]
  go_wp2
  rw [rounds_succ]
  go_wp2
  go_ret
  exact ⟨rfl, rfl⟩
theorem turn0_call (w : World) (q p : Nat) (n0 n1 m lo : Int) (h : Tl w p 0 n0 n1 m) : Calls Try.prog 30 #[.pointer (some ⟨q, 0, none⟩), .pointer (some ⟨p, 0, none⟩), .int .i64 lo] w fun e w' => e = .returned (.tuple #[]) ∧ Tl w' p 1 n0 n1 NV ∧ Only w w' (fun b => b = p) := by
  have H := hide (flip0_call w p n0 n1 m h)
  clear h
  go_enter Try.func30, Try.ntmps30
  go_wp2_with (go_at_call 10; refine (unhide H).mono ?_; rintro e w1 ⟨rfl, hT, hO⟩; clear H)
  exact bodyPost_end (results_none rfl _ _ _) rfl ⟨rfl, hT, hO⟩
theorem turn1_call (w : World) (q p : Nat) (n0 n1 m lo : Int) (h : Tl w p 1 n0 n1 m) : Calls Try.prog 30 #[.pointer (some ⟨q, 0, none⟩), .pointer (some ⟨p, 0, none⟩), .int .i64 lo] w fun e w' => e = .returned (.tuple #[]) ∧ Tl w' p 0 n0 n1 NV ∧ Only w w' (fun b => b = p) := by
  have H := hide (flip1_call w p n0 n1 m h)
  clear h
  go_enter Try.func30, Try.ntmps30
  go_wp2_with (go_at_call 10; refine (unhide H).mono ?_; rintro e w1 ⟨rfl, hT, hO⟩; clear H)
  exact bodyPost_end (results_none rfl _ _ _) rfl ⟨rfl, hT, hO⟩
theorem count0_call (w : World) (q p : Nat) (n a s m n0 n1 r lo : Int) (hm : m ≤ 4611686018427387904) (hK : Tk w q n a true s m) (h : Tl w p 0 n0 n1 r) : Calls Try.prog 31 #[.pointer (some ⟨q, 0, none⟩), .pointer (some ⟨p, 0, none⟩), .int .i64 lo] w fun e w' => e = .returned (.tuple #[]) ∧ Tk w' q n a true (wrap64 (s + n1)) (mn (mn m lo) r) ∧ Only w w' (fun b => b = q) := by
  obtain ⟨t0, t1, t2, t3, t4⟩ := h.all
  obtain ⟨k0, k1, k2, k3, k4⟩ := hK.all
  have f3 : w.frozen? ⟨q, 3, none⟩ = false := Blk.frozen hK 3
  have HK := hide hK
  have HT := hide h
  have HM := hide hm
  have HNe : Hid (q ≠ p) := hide (Blk.ne_ hK h (by decide))
  clear h hK hm
  have hb : bits BinOp.xor IntKind.i64 0 1 = 1 := by decide
  go_enter Try.func31, Try.ntmps31
  go_wp2_with fail
  go_region
  go_wp2_with fail
  have HK2 := hide ((Blk.set_ HK.out 3 (.int .i64 (wrap64 (s + n1)))).drew)
  have HT2 := hide ((Blk.far HT.out (p := ⟨q, 3, none⟩) HNe.out.symm (.int .i64 (wrap64 (s + n1)))).drew)
  have HO2 := hide (((Only.refl w (fun b => b = q)).setCell (p := ⟨q, 3, none⟩) (.inl rfl) (.int .i64 (wrap64 (s + n1)))).drew)
  clear HK HT t0 t1 t2 t3 t4 k0 k1 k2 k3 k4 f3
  generalize (w.setCell ⟨q, 3, none⟩ (.int .i64 (wrap64 (s + n1)))).drew = w2 at HK2 HT2 HO2 ⊢
  obtain ⟨t0, t1, t2, t3, t4⟩ := Tl.all HT2.out
  obtain ⟨k0, k1, k2, k3, k4⟩ := Tk.all HK2.out
  have f4 : w2.frozen? ⟨q, 4, none⟩ = false := Blk.frozen HK2.out 4
  have HK3 := hide ((Blk.alloc HK2.out (.cells #[.int .i64 m, .int .i64 lo, .int .i64 r] 2)).drew)
  have HT3 := hide ((Blk.alloc HT2.out (.cells #[.int .i64 m, .int .i64 lo, .int .i64 r] 2)).drew)
  have HO3 := hide ((HO2.out.alloc (.cells #[.int .i64 m, .int .i64 lo, .int .i64 r] 2)).drew)
  have HG3 := hide ((Blk.new w2 2 #[.int .i64 m, .int .i64 lo, .int .i64 r]).drew)
  have k4a : ((w2.alloc (.cells #[.int .i64 m, .int .i64 lo, .int .i64 r] 2)).drew).cell? ⟨q, 4, none⟩ = some (.int .i64 m) := Blk.cell HK3.out 4
  have f4a : ((w2.alloc (.cells #[.int .i64 m, .int .i64 lo, .int .i64 r] 2)).drew).frozen? ⟨q, 4, none⟩ = false := Blk.frozen HK3.out 4
  go_region_with (refine (least3_call _ _ m lo r HM.out HG3.out).mono ?_; rintro e w5 ⟨rfl, rfl⟩)
  all_goals exact bodyPost_end (results_none rfl _ _ _) rfl ⟨rfl, Blk.set_ HK3.out 4 _, HO3.out.setCell (p := ⟨q, 4, none⟩) (.inl rfl) _⟩
theorem count1_call (w : World) (q p : Nat) (n a s m n0 n1 r lo : Int) (hm : m ≤ 4611686018427387904) (hK : Tk w q n a true s m) (h : Tl w p 1 n0 n1 r) : Calls Try.prog 31 #[.pointer (some ⟨q, 0, none⟩), .pointer (some ⟨p, 0, none⟩), .int .i64 lo] w fun e w' => e = .returned (.tuple #[]) ∧ Tk w' q n a true (wrap64 (s + n0)) (mn (mn m lo) r) ∧ Only w w' (fun b => b = q) := by
  obtain ⟨t0, t1, t2, t3, t4⟩ := h.all
  obtain ⟨k0, k1, k2, k3, k4⟩ := hK.all
  have f3 : w.frozen? ⟨q, 3, none⟩ = false := Blk.frozen hK 3
  have HK := hide hK
  have HT := hide h
  have HM := hide hm
  have HNe : Hid (q ≠ p) := hide (Blk.ne_ hK h (by decide))
  clear h hK hm
  have hb : bits BinOp.xor IntKind.i64 1 1 = 0 := by decide
  go_enter Try.func31, Try.ntmps31
  go_wp2_with fail
  go_region
  go_wp2_with fail
  have HK2 := hide ((Blk.set_ HK.out 3 (.int .i64 (wrap64 (s + n0)))).drew)
  have HT2 := hide ((Blk.far HT.out (p := ⟨q, 3, none⟩) HNe.out.symm (.int .i64 (wrap64 (s + n0)))).drew)
  have HO2 := hide (((Only.refl w (fun b => b = q)).setCell (p := ⟨q, 3, none⟩) (.inl rfl) (.int .i64 (wrap64 (s + n0)))).drew)
  clear HK HT t0 t1 t2 t3 t4 k0 k1 k2 k3 k4 f3
  generalize (w.setCell ⟨q, 3, none⟩ (.int .i64 (wrap64 (s + n0)))).drew = w2 at HK2 HT2 HO2 ⊢
  obtain ⟨t0, t1, t2, t3, t4⟩ := Tl.all HT2.out
  obtain ⟨k0, k1, k2, k3, k4⟩ := Tk.all HK2.out
  have f4 : w2.frozen? ⟨q, 4, none⟩ = false := Blk.frozen HK2.out 4
  have HK3 := hide ((Blk.alloc HK2.out (.cells #[.int .i64 m, .int .i64 lo, .int .i64 r] 2)).drew)
  have HT3 := hide ((Blk.alloc HT2.out (.cells #[.int .i64 m, .int .i64 lo, .int .i64 r] 2)).drew)
  have HO3 := hide ((HO2.out.alloc (.cells #[.int .i64 m, .int .i64 lo, .int .i64 r] 2)).drew)
  have HG3 := hide ((Blk.new w2 2 #[.int .i64 m, .int .i64 lo, .int .i64 r]).drew)
  have k4a : ((w2.alloc (.cells #[.int .i64 m, .int .i64 lo, .int .i64 r] 2)).drew).cell? ⟨q, 4, none⟩ = some (.int .i64 m) := Blk.cell HK3.out 4
  have f4a : ((w2.alloc (.cells #[.int .i64 m, .int .i64 lo, .int .i64 r] 2)).drew).frozen? ⟨q, 4, none⟩ = false := Blk.frozen HK3.out 4
  go_region_with (refine (least3_call _ _ m lo r HM.out HG3.out).mono ?_; rintro e w5 ⟨rfl, rfl⟩)
  all_goals exact bodyPost_end (results_none rfl _ _ _) rfl ⟨rfl, Blk.set_ HK3.out 4 _, HO3.out.setCell (p := ⟨q, 4, none⟩) (.inl rfl) _⟩
/-- What a visit leaves: the token at q, the tally at p. -/
def VLeft (w : World) (q p : Nat) (n a : Int) (cnt : Bool) (s m : Int) (c n0 n1 r : Int) (told : Int) (over : Bool) : Ending → World → Prop := fun e w' =>
  e = .returned (.tuple #[.int .i64 told, .bool over, .int .i64 0]) ∧ Tk w' q n a cnt s m ∧ Tl w' p c n0 n1 r ∧ Only w w' (fun b => b = q ∨ b = p)
set_option maxHeartbeats 1000000 in
set_option maxHeartbeats 1000000 in
set_option maxHeartbeats 1000000 in
set_option maxHeartbeats 1000000 in
set_option maxHeartbeats 1000000 in
set_option maxHeartbeats 1000000 in
theorem visit_turn0 (w : World) (q p : Nat) (n a s m n0 n1 r lo : Int) (hn : n ≠ 0) (ha : 0 ≤ a ∧ a < 16) (hlt : a + 1 < n) (hK : Tk w q n a false s m) (h : Tl w p 0 n0 n1 r) : Calls Try.prog 16 #[.pointer (some ⟨q, 0, none⟩), .pointer (some ⟨p, 0, none⟩), .int .i64 lo] w (VLeft w q p n (a + 1) false s m 1 n0 n1 NV 0 false) := by
  have HN := hide (tnone_call w q n a false s m hn hK)
  have HN2 := hide (none_call w p 0 n0 n1 r h)
  obtain ⟨k0, k1, k2, k3, k4⟩ := hK.all
  have HK := hide hK
  have HT := hide h
  have HTu := hide (turn0_call w q p n0 n1 r lo h)
  have HNe : Hid (q ≠ p) := hide (Blk.ne_ hK h (by decide))
  obtain ⟨a1, ha1⟩ : ∃ a1, a + 1 = a1 := ⟨_, rfl⟩
  have hw1 : wrap64 (a + 1) = a1 := by rw [← ha1]; unfold wrap64; omega
  rw [ha1] at hlt
  rw [ha1]
  clear h hK ha1 ha
  go_enter Try.func16, Try.ntmps16
  go_wp2_with (first | (go_at_call 29; refine (unhide HN).mono ?_; rintro e w1 ⟨rfl, rfl⟩) | (go_at_call 27; refine (unhide HN2).mono ?_; rintro e w1 ⟨rfl, rfl⟩))
  rename_i wA
  refine HTu.out.mono ?_
  rintro e w2 ⟨rfl, hP, hO⟩
  have HT2 := hide hP
  have HK2 := hide (Blk.only HK.out hO (fun e => HNe.out e))
  have HO2 := hide (hO.mono (T := fun b => b = q ∨ b = p) (fun i e => .inr e))
  clear hP hO HTu HN HN2 HK HT k0 k1 k2 k3 k4
  obtain ⟨k0, k1, k2, k3, k4⟩ := Tk.all HK2.out
  have f1 : w2.frozen? ⟨q, 1, none⟩ = false := Blk.frozen HK2.out 1
  have f2 : w2.frozen? ⟨q, 2, none⟩ = false := Blk.frozen HK2.out 2
  have f3 : w2.frozen? ⟨q, 3, none⟩ = false := Blk.frozen HK2.out 3
  have f4 : w2.frozen? ⟨q, 4, none⟩ = false := Blk.frozen HK2.out 4
  go_wp2_with fail
  go_region
  go_wp2_with fail
  all_goals (
    refine bodyPost_ret (v := .tuple #[.int .i64 0, .bool false, .int .i64 0]) (results_list (rs := [.tmp 6, .tmp 7, .tmp 8]) rfl (by simp) (Vals.tmp (Vals.tmp (Vals.tmp Vals.nil)))) rfl ?_
    exact ⟨rfl, (Blk.set_ HK2.out 1 _).drew, (Blk.far HT2.out (p := ⟨q, 1, none⟩) (fun e => HNe.out e.symm) _).drew, (HO2.out.setCell (p := ⟨q, 1, none⟩) (.inl (.inl rfl)) _).drew⟩)
set_option maxHeartbeats 1000000 in
theorem visit_turn0L (w : World) (q p : Nat) (n a s m n0 n1 r lo : Int) (hn : n ≠ 0) (ha : 0 ≤ a ∧ a < 16) (hlt : a + 1 = n) (hK : Tk w q n a false s m) (h : Tl w p 0 n0 n1 r) : Calls Try.prog 16 #[.pointer (some ⟨q, 0, none⟩), .pointer (some ⟨p, 0, none⟩), .int .i64 lo] w (VLeft w q p n 0 true 0 NV 1 n0 n1 NV 0 false) := by
  have HN := hide (tnone_call w q n a false s m hn hK)
  have HN2 := hide (none_call w p 0 n0 n1 r h)
  obtain ⟨k0, k1, k2, k3, k4⟩ := hK.all
  have HK := hide hK
  have HT := hide h
  have HTu := hide (turn0_call w q p n0 n1 r lo h)
  have HNe : Hid (q ≠ p) := hide (Blk.ne_ hK h (by decide))
  obtain ⟨a1, ha1⟩ : ∃ a1, a + 1 = a1 := ⟨_, rfl⟩
  have hw1 : wrap64 (a + 1) = a1 := by rw [← ha1]; unfold wrap64; omega
  rw [ha1] at hlt
  have hge : ¬ a1 < n := by omega
  clear h hK ha1 ha
  go_enter Try.func16, Try.ntmps16
  go_wp2_with (first | (go_at_call 29; refine (unhide HN).mono ?_; rintro e w1 ⟨rfl, rfl⟩) | (go_at_call 27; refine (unhide HN2).mono ?_; rintro e w1 ⟨rfl, rfl⟩))
  rename_i wA
  refine HTu.out.mono ?_
  rintro e w2 ⟨rfl, hP, hO⟩
  have HT2 := hide hP
  have HK2 := hide (Blk.only HK.out hO (fun e => HNe.out e))
  have HO2 := hide (hO.mono (T := fun b => b = q ∨ b = p) (fun i e => .inr e))
  clear hP hO HTu HN HN2 HK HT k0 k1 k2 k3 k4
  obtain ⟨k0, k1, k2, k3, k4⟩ := Tk.all HK2.out
  have f1 : w2.frozen? ⟨q, 1, none⟩ = false := Blk.frozen HK2.out 1
  have f2 : w2.frozen? ⟨q, 2, none⟩ = false := Blk.frozen HK2.out 2
  have f3 : w2.frozen? ⟨q, 3, none⟩ = false := Blk.frozen HK2.out 3
  have f4 : w2.frozen? ⟨q, 4, none⟩ = false := Blk.frozen HK2.out 4
  go_wp2_with fail
  rename_i K1 h1
  have HC := hide h1
  clear h1
  go_region
  have HK3 : Hid (Tk (w2.setCell ⟨q, 1, none⟩ (.int .i64 n)).drew q n n false s m) := hide (Blk.set_ HK2.out 1 (.int .i64 n)).drew
  have HT3 : Hid (Tl (w2.setCell ⟨q, 1, none⟩ (.int .i64 n)).drew p 1 n0 n1 NV) := hide (Blk.far HT2.out (p := ⟨q, 1, none⟩) (fun e => HNe.out e.symm) _).drew
  have HO3 := hide (HO2.out.setCell (p := ⟨q, 1, none⟩) (.inl (.inl rfl)) (.int .i64 n)).drew
  generalize (w2.setCell ⟨q, 1, none⟩ (.int .i64 n)).drew = w3 at HK3 HT3 HO3 ⊢
  refine HC.out _ _ ?_
  clear HC K1 HK2 HT2 HO2 k0 k1 k2 k3 k4 f1 f2 f3 f4
  obtain ⟨k0, k1, k2, k3, k4⟩ := Tk.all HK3.out
  go_wp2_with fail
  rename_i K1 h1
  have HC := hide h1
  clear h1
  go_region
  have HK4 := hide HK3.out.drew
  have HT4 := hide HT3.out.drew
  have HO4 := hide HO3.out.drew
  generalize w3.drew = w4 at HK4 HT4 HO4 ⊢
  refine HC.out _ _ ?_
  clear HC K1 HK3 HT3 HO3 k0 k1 k2 k3 k4
  obtain ⟨k0, k1, k2, k3, k4⟩ := Tk.all HK4.out
  have f1 : w4.frozen? ⟨q, 1, none⟩ = false := Blk.frozen HK4.out 1
  have f2 : w4.frozen? ⟨q, 2, none⟩ = false := Blk.frozen HK4.out 2
  have f3 : w4.frozen? ⟨q, 3, none⟩ = false := Blk.frozen HK4.out 3
  have f4 : w4.frozen? ⟨q, 4, none⟩ = false := Blk.frozen HK4.out 4
  go_wp2_with fail
  refine bodyPost_ret (v := .tuple #[.int .i64 0, .bool false, .int .i64 0]) (results_list (rs := [.tmp 6, .tmp 7, .tmp 8]) rfl (by simp) (Vals.tmp (Vals.tmp (Vals.tmp Vals.nil)))) rfl ?_
  exact ⟨rfl, Blk.set_ (Blk.set_ (Blk.set_ (Blk.set_ HK4.out 1 _) 2 _) 3 _) 4 _, Blk.far (Blk.far (Blk.far (Blk.far HT4.out (p := ⟨q, 1, none⟩) (fun e => HNe.out e.symm) _) (p := ⟨q, 2, none⟩) (fun e => HNe.out e.symm) _) (p := ⟨q, 3, none⟩) (fun e => HNe.out e.symm) _) (p := ⟨q, 4, none⟩) (fun e => HNe.out e.symm) _, (((HO4.out.setCell (p := ⟨q, 1, none⟩) (.inl (.inl rfl)) _).setCell (p := ⟨q, 2, none⟩) (.inl (.inl rfl)) _).setCell (p := ⟨q, 3, none⟩) (.inl (.inl rfl)) _).setCell (p := ⟨q, 4, none⟩) (.inl (.inl rfl)) _⟩
set_option maxHeartbeats 1000000 in
theorem visit_count0 (w : World) (q p : Nat) (n a s m n0 n1 r lo : Int) (hn : n ≠ 0) (ha : 0 ≤ a ∧ a < 16) (hlt : a + 1 < n) (hm : m ≤ 4611686018427387904) (hK : Tk w q n a true s m) (h : Tl w p 0 n0 n1 r) : Calls Try.prog 16 #[.pointer (some ⟨q, 0, none⟩), .pointer (some ⟨p, 0, none⟩), .int .i64 lo] w (VLeft w q p n (a + 1) true (wrap64 (s + n1)) (mn (mn m lo) r) 0 n0 n1 r 0 false) := by
  have HN := hide (tnone_call w q n a true s m hn hK)
  have HN2 := hide (none_call w p 0 n0 n1 r h)
  obtain ⟨k0, k1, k2, k3, k4⟩ := hK.all
  have HK := hide hK
  have HT := hide h
  have HTu := hide (count0_call w q p n a s m n0 n1 r lo hm hK h)
  have HNe : Hid (q ≠ p) := hide (Blk.ne_ hK h (by decide))
  obtain ⟨s2, hs2⟩ : ∃ s2, wrap64 (s + n1) = s2 := ⟨_, rfl⟩
  obtain ⟨m2, hm2⟩ : ∃ m2, mn (mn m lo) r = m2 := ⟨_, rfl⟩
  rw [hs2, hm2] at HTu
  rw [hs2, hm2]
  clear hs2 hm2
  obtain ⟨a1, ha1⟩ : ∃ a1, a + 1 = a1 := ⟨_, rfl⟩
  have hw1 : wrap64 (a + 1) = a1 := by rw [← ha1]; unfold wrap64; omega
  rw [ha1] at hlt
  rw [ha1]
  clear h hK ha1 ha
  go_enter Try.func16, Try.ntmps16
  go_wp2_with (first | (go_at_call 29; refine (unhide HN).mono ?_; rintro e w1 ⟨rfl, rfl⟩) | (go_at_call 27; refine (unhide HN2).mono ?_; rintro e w1 ⟨rfl, rfl⟩))
  rename_i wA
  refine HTu.out.mono ?_
  rintro e w2 ⟨rfl, hP, hO⟩
  have HK2 : Hid (Tk w2 q n a true s2 m2) := hide hP
  have HT2 := hide (Blk.only HT.out hO (fun e => HNe.out e.symm))
  have HO2 := hide (hO.mono (T := fun b => b = q ∨ b = p) (fun i e => .inl e))
  clear hP hO HTu HN HN2 HK HT k0 k1 k2 k3 k4
  obtain ⟨k0, k1, k2, k3, k4⟩ := Tk.all HK2.out
  have f1 : w2.frozen? ⟨q, 1, none⟩ = false := Blk.frozen HK2.out 1
  have f2 : w2.frozen? ⟨q, 2, none⟩ = false := Blk.frozen HK2.out 2
  have f3 : w2.frozen? ⟨q, 3, none⟩ = false := Blk.frozen HK2.out 3
  have f4 : w2.frozen? ⟨q, 4, none⟩ = false := Blk.frozen HK2.out 4
  go_wp2_with fail
  go_region
  go_wp2_with fail
  all_goals (
    refine bodyPost_ret (v := .tuple #[.int .i64 0, .bool false, .int .i64 0]) (results_list (rs := [.tmp 6, .tmp 7, .tmp 8]) rfl (by simp) (Vals.tmp (Vals.tmp (Vals.tmp Vals.nil)))) rfl ?_
    exact ⟨rfl, (Blk.set_ HK2.out 1 _).drew, (Blk.far HT2.out (p := ⟨q, 1, none⟩) (fun e => HNe.out e.symm) _).drew, (HO2.out.setCell (p := ⟨q, 1, none⟩) (.inl (.inl rfl)) _).drew⟩)
set_option maxHeartbeats 1000000 in
theorem visit_count0LY (w : World) (q p : Nat) (n a s m n0 n1 r lo : Int) (hn : n ≠ 0) (ha : 0 ≤ a ∧ a < 16) (hlt : a + 1 = n) (hm : m ≤ 4611686018427387904) (ho : wrap64 (s + n1) = 0) (hK : Tk w q n a true s m) (h : Tl w p 0 n0 n1 r) : Calls Try.prog 16 #[.pointer (some ⟨q, 0, none⟩), .pointer (some ⟨p, 0, none⟩), .int .i64 lo] w (VLeft w q p n 0 false 0 NV 0 n0 n1 r (mn (mn m lo) r) true) := by
  have HN := hide (tnone_call w q n a true s m hn hK)
  have HN2 := hide (none_call w p 0 n0 n1 r h)
  obtain ⟨k0, k1, k2, k3, k4⟩ := hK.all
  have HK := hide hK
  have HT := hide h
  have HTu := hide (count0_call w q p n a s m n0 n1 r lo hm hK h)
  have HNe : Hid (q ≠ p) := hide (Blk.ne_ hK h (by decide))
  obtain ⟨s2, hs2⟩ : ∃ s2, wrap64 (s + n1) = s2 := ⟨_, rfl⟩
  obtain ⟨m2, hm2⟩ : ∃ m2, mn (mn m lo) r = m2 := ⟨_, rfl⟩
  rw [hs2, hm2] at HTu
  rw [hs2] at ho
  rw [hm2]
  subst ho
  clear hs2 hm2
  obtain ⟨a1, ha1⟩ : ∃ a1, a + 1 = a1 := ⟨_, rfl⟩
  have hw1 : wrap64 (a + 1) = a1 := by rw [← ha1]; unfold wrap64; omega
  rw [ha1] at hlt
  have hge : ¬ a1 < n := by omega
  clear h hK ha1 ha
  go_enter Try.func16, Try.ntmps16
  go_wp2_with (first | (go_at_call 29; refine (unhide HN).mono ?_; rintro e w1 ⟨rfl, rfl⟩) | (go_at_call 27; refine (unhide HN2).mono ?_; rintro e w1 ⟨rfl, rfl⟩))
  rename_i wA
  refine HTu.out.mono ?_
  rintro e w2 ⟨rfl, hP, hO⟩
  have HK2 : Hid (Tk w2 q n a true 0 m2) := hide hP
  have HT2 := hide (Blk.only HT.out hO (fun e => HNe.out e.symm))
  have HO2 := hide (hO.mono (T := fun b => b = q ∨ b = p) (fun i e => .inl e))
  clear hP hO HTu HN HN2 HK HT k0 k1 k2 k3 k4
  obtain ⟨k0, k1, k2, k3, k4⟩ := Tk.all HK2.out
  have f1 : w2.frozen? ⟨q, 1, none⟩ = false := Blk.frozen HK2.out 1
  have f2 : w2.frozen? ⟨q, 2, none⟩ = false := Blk.frozen HK2.out 2
  have f3 : w2.frozen? ⟨q, 3, none⟩ = false := Blk.frozen HK2.out 3
  have f4 : w2.frozen? ⟨q, 4, none⟩ = false := Blk.frozen HK2.out 4
  go_wp2_with fail
  rename_i K1 h1
  have HC := hide h1
  clear h1
  go_region
  have HK3 : Hid (Tk (w2.setCell ⟨q, 1, none⟩ (.int .i64 n)).drew q n n true 0 m2) := hide (Blk.set_ HK2.out 1 (.int .i64 n)).drew
  have HT3 : Hid (Tl (w2.setCell ⟨q, 1, none⟩ (.int .i64 n)).drew p 0 n0 n1 r) := hide (Blk.far HT2.out (p := ⟨q, 1, none⟩) (fun e => HNe.out e.symm) _).drew
  have HO3 := hide (HO2.out.setCell (p := ⟨q, 1, none⟩) (.inl (.inl rfl)) (.int .i64 n)).drew
  generalize (w2.setCell ⟨q, 1, none⟩ (.int .i64 n)).drew = w3 at HK3 HT3 HO3 ⊢
  refine HC.out _ _ ?_
  clear HC K1 HK2 HT2 HO2 k0 k1 k2 k3 k4 f1 f2 f3 f4
  obtain ⟨k0, k1, k2, k3, k4⟩ := Tk.all HK3.out
  go_wp2_with fail
  rename_i K1 h1
  have HC := hide h1
  clear h1
  go_region
  have HK4 := hide HK3.out.drew
  have HT4 := hide HT3.out.drew
  have HO4 := hide HO3.out.drew
  generalize w3.drew = w4 at HK4 HT4 HO4 ⊢
  refine HC.out _ _ ?_
  clear HC K1 HK3 HT3 HO3 k0 k1 k2 k3 k4
  obtain ⟨k0, k1, k2, k3, k4⟩ := Tk.all HK4.out
  have f1 : w4.frozen? ⟨q, 1, none⟩ = false := Blk.frozen HK4.out 1
  have f2 : w4.frozen? ⟨q, 2, none⟩ = false := Blk.frozen HK4.out 2
  have f3 : w4.frozen? ⟨q, 3, none⟩ = false := Blk.frozen HK4.out 3
  have f4 : w4.frozen? ⟨q, 4, none⟩ = false := Blk.frozen HK4.out 4
  go_wp2_with fail
  refine bodyPost_ret (v := .tuple #[.int .i64 m2, .bool true, .int .i64 0]) (results_list (rs := [.tmp 6, .tmp 7, .tmp 8]) rfl (by simp) (Vals.tmp (Vals.tmp (Vals.tmp Vals.nil)))) rfl ?_
  exact ⟨rfl, Blk.set_ (Blk.set_ (Blk.set_ (Blk.set_ HK4.out 1 _) 2 _) 3 _) 4 _, Blk.far (Blk.far (Blk.far (Blk.far HT4.out (p := ⟨q, 1, none⟩) (fun e => HNe.out e.symm) _) (p := ⟨q, 2, none⟩) (fun e => HNe.out e.symm) _) (p := ⟨q, 3, none⟩) (fun e => HNe.out e.symm) _) (p := ⟨q, 4, none⟩) (fun e => HNe.out e.symm) _, (((HO4.out.setCell (p := ⟨q, 1, none⟩) (.inl (.inl rfl)) _).setCell (p := ⟨q, 2, none⟩) (.inl (.inl rfl)) _).setCell (p := ⟨q, 3, none⟩) (.inl (.inl rfl)) _).setCell (p := ⟨q, 4, none⟩) (.inl (.inl rfl)) _⟩
set_option maxHeartbeats 1000000 in
theorem visit_count0LN (w : World) (q p : Nat) (n a s m n0 n1 r lo : Int) (hn : n ≠ 0) (ha : 0 ≤ a ∧ a < 16) (hlt : a + 1 = n) (hm : m ≤ 4611686018427387904) (ho : wrap64 (s + n1) ≠ 0) (hK : Tk w q n a true s m) (h : Tl w p 0 n0 n1 r) : Calls Try.prog 16 #[.pointer (some ⟨q, 0, none⟩), .pointer (some ⟨p, 0, none⟩), .int .i64 lo] w (VLeft w q p n 0 true 0 NV 0 n0 n1 r 0 false) := by
  have HN := hide (tnone_call w q n a true s m hn hK)
  have HN2 := hide (none_call w p 0 n0 n1 r h)
  obtain ⟨k0, k1, k2, k3, k4⟩ := hK.all
  have HK := hide hK
  have HT := hide h
  have HTu := hide (count0_call w q p n a s m n0 n1 r lo hm hK h)
  have HNe : Hid (q ≠ p) := hide (Blk.ne_ hK h (by decide))
  obtain ⟨s2, hs2⟩ : ∃ s2, wrap64 (s + n1) = s2 := ⟨_, rfl⟩
  obtain ⟨m2, hm2⟩ : ∃ m2, mn (mn m lo) r = m2 := ⟨_, rfl⟩
  rw [hs2, hm2] at HTu
  rw [hs2] at ho
  have ho2 : (s2 == 0) = false := by simpa using ho
  clear hs2 hm2
  obtain ⟨a1, ha1⟩ : ∃ a1, a + 1 = a1 := ⟨_, rfl⟩
  have hw1 : wrap64 (a + 1) = a1 := by rw [← ha1]; unfold wrap64; omega
  rw [ha1] at hlt
  have hge : ¬ a1 < n := by omega
  clear h hK ha1 ha
  go_enter Try.func16, Try.ntmps16
  go_wp2_with (first | (go_at_call 29; refine (unhide HN).mono ?_; rintro e w1 ⟨rfl, rfl⟩) | (go_at_call 27; refine (unhide HN2).mono ?_; rintro e w1 ⟨rfl, rfl⟩))
  rename_i wA
  refine HTu.out.mono ?_
  rintro e w2 ⟨rfl, hP, hO⟩
  have HK2 : Hid (Tk w2 q n a true s2 m2) := hide hP
  have HT2 := hide (Blk.only HT.out hO (fun e => HNe.out e.symm))
  have HO2 := hide (hO.mono (T := fun b => b = q ∨ b = p) (fun i e => .inl e))
  clear hP hO HTu HN HN2 HK HT k0 k1 k2 k3 k4
  obtain ⟨k0, k1, k2, k3, k4⟩ := Tk.all HK2.out
  have f1 : w2.frozen? ⟨q, 1, none⟩ = false := Blk.frozen HK2.out 1
  have f2 : w2.frozen? ⟨q, 2, none⟩ = false := Blk.frozen HK2.out 2
  have f3 : w2.frozen? ⟨q, 3, none⟩ = false := Blk.frozen HK2.out 3
  have f4 : w2.frozen? ⟨q, 4, none⟩ = false := Blk.frozen HK2.out 4
  go_wp2_with fail
  rename_i K1 h1
  have HC := hide h1
  clear h1
  go_region
  have HK3 : Hid (Tk (w2.setCell ⟨q, 1, none⟩ (.int .i64 n)).drew q n n true s2 m2) := hide (Blk.set_ HK2.out 1 (.int .i64 n)).drew
  have HT3 : Hid (Tl (w2.setCell ⟨q, 1, none⟩ (.int .i64 n)).drew p 0 n0 n1 r) := hide (Blk.far HT2.out (p := ⟨q, 1, none⟩) (fun e => HNe.out e.symm) _).drew
  have HO3 := hide (HO2.out.setCell (p := ⟨q, 1, none⟩) (.inl (.inl rfl)) (.int .i64 n)).drew
  generalize (w2.setCell ⟨q, 1, none⟩ (.int .i64 n)).drew = w3 at HK3 HT3 HO3 ⊢
  refine HC.out _ _ ?_
  clear HC K1 HK2 HT2 HO2 k0 k1 k2 k3 k4 f1 f2 f3 f4
  obtain ⟨k0, k1, k2, k3, k4⟩ := Tk.all HK3.out
  go_wp2_with fail
  rename_i K1 h1
  have HC := hide h1
  clear h1
  go_region
  have HK4 := hide HK3.out.drew
  have HT4 := hide HT3.out.drew
  have HO4 := hide HO3.out.drew
  generalize w3.drew = w4 at HK4 HT4 HO4 ⊢
  refine HC.out _ _ ?_
  clear HC K1 HK3 HT3 HO3 k0 k1 k2 k3 k4
  obtain ⟨k0, k1, k2, k3, k4⟩ := Tk.all HK4.out
  have f1 : w4.frozen? ⟨q, 1, none⟩ = false := Blk.frozen HK4.out 1
  have f2 : w4.frozen? ⟨q, 2, none⟩ = false := Blk.frozen HK4.out 2
  have f3 : w4.frozen? ⟨q, 3, none⟩ = false := Blk.frozen HK4.out 3
  have f4 : w4.frozen? ⟨q, 4, none⟩ = false := Blk.frozen HK4.out 4
  go_wp2_with fail
  refine bodyPost_ret (v := .tuple #[.int .i64 0, .bool false, .int .i64 0]) (results_list (rs := [.tmp 6, .tmp 7, .tmp 8]) rfl (by simp) (Vals.tmp (Vals.tmp (Vals.tmp Vals.nil)))) rfl ?_
  exact ⟨rfl, Blk.set_ (Blk.set_ (Blk.set_ (Blk.set_ HK4.out 1 _) 2 _) 3 _) 4 _, Blk.far (Blk.far (Blk.far (Blk.far HT4.out (p := ⟨q, 1, none⟩) (fun e => HNe.out e.symm) _) (p := ⟨q, 2, none⟩) (fun e => HNe.out e.symm) _) (p := ⟨q, 3, none⟩) (fun e => HNe.out e.symm) _) (p := ⟨q, 4, none⟩) (fun e => HNe.out e.symm) _, (((HO4.out.setCell (p := ⟨q, 1, none⟩) (.inl (.inl rfl)) _).setCell (p := ⟨q, 2, none⟩) (.inl (.inl rfl)) _).setCell (p := ⟨q, 3, none⟩) (.inl (.inl rfl)) _).setCell (p := ⟨q, 4, none⟩) (.inl (.inl rfl)) _⟩
set_option maxHeartbeats 1000000 in
theorem visit_turn1 (w : World) (q p : Nat) (n a s m n0 n1 r lo : Int) (hn : n ≠ 0) (ha : 0 ≤ a ∧ a < 16) (hlt : a + 1 < n) (hK : Tk w q n a false s m) (h : Tl w p 1 n0 n1 r) : Calls Try.prog 16 #[.pointer (some ⟨q, 0, none⟩), .pointer (some ⟨p, 0, none⟩), .int .i64 lo] w (VLeft w q p n (a + 1) false s m 0 n0 n1 NV 0 false) := by
  have HN := hide (tnone_call w q n a false s m hn hK)
  have HN2 := hide (none_call w p 1 n0 n1 r h)
  obtain ⟨k0, k1, k2, k3, k4⟩ := hK.all
  have HK := hide hK
  have HT := hide h
  have HTu := hide (turn1_call w q p n0 n1 r lo h)
  have HNe : Hid (q ≠ p) := hide (Blk.ne_ hK h (by decide))
  obtain ⟨a1, ha1⟩ : ∃ a1, a + 1 = a1 := ⟨_, rfl⟩
  have hw1 : wrap64 (a + 1) = a1 := by rw [← ha1]; unfold wrap64; omega
  rw [ha1] at hlt
  rw [ha1]
  clear h hK ha1 ha
  go_enter Try.func16, Try.ntmps16
  go_wp2_with (first | (go_at_call 29; refine (unhide HN).mono ?_; rintro e w1 ⟨rfl, rfl⟩) | (go_at_call 27; refine (unhide HN2).mono ?_; rintro e w1 ⟨rfl, rfl⟩))
  rename_i wA
  refine HTu.out.mono ?_
  rintro e w2 ⟨rfl, hP, hO⟩
  have HT2 := hide hP
  have HK2 := hide (Blk.only HK.out hO (fun e => HNe.out e))
  have HO2 := hide (hO.mono (T := fun b => b = q ∨ b = p) (fun i e => .inr e))
  clear hP hO HTu HN HN2 HK HT k0 k1 k2 k3 k4
  obtain ⟨k0, k1, k2, k3, k4⟩ := Tk.all HK2.out
  have f1 : w2.frozen? ⟨q, 1, none⟩ = false := Blk.frozen HK2.out 1
  have f2 : w2.frozen? ⟨q, 2, none⟩ = false := Blk.frozen HK2.out 2
  have f3 : w2.frozen? ⟨q, 3, none⟩ = false := Blk.frozen HK2.out 3
  have f4 : w2.frozen? ⟨q, 4, none⟩ = false := Blk.frozen HK2.out 4
  go_wp2_with fail
  go_region
  go_wp2_with fail
  all_goals (
    refine bodyPost_ret (v := .tuple #[.int .i64 0, .bool false, .int .i64 0]) (results_list (rs := [.tmp 6, .tmp 7, .tmp 8]) rfl (by simp) (Vals.tmp (Vals.tmp (Vals.tmp Vals.nil)))) rfl ?_
    exact ⟨rfl, (Blk.set_ HK2.out 1 _).drew, (Blk.far HT2.out (p := ⟨q, 1, none⟩) (fun e => HNe.out e.symm) _).drew, (HO2.out.setCell (p := ⟨q, 1, none⟩) (.inl (.inl rfl)) _).drew⟩)
set_option maxHeartbeats 1000000 in
theorem visit_turn1L (w : World) (q p : Nat) (n a s m n0 n1 r lo : Int) (hn : n ≠ 0) (ha : 0 ≤ a ∧ a < 16) (hlt : a + 1 = n) (hK : Tk w q n a false s m) (h : Tl w p 1 n0 n1 r) : Calls Try.prog 16 #[.pointer (some ⟨q, 0, none⟩), .pointer (some ⟨p, 0, none⟩), .int .i64 lo] w (VLeft w q p n 0 true 0 NV 0 n0 n1 NV 0 false) := by
  have HN := hide (tnone_call w q n a false s m hn hK)
  have HN2 := hide (none_call w p 1 n0 n1 r h)
  obtain ⟨k0, k1, k2, k3, k4⟩ := hK.all
  have HK := hide hK
  have HT := hide h
  have HTu := hide (turn1_call w q p n0 n1 r lo h)
  have HNe : Hid (q ≠ p) := hide (Blk.ne_ hK h (by decide))
  obtain ⟨a1, ha1⟩ : ∃ a1, a + 1 = a1 := ⟨_, rfl⟩
  have hw1 : wrap64 (a + 1) = a1 := by rw [← ha1]; unfold wrap64; omega
  rw [ha1] at hlt
  have hge : ¬ a1 < n := by omega
  clear h hK ha1 ha
  go_enter Try.func16, Try.ntmps16
  go_wp2_with (first | (go_at_call 29; refine (unhide HN).mono ?_; rintro e w1 ⟨rfl, rfl⟩) | (go_at_call 27; refine (unhide HN2).mono ?_; rintro e w1 ⟨rfl, rfl⟩))
  rename_i wA
  refine HTu.out.mono ?_
  rintro e w2 ⟨rfl, hP, hO⟩
  have HT2 := hide hP
  have HK2 := hide (Blk.only HK.out hO (fun e => HNe.out e))
  have HO2 := hide (hO.mono (T := fun b => b = q ∨ b = p) (fun i e => .inr e))
  clear hP hO HTu HN HN2 HK HT k0 k1 k2 k3 k4
  obtain ⟨k0, k1, k2, k3, k4⟩ := Tk.all HK2.out
  have f1 : w2.frozen? ⟨q, 1, none⟩ = false := Blk.frozen HK2.out 1
  have f2 : w2.frozen? ⟨q, 2, none⟩ = false := Blk.frozen HK2.out 2
  have f3 : w2.frozen? ⟨q, 3, none⟩ = false := Blk.frozen HK2.out 3
  have f4 : w2.frozen? ⟨q, 4, none⟩ = false := Blk.frozen HK2.out 4
  go_wp2_with fail
  rename_i K1 h1
  have HC := hide h1
  clear h1
  go_region
  have HK3 : Hid (Tk (w2.setCell ⟨q, 1, none⟩ (.int .i64 n)).drew q n n false s m) := hide (Blk.set_ HK2.out 1 (.int .i64 n)).drew
  have HT3 : Hid (Tl (w2.setCell ⟨q, 1, none⟩ (.int .i64 n)).drew p 0 n0 n1 NV) := hide (Blk.far HT2.out (p := ⟨q, 1, none⟩) (fun e => HNe.out e.symm) _).drew
  have HO3 := hide (HO2.out.setCell (p := ⟨q, 1, none⟩) (.inl (.inl rfl)) (.int .i64 n)).drew
  generalize (w2.setCell ⟨q, 1, none⟩ (.int .i64 n)).drew = w3 at HK3 HT3 HO3 ⊢
  refine HC.out _ _ ?_
  clear HC K1 HK2 HT2 HO2 k0 k1 k2 k3 k4 f1 f2 f3 f4
  obtain ⟨k0, k1, k2, k3, k4⟩ := Tk.all HK3.out
  go_wp2_with fail
  rename_i K1 h1
  have HC := hide h1
  clear h1
  go_region
  have HK4 := hide HK3.out.drew
  have HT4 := hide HT3.out.drew
  have HO4 := hide HO3.out.drew
  generalize w3.drew = w4 at HK4 HT4 HO4 ⊢
  refine HC.out _ _ ?_
  clear HC K1 HK3 HT3 HO3 k0 k1 k2 k3 k4
  obtain ⟨k0, k1, k2, k3, k4⟩ := Tk.all HK4.out
  have f1 : w4.frozen? ⟨q, 1, none⟩ = false := Blk.frozen HK4.out 1
  have f2 : w4.frozen? ⟨q, 2, none⟩ = false := Blk.frozen HK4.out 2
  have f3 : w4.frozen? ⟨q, 3, none⟩ = false := Blk.frozen HK4.out 3
  have f4 : w4.frozen? ⟨q, 4, none⟩ = false := Blk.frozen HK4.out 4
  go_wp2_with fail
  refine bodyPost_ret (v := .tuple #[.int .i64 0, .bool false, .int .i64 0]) (results_list (rs := [.tmp 6, .tmp 7, .tmp 8]) rfl (by simp) (Vals.tmp (Vals.tmp (Vals.tmp Vals.nil)))) rfl ?_
  exact ⟨rfl, Blk.set_ (Blk.set_ (Blk.set_ (Blk.set_ HK4.out 1 _) 2 _) 3 _) 4 _, Blk.far (Blk.far (Blk.far (Blk.far HT4.out (p := ⟨q, 1, none⟩) (fun e => HNe.out e.symm) _) (p := ⟨q, 2, none⟩) (fun e => HNe.out e.symm) _) (p := ⟨q, 3, none⟩) (fun e => HNe.out e.symm) _) (p := ⟨q, 4, none⟩) (fun e => HNe.out e.symm) _, (((HO4.out.setCell (p := ⟨q, 1, none⟩) (.inl (.inl rfl)) _).setCell (p := ⟨q, 2, none⟩) (.inl (.inl rfl)) _).setCell (p := ⟨q, 3, none⟩) (.inl (.inl rfl)) _).setCell (p := ⟨q, 4, none⟩) (.inl (.inl rfl)) _⟩
set_option maxHeartbeats 1000000 in
theorem visit_count1 (w : World) (q p : Nat) (n a s m n0 n1 r lo : Int) (hn : n ≠ 0) (ha : 0 ≤ a ∧ a < 16) (hlt : a + 1 < n) (hm : m ≤ 4611686018427387904) (hK : Tk w q n a true s m) (h : Tl w p 1 n0 n1 r) : Calls Try.prog 16 #[.pointer (some ⟨q, 0, none⟩), .pointer (some ⟨p, 0, none⟩), .int .i64 lo] w (VLeft w q p n (a + 1) true (wrap64 (s + n0)) (mn (mn m lo) r) 1 n0 n1 r 0 false) := by
  have HN := hide (tnone_call w q n a true s m hn hK)
  have HN2 := hide (none_call w p 1 n0 n1 r h)
  obtain ⟨k0, k1, k2, k3, k4⟩ := hK.all
  have HK := hide hK
  have HT := hide h
  have HTu := hide (count1_call w q p n a s m n0 n1 r lo hm hK h)
  have HNe : Hid (q ≠ p) := hide (Blk.ne_ hK h (by decide))
  obtain ⟨s2, hs2⟩ : ∃ s2, wrap64 (s + n0) = s2 := ⟨_, rfl⟩
  obtain ⟨m2, hm2⟩ : ∃ m2, mn (mn m lo) r = m2 := ⟨_, rfl⟩
  rw [hs2, hm2] at HTu
  rw [hs2, hm2]
  clear hs2 hm2
  obtain ⟨a1, ha1⟩ : ∃ a1, a + 1 = a1 := ⟨_, rfl⟩
  have hw1 : wrap64 (a + 1) = a1 := by rw [← ha1]; unfold wrap64; omega
  rw [ha1] at hlt
  rw [ha1]
  clear h hK ha1 ha
  go_enter Try.func16, Try.ntmps16
  go_wp2_with (first | (go_at_call 29; refine (unhide HN).mono ?_; rintro e w1 ⟨rfl, rfl⟩) | (go_at_call 27; refine (unhide HN2).mono ?_; rintro e w1 ⟨rfl, rfl⟩))
  rename_i wA
  refine HTu.out.mono ?_
  rintro e w2 ⟨rfl, hP, hO⟩
  have HK2 : Hid (Tk w2 q n a true s2 m2) := hide hP
  have HT2 := hide (Blk.only HT.out hO (fun e => HNe.out e.symm))
  have HO2 := hide (hO.mono (T := fun b => b = q ∨ b = p) (fun i e => .inl e))
  clear hP hO HTu HN HN2 HK HT k0 k1 k2 k3 k4
  obtain ⟨k0, k1, k2, k3, k4⟩ := Tk.all HK2.out
  have f1 : w2.frozen? ⟨q, 1, none⟩ = false := Blk.frozen HK2.out 1
  have f2 : w2.frozen? ⟨q, 2, none⟩ = false := Blk.frozen HK2.out 2
  have f3 : w2.frozen? ⟨q, 3, none⟩ = false := Blk.frozen HK2.out 3
  have f4 : w2.frozen? ⟨q, 4, none⟩ = false := Blk.frozen HK2.out 4
  go_wp2_with fail
  go_region
  go_wp2_with fail
  all_goals (
    refine bodyPost_ret (v := .tuple #[.int .i64 0, .bool false, .int .i64 0]) (results_list (rs := [.tmp 6, .tmp 7, .tmp 8]) rfl (by simp) (Vals.tmp (Vals.tmp (Vals.tmp Vals.nil)))) rfl ?_
    exact ⟨rfl, (Blk.set_ HK2.out 1 _).drew, (Blk.far HT2.out (p := ⟨q, 1, none⟩) (fun e => HNe.out e.symm) _).drew, (HO2.out.setCell (p := ⟨q, 1, none⟩) (.inl (.inl rfl)) _).drew⟩)
set_option maxHeartbeats 1000000 in
theorem visit_count1LY (w : World) (q p : Nat) (n a s m n0 n1 r lo : Int) (hn : n ≠ 0) (ha : 0 ≤ a ∧ a < 16) (hlt : a + 1 = n) (hm : m ≤ 4611686018427387904) (ho : wrap64 (s + n0) = 0) (hK : Tk w q n a true s m) (h : Tl w p 1 n0 n1 r) : Calls Try.prog 16 #[.pointer (some ⟨q, 0, none⟩), .pointer (some ⟨p, 0, none⟩), .int .i64 lo] w (VLeft w q p n 0 false 0 NV 1 n0 n1 r (mn (mn m lo) r) true) := by
  have HN := hide (tnone_call w q n a true s m hn hK)
  have HN2 := hide (none_call w p 1 n0 n1 r h)
  obtain ⟨k0, k1, k2, k3, k4⟩ := hK.all
  have HK := hide hK
  have HT := hide h
  have HTu := hide (count1_call w q p n a s m n0 n1 r lo hm hK h)
  have HNe : Hid (q ≠ p) := hide (Blk.ne_ hK h (by decide))
  obtain ⟨s2, hs2⟩ : ∃ s2, wrap64 (s + n0) = s2 := ⟨_, rfl⟩
  obtain ⟨m2, hm2⟩ : ∃ m2, mn (mn m lo) r = m2 := ⟨_, rfl⟩
  rw [hs2, hm2] at HTu
  rw [hs2] at ho
  rw [hm2]
  subst ho
  clear hs2 hm2
  obtain ⟨a1, ha1⟩ : ∃ a1, a + 1 = a1 := ⟨_, rfl⟩
  have hw1 : wrap64 (a + 1) = a1 := by rw [← ha1]; unfold wrap64; omega
  rw [ha1] at hlt
  have hge : ¬ a1 < n := by omega
  clear h hK ha1 ha
  go_enter Try.func16, Try.ntmps16
  go_wp2_with (first | (go_at_call 29; refine (unhide HN).mono ?_; rintro e w1 ⟨rfl, rfl⟩) | (go_at_call 27; refine (unhide HN2).mono ?_; rintro e w1 ⟨rfl, rfl⟩))
  rename_i wA
  refine HTu.out.mono ?_
  rintro e w2 ⟨rfl, hP, hO⟩
  have HK2 : Hid (Tk w2 q n a true 0 m2) := hide hP
  have HT2 := hide (Blk.only HT.out hO (fun e => HNe.out e.symm))
  have HO2 := hide (hO.mono (T := fun b => b = q ∨ b = p) (fun i e => .inl e))
  clear hP hO HTu HN HN2 HK HT k0 k1 k2 k3 k4
  obtain ⟨k0, k1, k2, k3, k4⟩ := Tk.all HK2.out
  have f1 : w2.frozen? ⟨q, 1, none⟩ = false := Blk.frozen HK2.out 1
  have f2 : w2.frozen? ⟨q, 2, none⟩ = false := Blk.frozen HK2.out 2
  have f3 : w2.frozen? ⟨q, 3, none⟩ = false := Blk.frozen HK2.out 3
  have f4 : w2.frozen? ⟨q, 4, none⟩ = false := Blk.frozen HK2.out 4
  go_wp2_with fail
  rename_i K1 h1
  have HC := hide h1
  clear h1
  go_region
  have HK3 : Hid (Tk (w2.setCell ⟨q, 1, none⟩ (.int .i64 n)).drew q n n true 0 m2) := hide (Blk.set_ HK2.out 1 (.int .i64 n)).drew
  have HT3 : Hid (Tl (w2.setCell ⟨q, 1, none⟩ (.int .i64 n)).drew p 1 n0 n1 r) := hide (Blk.far HT2.out (p := ⟨q, 1, none⟩) (fun e => HNe.out e.symm) _).drew
  have HO3 := hide (HO2.out.setCell (p := ⟨q, 1, none⟩) (.inl (.inl rfl)) (.int .i64 n)).drew
  generalize (w2.setCell ⟨q, 1, none⟩ (.int .i64 n)).drew = w3 at HK3 HT3 HO3 ⊢
  refine HC.out _ _ ?_
  clear HC K1 HK2 HT2 HO2 k0 k1 k2 k3 k4 f1 f2 f3 f4
  obtain ⟨k0, k1, k2, k3, k4⟩ := Tk.all HK3.out
  go_wp2_with fail
  rename_i K1 h1
  have HC := hide h1
  clear h1
  go_region
  have HK4 := hide HK3.out.drew
  have HT4 := hide HT3.out.drew
  have HO4 := hide HO3.out.drew
  generalize w3.drew = w4 at HK4 HT4 HO4 ⊢
  refine HC.out _ _ ?_
  clear HC K1 HK3 HT3 HO3 k0 k1 k2 k3 k4
  obtain ⟨k0, k1, k2, k3, k4⟩ := Tk.all HK4.out
  have f1 : w4.frozen? ⟨q, 1, none⟩ = false := Blk.frozen HK4.out 1
  have f2 : w4.frozen? ⟨q, 2, none⟩ = false := Blk.frozen HK4.out 2
  have f3 : w4.frozen? ⟨q, 3, none⟩ = false := Blk.frozen HK4.out 3
  have f4 : w4.frozen? ⟨q, 4, none⟩ = false := Blk.frozen HK4.out 4
  go_wp2_with fail
  refine bodyPost_ret (v := .tuple #[.int .i64 m2, .bool true, .int .i64 0]) (results_list (rs := [.tmp 6, .tmp 7, .tmp 8]) rfl (by simp) (Vals.tmp (Vals.tmp (Vals.tmp Vals.nil)))) rfl ?_
  exact ⟨rfl, Blk.set_ (Blk.set_ (Blk.set_ (Blk.set_ HK4.out 1 _) 2 _) 3 _) 4 _, Blk.far (Blk.far (Blk.far (Blk.far HT4.out (p := ⟨q, 1, none⟩) (fun e => HNe.out e.symm) _) (p := ⟨q, 2, none⟩) (fun e => HNe.out e.symm) _) (p := ⟨q, 3, none⟩) (fun e => HNe.out e.symm) _) (p := ⟨q, 4, none⟩) (fun e => HNe.out e.symm) _, (((HO4.out.setCell (p := ⟨q, 1, none⟩) (.inl (.inl rfl)) _).setCell (p := ⟨q, 2, none⟩) (.inl (.inl rfl)) _).setCell (p := ⟨q, 3, none⟩) (.inl (.inl rfl)) _).setCell (p := ⟨q, 4, none⟩) (.inl (.inl rfl)) _⟩
set_option maxHeartbeats 1000000 in
theorem visit_count1LN (w : World) (q p : Nat) (n a s m n0 n1 r lo : Int) (hn : n ≠ 0) (ha : 0 ≤ a ∧ a < 16) (hlt : a + 1 = n) (hm : m ≤ 4611686018427387904) (ho : wrap64 (s + n0) ≠ 0) (hK : Tk w q n a true s m) (h : Tl w p 1 n0 n1 r) : Calls Try.prog 16 #[.pointer (some ⟨q, 0, none⟩), .pointer (some ⟨p, 0, none⟩), .int .i64 lo] w (VLeft w q p n 0 true 0 NV 1 n0 n1 r 0 false) := by
  have HN := hide (tnone_call w q n a true s m hn hK)
  have HN2 := hide (none_call w p 1 n0 n1 r h)
  obtain ⟨k0, k1, k2, k3, k4⟩ := hK.all
  have HK := hide hK
  have HT := hide h
  have HTu := hide (count1_call w q p n a s m n0 n1 r lo hm hK h)
  have HNe : Hid (q ≠ p) := hide (Blk.ne_ hK h (by decide))
  obtain ⟨s2, hs2⟩ : ∃ s2, wrap64 (s + n0) = s2 := ⟨_, rfl⟩
  obtain ⟨m2, hm2⟩ : ∃ m2, mn (mn m lo) r = m2 := ⟨_, rfl⟩
  rw [hs2, hm2] at HTu
  rw [hs2] at ho
  have ho2 : (s2 == 0) = false := by simpa using ho
  clear hs2 hm2
  obtain ⟨a1, ha1⟩ : ∃ a1, a + 1 = a1 := ⟨_, rfl⟩
  have hw1 : wrap64 (a + 1) = a1 := by rw [← ha1]; unfold wrap64; omega
  rw [ha1] at hlt
  have hge : ¬ a1 < n := by omega
  clear h hK ha1 ha
  go_enter Try.func16, Try.ntmps16
  go_wp2_with (first | (go_at_call 29; refine (unhide HN).mono ?_; rintro e w1 ⟨rfl, rfl⟩) | (go_at_call 27; refine (unhide HN2).mono ?_; rintro e w1 ⟨rfl, rfl⟩))
  rename_i wA
  refine HTu.out.mono ?_
  rintro e w2 ⟨rfl, hP, hO⟩
  have HK2 : Hid (Tk w2 q n a true s2 m2) := hide hP
  have HT2 := hide (Blk.only HT.out hO (fun e => HNe.out e.symm))
  have HO2 := hide (hO.mono (T := fun b => b = q ∨ b = p) (fun i e => .inl e))
  clear hP hO HTu HN HN2 HK HT k0 k1 k2 k3 k4
  obtain ⟨k0, k1, k2, k3, k4⟩ := Tk.all HK2.out
  have f1 : w2.frozen? ⟨q, 1, none⟩ = false := Blk.frozen HK2.out 1
  have f2 : w2.frozen? ⟨q, 2, none⟩ = false := Blk.frozen HK2.out 2
  have f3 : w2.frozen? ⟨q, 3, none⟩ = false := Blk.frozen HK2.out 3
  have f4 : w2.frozen? ⟨q, 4, none⟩ = false := Blk.frozen HK2.out 4
  go_wp2_with fail
  rename_i K1 h1
  have HC := hide h1
  clear h1
  go_region
  have HK3 : Hid (Tk (w2.setCell ⟨q, 1, none⟩ (.int .i64 n)).drew q n n true s2 m2) := hide (Blk.set_ HK2.out 1 (.int .i64 n)).drew
  have HT3 : Hid (Tl (w2.setCell ⟨q, 1, none⟩ (.int .i64 n)).drew p 1 n0 n1 r) := hide (Blk.far HT2.out (p := ⟨q, 1, none⟩) (fun e => HNe.out e.symm) _).drew
  have HO3 := hide (HO2.out.setCell (p := ⟨q, 1, none⟩) (.inl (.inl rfl)) (.int .i64 n)).drew
  generalize (w2.setCell ⟨q, 1, none⟩ (.int .i64 n)).drew = w3 at HK3 HT3 HO3 ⊢
  refine HC.out _ _ ?_
  clear HC K1 HK2 HT2 HO2 k0 k1 k2 k3 k4 f1 f2 f3 f4
  obtain ⟨k0, k1, k2, k3, k4⟩ := Tk.all HK3.out
  go_wp2_with fail
  rename_i K1 h1
  have HC := hide h1
  clear h1
  go_region
  have HK4 := hide HK3.out.drew
  have HT4 := hide HT3.out.drew
  have HO4 := hide HO3.out.drew
  generalize w3.drew = w4 at HK4 HT4 HO4 ⊢
  refine HC.out _ _ ?_
  clear HC K1 HK3 HT3 HO3 k0 k1 k2 k3 k4
  obtain ⟨k0, k1, k2, k3, k4⟩ := Tk.all HK4.out
  have f1 : w4.frozen? ⟨q, 1, none⟩ = false := Blk.frozen HK4.out 1
  have f2 : w4.frozen? ⟨q, 2, none⟩ = false := Blk.frozen HK4.out 2
  have f3 : w4.frozen? ⟨q, 3, none⟩ = false := Blk.frozen HK4.out 3
  have f4 : w4.frozen? ⟨q, 4, none⟩ = false := Blk.frozen HK4.out 4
  go_wp2_with fail
  refine bodyPost_ret (v := .tuple #[.int .i64 0, .bool false, .int .i64 0]) (results_list (rs := [.tmp 6, .tmp 7, .tmp 8]) rfl (by simp) (Vals.tmp (Vals.tmp (Vals.tmp Vals.nil)))) rfl ?_
  exact ⟨rfl, Blk.set_ (Blk.set_ (Blk.set_ (Blk.set_ HK4.out 1 _) 2 _) 3 _) 4 _, Blk.far (Blk.far (Blk.far (Blk.far HT4.out (p := ⟨q, 1, none⟩) (fun e => HNe.out e.symm) _) (p := ⟨q, 2, none⟩) (fun e => HNe.out e.symm) _) (p := ⟨q, 3, none⟩) (fun e => HNe.out e.symm) _) (p := ⟨q, 4, none⟩) (fun e => HNe.out e.symm) _, (((HO4.out.setCell (p := ⟨q, 1, none⟩) (.inl (.inl rfl)) _).setCell (p := ⟨q, 2, none⟩) (.inl (.inl rfl)) _).setCell (p := ⟨q, 3, none⟩) (.inl (.inl rfl)) _).setCell (p := ⟨q, 4, none⟩) (.inl (.inl rfl)) _⟩
end Go.Proofs.Ytkchbnmnkcffbaa.Colour
