/- The contracts of the reference's order, insertion and sorting of messages. No law is proved here. -/
import Derived.Test.YtkhdghlgkljdgaaSorted
import Derived.Shelf.SlSortCmp.QuietGrown
set_option linter.unusedVariables false
set_option linter.unusedSimpArgs false
namespace Go.Proofs.Ytkhdghlgkljdgaa.Ref02
open Go.Proofs Go.RowKit Go.Sort Go.Proofs.Ytkhdghlgkljdgaa.Types Go.Proofs.Ytkhdghlgkljdgaa.Heap Go.Proofs.Ytkhdghlgkljdgaa.Row Go.Proofs.Ytkhdghlgkljdgaa.Ord Go.Proofs.YtkhdghlgkljdgaaW.PrintWords Go.Proofs.YtkhdghlgkljdgaaW.PrintLast Go.Proofs.YtkhdghlgkljdgaaW.PrintMore
open Go.Proofs.Ytkhdghlgkljdgaa.SortPure (ins isort ins_nil ins_no ins_yes length_ins isort_snoc length_isort)
open Go.Proofs.Ytkhdghlgkljdgaa.Sorted (M OwnM Made flatM infoM zM weakM)
theorem sign_call (a b : Int) (w : World) : Calls Try.prog 52 #[.int .i64 a, .int .i64 b] w fun e w' => e = .returned (.int .i64 (sg a b)) ∧ w = w' := by
  obtain ⟨s, hs⟩ : ∃ s, sg a b = s := ⟨_, rfl⟩
  rw [hs]
  by_cases h1 : a < b
  · obtain rfl : s = -1 := by rw [← hs]; unfold sg; rw [if_pos h1]
    clear hs
    go_enter Try.func52, Try.ntmps52
    go_wp2
    go_ret
    exact ⟨rfl, rfl⟩
  · by_cases h2 : b < a
    · obtain rfl : s = 1 := by rw [← hs]; unfold sg; rw [if_neg h1, if_pos h2]
      clear hs
      go_enter Try.func52, Try.ntmps52
      go_wp2
      go_ret
      exact ⟨rfl, rfl⟩
    · obtain rfl : s = 0 := by rw [← hs]; unfold sg; rw [if_neg h1, if_neg h2]
      clear hs
      go_enter Try.func52, Try.ntmps52
      go_wp2
      go_ret
      exact ⟨rfl, rfl⟩
set_option maxHeartbeats 4000000 in
set_option maxRecDepth 100000 in
theorem rck_call (a b c x y z : Int) (w : World) : Calls Try.prog 50 #[.agg #[.int .i64 a, .int .i64 b, .int .i64 c], .agg #[.int .i64 x, .int .i64 y, .int .i64 z]] w fun e w' => e = .returned (.int .i64 (ck a b c x y z)) ∧ Gr w w' := by
  have hu := Try.underlying23
  have G2 : Hid (Gr w ((w.alloc (.cells #[.int .i64 a, .int .i64 b, .int .i64 c] 23)).alloc (.cells #[.int .i64 x, .int .i64 y, .int .i64 z] 23))) := hide (((Gr.refl w).alloc _).alloc _)
  unfold ck
  by_cases h1 : a = x
  · subst h1
    rw [if_pos rfl]
    by_cases h2 : b = y
    · subst h2
      rw [if_pos rfl]
      have H := hide (fun W => sign_call c z W)
      obtain ⟨s, hs⟩ : ∃ s, sg c z = s := ⟨_, rfl⟩
      rw [hs] at H ⊢
      clear hs
      go_enter Try.func50, Try.ntmps50
      go_wp2_with (go_at_call 52; ((refine (H.out _).mono ?_); rintro e w' ⟨rfl, rfl⟩))
      go_ret
      exact ⟨rfl, G2.out⟩
    · rw [if_neg h2]
      have H := hide (fun W => sign_call b y W)
      obtain ⟨s, hs⟩ : ∃ s, sg b y = s := ⟨_, rfl⟩
      rw [hs] at H ⊢
      have b1 : (b == y) = false := by simpa using h2
      have b2 : (b != y) = true := by simpa using h2
      clear hs h2
      go_enter Try.func50, Try.ntmps50
      go_wp2_with (go_at_call 52; ((refine (H.out _).mono ?_); rintro e w' ⟨rfl, rfl⟩))
      go_ret
      exact ⟨rfl, G2.out⟩
  · rw [if_neg h1]
    have H := hide (fun W => sign_call a x W)
    obtain ⟨s, hs⟩ : ∃ s, sg a x = s := ⟨_, rfl⟩
    rw [hs] at H ⊢
    have b1 : (a == x) = false := by simpa using h1
    have b2 : (a != x) = true := by simpa using h1
    clear hs h1
    go_enter Try.func50, Try.ntmps50
    go_wp2_with (go_at_call 52; ((refine (H.out _).mono ?_); rintro e w' ⟨rfl, rfl⟩))
    go_ret
    exact ⟨rfl, G2.out⟩
set_option maxHeartbeats 4000000 in
set_option maxRecDepth 100000 in
theorem rbefore_call (x y : M) (w : World) : Calls Try.prog 46 #[.agg (c25 x).toArray, .agg (c25 y).toArray] w fun e w' => e = .returned (.bool (befM x y)) ∧ Gr w w' := by
  have hu := Try.underlying25
  have hk := Try.underlying23
  have G2 : Hid (Gr w ((w.alloc (.cells (c25 x).toArray 25)).alloc (.cells (c25 y).toArray 25))) := hide (((Gr.refl w).alloc _).alloc _)
  have BA := hide ((Blk.new w 25 (c25 x).toArray).alloc (.cells (c25 y).toArray 25))
  have BB : Hid (Blk ((w.alloc (.cells (c25 x).toArray 25)).alloc (.cells (c25 y).toArray 25)) (w.heap.size + 1) 25 (c25 y).toArray) := hide (by
    have := Blk.new (w.alloc (.cells (c25 x).toArray 25)) 25 (c25 y).toArray
    rw [World.size_alloc] at this
    exact this)
  have H1 := hide (fun W => rck_call x.f0.f0 x.f0.f1 x.f0.f2 y.f0.f0 y.f0.f1 y.f0.f2 W)
  unfold befM ordM ord
  obtain ⟨s, hs⟩ : ∃ s, ck x.f0.f0 x.f0.f1 x.f0.f2 y.f0.f0 y.f0.f1 y.f0.f2 = s := ⟨_, rfl⟩
  rw [hs] at H1 ⊢
  clear hs
  unfold c25 at G2 BA BB ⊢
  have e1 : decide ((if s = 0 then sg x.f3 y.f3 else s) < 0) = (decide (s < 0) || (s == 0 && decide (x.f3 < y.f3))) := by
    by_cases q : s = 0
    · subst q
      simp [sg]
      constructor
      · intro h
        split at h
        · assumption
        · split at h <;> omega
      · intro h
        rw [if_pos h]
        omega
    · simp [q]
  rw [e1]
  clear e1
  rcases Int.lt_trichotomy s 0 with q | q | q
  · have q1 : decide (s < 0) = true := decide_eq_true q
    rw [q1, Bool.true_or]
    go_enter Try.func46, Try.ntmps46
    go_wp2_with (go_at_call 50; ((refine (H1.out _).mono ?_); rintro e w1 ⟨rfl, hg⟩; have HG := hide (G2.out.trans hg); clear hg))
    go_ret
    exact ⟨rfl, HG.out⟩
  · subst q
    rw [show decide ((0 : Int) < 0) = false from rfl, Bool.false_or, show ((0 : Int) == 0) = true from rfl, Bool.true_and]
    go_enter Try.func46, Try.ntmps46
    go_wp2_with (go_at_call 50; ((refine (H1.out _).mono ?_); rintro e w1 ⟨rfl, hg⟩; have HG := hide (G2.out.trans hg); have c5 : w1.cell? ⟨w.heap.size, 5, none⟩ = some (.int .i64 x.f3) := (BA.out.below' hg.below).cell 5; have d5 : w1.cell? ⟨w.heap.size + 1, 5, none⟩ = some (.int .i64 y.f3) := (BB.out.below' hg.below).cell 5; clear hg))
    go_ret
    exact ⟨rfl, HG.out⟩
  · have q1 : decide (s < 0) = false := decide_eq_false (by omega)
    have q2 : (s == 0) = false := by simp; omega
    rw [q1, Bool.false_or, q2, Bool.false_and]
    go_enter Try.func46, Try.ntmps46
    go_wp2_with (go_at_call 50; ((refine (H1.out _).mono ?_); rintro e w1 ⟨rfl, hg⟩; have HG := hide (G2.out.trans hg); clear hg))
    go_ret
    exact ⟨rfl, HG.out⟩
/-- A cell of an old block in every world of the class. -/
theorem cg {w : World} {a : Addr} {v : Value} (h : w.cell? a = some v) : ∀ n os, (grow (w.drewN n) os).cell? a = some v := cell_grown (World.block_lt_of_cell? w a h) h
theorem gr_call {P : Program} {f : FuncId} {args : Array Value} {v : Value} (h : ∀ w, Calls P f args w fun e w' => e = .returned v ∧ Gr w w') (w : World) (n : Nat) (os : Array Obj) : Calls P f args (grow (w.drewN n) os) fun e w'' => e = .returned v ∧ ∃ p : GrownBy, w'' = grow (w.drewN p.n) p.os :=
  Calls.grown_of (h _)
theorem Gr.of {w : World} (n : Nat) (os : Array Obj) : Gr w (grow (w.drewN n) os) := ⟨n, os, rfl⟩
theorem blk7 {w : World} {g t : Nat} {a b c d e f h : Value} (k : Blk w g t #[a, b, c, d, e, f, h]) : w.cell? ⟨g, 0, none⟩ = some a ∧ w.cell? ⟨g, 1, none⟩ = some b ∧ w.cell? ⟨g, 2, none⟩ = some c ∧ w.cell? ⟨g, 3, none⟩ = some d ∧ w.cell? ⟨g, 4, none⟩ = some e ∧ w.cell? ⟨g, 5, none⟩ = some f ∧ w.cell? ⟨g, 6, none⟩ = some h :=
  ⟨k.cell 0, k.cell 1, k.cell 2, k.cell 3, k.cell 4, k.cell 5, k.cell 6⟩
set_option maxHeartbeats 8000000 in
set_option maxRecDepth 100000 in
theorem insert_some (ad : Addr) (c : Nat) (l : List M) (x : M) (hc : l.length ≤ c) (y : (l.length + 1) * 56 ≤ 140737488355328) (w : World) (hr : Kd.C k25 w (some ad) l.length l) :
    Calls Try.prog 42 #[.slice (some ad) l.length c, .agg (c25 x).toArray] w (Made w (ins befM l x)) := by
  have hu := Try.underlying25
  have hk := Try.underlying23
  have mixed : Try.prog.follows .mixedOrders = true := by kernel_rfl
  have B0 : Hid (Below w.heap.size w (w.alloc (.cells (c25 x).toArray 25))) := hide ((Below.refl w.heap.size w).alloc (Nat.le_refl _) _)
  have BA := hide (Blk.new w 25 (c25 x).toArray)
  have HR := hide (C_below hr B0.out)
  have HY := hide y
  have HC := hide hc
  have HT := hide (fun (t : M) (W : World) => rbefore_call x t W)
  clear hr y hc
  unfold c25 at B0 BA HR HT ⊢
  go_enter Try.func42, Try.ntmps42
  go_wp2_with fail
  generalize w.alloc (.cells [.int .i64 x.f0.f0, .int .i64 x.f0.f1, .int .i64 x.f0.f2, .int .i64 x.f1, .int .i64 x.f2, .int .i64 x.f3, .bool x.f4].toArray 25) = W at B0 BA HR ⊢
  obtain ⟨gb, hgb⟩ : ∃ g, w.heap.size = g := ⟨_, rfl⟩
  have hgw : gb ≤ W.heap.size := by rw [← hgb]; exact B0.out.size
  rw [hgb] at BA ⊢
  have HGB := hide hgb
  clear hgb
  go_loopw [5] (fun s5 wr => ∃ k : Nat, k ≤ l.length ∧ s5 = .int .i64 k ∧ Hid (Gr W wr) ∧ Hid (ins befM l x = ins befM (l.take k) x ++ l.drop k)) (fun s5 _ => (intOf s5).toNat)
  case atStart => exact ⟨l.length, Nat.le_refl _, rfl, hide (Gr.refl W), hide (by rw [List.take_length, List.drop_length, List.append_nil])⟩
  case round =>
    obtain ⟨k, hk, rfl, HG, HI⟩ := hrel
    have fin : ∀ (wr : World), Gr W wr → ins befM l x = (l.take k ++ [x]) ++ l.drop k →
        Hid (Below W.heap.size W wr ∧ Kd.C k25 wr (some ad) l.length l ∧ Blk wr gb 25 #[.int .i64 x.f0.f0, .int .i64 x.f0.f1, .int .i64 x.f0.f2, .int .i64 x.f1, .int .i64 x.f2, .int .i64 x.f3, .bool x.f4] ∧ ins befM l x = (l.take k ++ [x]) ++ l.drop k) :=
      fun wr hg he => hide ⟨hg.below, C_below HR.out hg.below, BA.out.below' hg.below, he⟩
    have hl63 : (l.length : Int) ≤ 9223372036854775806 := by have := HY.out; omega
    rcases Nat.eq_zero_or_pos k with h0 | h0
    · have HFin := fin wr.drew HG.out.drew (by rw [HI.out, h0]; rfl)
      have g1 : decide ((0 : Int) < (k : Int)) = false := decide_eq_false (by omega)
      have g1n : decide (0 < k) = false := decide_eq_false (by omega)
      have HE0 : Hid (ins befM l x = (l.take k ++ [x]) ++ l.drop k) := hide (by rw [HI.out, h0]; rfl)
      clear HI h0
      go_wp2_with fail
      go_quiet (fail)
      have HFin := fin (wr.drewN nq) (HG.out.drewN nq) HE0.out
      clear fin HG HE0
      generalize wr.drewN nq = w2 at HFin ⊢
      have hlk : (k : Int) ≤ (l.length : Int) := by omega
      have hlc : l.length ≤ c := HC.out
      have hck : (k : Int) ≤ (c : Int) := by omega
      have hckn : k ≤ c := by omega
      have E1 : Hid (OwnM (w2.alloc (.cells #[] 25)) w2.heap.size (.slice (some ⟨w2.heap.size, 0, none⟩) 0 0) []) := hide (Own.empty w2 _ _ (Nat.le_refl _))
      have BW1 : Hid (Below w2.heap.size w2 (w2.alloc (.cells #[] 25))) := hide ((Below.refl w2.heap.size w2).alloc (Nat.le_refl _) _)
      have S1 := hide (C_take (C_below HFin.out.2.1 BW1.out) hk)
      have HL := hide HFin.out.2.1
      have HFB := hide HFin.out.2.2.1
      have ge := hide HFin.out.2.2.2
      have HBW : Hid (Below w.heap.size w w2) := hide (below_step B0.out HFin.out.1)
      clear HFin
      by_cases hkc : c = k
      · have hkc' : k = c := hkc.symm
        subst hkc'
        have hdr : l.drop k = [] := List.drop_of_length_le hlc
        have T2 : Hid (Kd.C k25 w2 (some ad) 0 ([] : List M)) := hide ⟨rfl, by omega, fun h => absurd h (by omega)⟩
        have ge2 : Hid (ins befM l x = l.take k ++ [x]) := hide (by rw [ge.out, hdr, List.append_nil])
        clear HL hdr
        go_wp2_with (first
          | ((with_reducible refine gate_builtin (b := .append) (xs := #[.tmp 22, .tmp 25]) rfl ?_); at_builtin; refine wp_append flatM rfl k25_open rfl (.tmp 22) (.tmp 25) 26 rfl zM 56 Try.underlying26 infoM rfl _ rfl E1.out _ _ _ (l.take k) rfl S1.out (by omega) ?aL ?aB ?_; (case aL => have := HY.out; simp; omega); (case aB => exact BW1.out.size); intro v1 w3 ho hg; have E2 := hide ho; have BW2 := hide (BW1.out.grown hg BW1.out.size (fun b hb => (E1.out.blk b hb).1)); obtain ⟨x0, x1, x2, x3, x4, x5, x6⟩ := blk7 (HFB.out.below' BW2.out); clear ho hg E1 S1)
          | ((with_reducible refine gate_builtin (b := .append) (xs := #[.tmp 27, .tmp 29]) rfl ?_); at_builtin; refine wp_append flatM rfl k25_open rfl (.tmp 27) (.tmp 29) 26 rfl zM 56 Try.underlying26 infoM rfl _ rfl (E2.out.alloc _) _ _ _ [x] rfl (C_one (Blk.new w3 _ _) flatM rfl k25_mk) (by omega) ?bL ?bB ?_; (case bL => have := HY.out; simp; omega); (case bB => have := BW2.out.size; simp; omega); intro v2 w4 ho hg; have E3 := hide ho; have BW3 := hide ((BW2.out.alloc BW2.out.size _).grown hg (by have := BW2.out.size; simp; omega) (fun b hb => (E2.out.blk b hb).1)); clear ho hg E2 x0 x1 x2 x3 x4 x5 x6)
          | ((with_reducible refine gate_builtin (b := .append) (xs := #[.tmp 31, .tmp 34]) rfl ?_); at_builtin; refine wp_append flatM rfl k25_open rfl (.tmp 31) (.tmp 34) 26 rfl zM 56 Try.underlying26 infoM rfl _ rfl E3.out _ _ _ [] rfl (C_below T2.out BW3.out) (by omega) ?cL ?cB ?_; (case cL => have := HY.out; simp; omega); (case cB => exact BW3.out.size); intro v3 w5 ho hg; have E4 := hide ho; have BW4 := hide (BW3.out.grown hg BW3.out.size (fun b hb => (E3.out.blk b hb).1)); clear ho hg E3))
        go_ret
        refine ⟨_, rfl, ?_, below_step HBW.out BW4.out⟩
        have he := E4.out.lower HBW.out.size
        rw [ge2.out]
        rw [List.append_nil] at he
        exact he
      · have T1 := C_drop (k := 7) (c := c) HL.out rfl hk hlc
        rw [if_neg hkc] at T1
        have T2 := hide T1
        clear HL T1
        go_wp2_with (first
          | ((with_reducible refine gate_builtin (b := .append) (xs := #[.tmp 22, .tmp 25]) rfl ?_); at_builtin; refine wp_append flatM rfl k25_open rfl (.tmp 22) (.tmp 25) 26 rfl zM 56 Try.underlying26 infoM rfl _ rfl E1.out _ _ _ (l.take k) rfl S1.out (by omega) ?aL ?aB ?_; (case aL => have := HY.out; simp; omega); (case aB => exact BW1.out.size); intro v1 w3 ho hg; have E2 := hide ho; have BW2 := hide (BW1.out.grown hg BW1.out.size (fun b hb => (E1.out.blk b hb).1)); obtain ⟨x0, x1, x2, x3, x4, x5, x6⟩ := blk7 (HFB.out.below' BW2.out); clear ho hg E1 S1)
          | ((with_reducible refine gate_builtin (b := .append) (xs := #[.tmp 27, .tmp 29]) rfl ?_); at_builtin; refine wp_append flatM rfl k25_open rfl (.tmp 27) (.tmp 29) 26 rfl zM 56 Try.underlying26 infoM rfl _ rfl (E2.out.alloc _) _ _ _ [x] rfl (C_one (Blk.new w3 _ _) flatM rfl k25_mk) (by omega) ?bL ?bB ?_; (case bL => have := HY.out; simp; omega); (case bB => have := BW2.out.size; simp; omega); intro v2 w4 ho hg; have E3 := hide ho; have BW3 := hide ((BW2.out.alloc BW2.out.size _).grown hg (by have := BW2.out.size; simp; omega) (fun b hb => (E2.out.blk b hb).1)); clear ho hg E2 x0 x1 x2 x3 x4 x5 x6)
          | ((with_reducible refine gate_builtin (b := .append) (xs := #[.tmp 31, .tmp 34]) rfl ?_); at_builtin; refine wp_append flatM rfl k25_open rfl (.tmp 31) (.tmp 34) 26 rfl zM 56 Try.underlying26 infoM rfl _ rfl E3.out _ _ _ (l.drop k) rfl (C_below T2.out BW3.out) (by omega) ?cL ?cB ?_; (case cL => have := HY.out; simp; omega); (case cB => exact BW3.out.size); intro v3 w5 ho hg; have E4 := hide ho; have BW4 := hide (BW3.out.grown hg BW3.out.size (fun b hb => (E3.out.blk b hb).1)); clear ho hg E3))
        go_ret
        refine ⟨_, rfl, ?_, below_step HBW.out BW4.out⟩
        have he := E4.out.lower HBW.out.size
        rw [ge.out]
        exact he
    · obtain ⟨q, hkq⟩ : ∃ q, k = q + 1 := ⟨k - 1, by omega⟩
      have hq : q < l.length := by omega
      have HKQ := hide hkq
      obtain ⟨ad', hA, q0, q1, q2, q3, q4, q5, q6⟩ := at_S25 (C_below HR.out HG.out.below) hq
      cases hA
      have BX := hide (BA.out.below' HG.out.below)
      obtain ⟨t, ht⟩ : ∃ t, l[q] = t := ⟨_, rfl⟩
      rw [ht] at q0 q1 q2 q3 q4 q5 q6
      have HTq := hide ht
      clear ht
      have q0 := cg q0; have q1 := cg q1; have q2 := cg q2; have q3 := cg q3; have q4 := cg q4; have q5 := cg q5; have q6 := cg q6
      have p0 := cg ((BX.out.cell 0 : _ = some (Value.int .i64 x.f0.f0))); have p1 := cg ((BX.out.cell 1 : _ = some (Value.int .i64 x.f0.f1))); have p2 := cg ((BX.out.cell 2 : _ = some (Value.int .i64 x.f0.f2))); have p3 := cg ((BX.out.cell 3 : _ = some (Value.int .i64 x.f1))); have p4 := cg ((BX.out.cell 4 : _ = some (Value.int .i64 x.f2))); have p5 := cg ((BX.out.cell 5 : _ = some (Value.int .i64 x.f3))); have p6 := cg ((BX.out.cell 6 : _ = some (Value.bool x.f4)))
      have g1 : decide ((0 : Int) < (k : Int)) = true := decide_eq_true (by omega)
      have g1n : decide (0 < k) = true := decide_eq_true (by omega)
      have g3 : (0 : Int) < (k : Int) := by omega
      have g4 : (k : Int) - 1 = (q : Int) := by omega
      have g5 : IntKind.i64.wrap (q : Int) = (q : Int) := by rw [IntKind.wrap_i64]; omega
      have g6 : (q : Int) < (l.length : Int) := by omega
      clear hkq
      have hcall := gr_call (HT.out t) wr
      unfold c25 at hcall
      cases hb : befM x t
      · rw [hb] at hcall
        have HF : Hid (ins befM l x = (l.take k ++ [x]) ++ l.drop k) := hide (by
          rw [HI.out, HKQ.out, List.take_succ_eq_append_getElem hq, HTq.out, ins_no _ _ _ hb]
          simp)
        go_wp2_with fail
        go_quiet_grown ((go_at_call 46; exact hcall _ _))
        clear q0 q1 q2 q3 q4 q5 q6 p0 p1 p2 p3 p4 p5 p6 hcall
        have HFin := fin _ (HG.out.trans (Gr.of (w := wr) nq osq)) HF.out
        generalize grow (wr.drewN nq) osq = w2 at HFin ⊢
        clear fin HG HI BX g4 g5 g6 g1 g3 h0
        have hlk : (k : Int) ≤ (l.length : Int) := by omega
        have hlc : l.length ≤ c := HC.out
        have hck : (k : Int) ≤ (c : Int) := by omega
        have hckn : k ≤ c := by omega
        have E1 : Hid (OwnM (w2.alloc (.cells #[] 25)) w2.heap.size (.slice (some ⟨w2.heap.size, 0, none⟩) 0 0) []) := hide (Own.empty w2 _ _ (Nat.le_refl _))
        have BW1 : Hid (Below w2.heap.size w2 (w2.alloc (.cells #[] 25))) := hide ((Below.refl w2.heap.size w2).alloc (Nat.le_refl _) _)
        have S1 := hide (C_take (C_below HFin.out.2.1 BW1.out) hk)
        have HL := hide HFin.out.2.1
        have HFB := hide HFin.out.2.2.1
        have ge := hide HFin.out.2.2.2
        have HBW : Hid (Below w.heap.size w w2) := hide (below_step B0.out HFin.out.1)
        clear HFin
        by_cases hkc : c = k
        · have hkc' : k = c := hkc.symm
          subst hkc'
          have hdr : l.drop k = [] := List.drop_of_length_le hlc
          have T2 : Hid (Kd.C k25 w2 (some ad) 0 ([] : List M)) := hide ⟨rfl, by omega, fun h => absurd h (by omega)⟩
          have ge2 : Hid (ins befM l x = l.take k ++ [x]) := hide (by rw [ge.out, hdr, List.append_nil])
          clear HL hdr
          go_wp2_with (first
            | ((with_reducible refine gate_builtin (b := .append) (xs := #[.tmp 22, .tmp 25]) rfl ?_); at_builtin; refine wp_append flatM rfl k25_open rfl (.tmp 22) (.tmp 25) 26 rfl zM 56 Try.underlying26 infoM rfl _ rfl E1.out _ _ _ (l.take k) rfl S1.out (by omega) ?aL ?aB ?_; (case aL => have := HY.out; simp; omega); (case aB => exact BW1.out.size); intro v1 w3 ho hg; have E2 := hide ho; have BW2 := hide (BW1.out.grown hg BW1.out.size (fun b hb => (E1.out.blk b hb).1)); obtain ⟨x0, x1, x2, x3, x4, x5, x6⟩ := blk7 (HFB.out.below' BW2.out); clear ho hg E1 S1)
            | ((with_reducible refine gate_builtin (b := .append) (xs := #[.tmp 27, .tmp 29]) rfl ?_); at_builtin; refine wp_append flatM rfl k25_open rfl (.tmp 27) (.tmp 29) 26 rfl zM 56 Try.underlying26 infoM rfl _ rfl (E2.out.alloc _) _ _ _ [x] rfl (C_one (Blk.new w3 _ _) flatM rfl k25_mk) (by omega) ?bL ?bB ?_; (case bL => have := HY.out; simp; omega); (case bB => have := BW2.out.size; simp; omega); intro v2 w4 ho hg; have E3 := hide ho; have BW3 := hide ((BW2.out.alloc BW2.out.size _).grown hg (by have := BW2.out.size; simp; omega) (fun b hb => (E2.out.blk b hb).1)); clear ho hg E2 x0 x1 x2 x3 x4 x5 x6)
            | ((with_reducible refine gate_builtin (b := .append) (xs := #[.tmp 31, .tmp 34]) rfl ?_); at_builtin; refine wp_append flatM rfl k25_open rfl (.tmp 31) (.tmp 34) 26 rfl zM 56 Try.underlying26 infoM rfl _ rfl E3.out _ _ _ [] rfl (C_below T2.out BW3.out) (by omega) ?cL ?cB ?_; (case cL => have := HY.out; simp; omega); (case cB => exact BW3.out.size); intro v3 w5 ho hg; have E4 := hide ho; have BW4 := hide (BW3.out.grown hg BW3.out.size (fun b hb => (E3.out.blk b hb).1)); clear ho hg E3))
          go_ret
          refine ⟨_, rfl, ?_, below_step HBW.out BW4.out⟩
          have he := E4.out.lower HBW.out.size
          rw [ge2.out]
          rw [List.append_nil] at he
          exact he
        · have T1 := C_drop (k := 7) (c := c) HL.out rfl hk hlc
          rw [if_neg hkc] at T1
          have T2 := hide T1
          clear HL T1
          go_wp2_with (first
            | ((with_reducible refine gate_builtin (b := .append) (xs := #[.tmp 22, .tmp 25]) rfl ?_); at_builtin; refine wp_append flatM rfl k25_open rfl (.tmp 22) (.tmp 25) 26 rfl zM 56 Try.underlying26 infoM rfl _ rfl E1.out _ _ _ (l.take k) rfl S1.out (by omega) ?aL ?aB ?_; (case aL => have := HY.out; simp; omega); (case aB => exact BW1.out.size); intro v1 w3 ho hg; have E2 := hide ho; have BW2 := hide (BW1.out.grown hg BW1.out.size (fun b hb => (E1.out.blk b hb).1)); obtain ⟨x0, x1, x2, x3, x4, x5, x6⟩ := blk7 (HFB.out.below' BW2.out); clear ho hg E1 S1)
            | ((with_reducible refine gate_builtin (b := .append) (xs := #[.tmp 27, .tmp 29]) rfl ?_); at_builtin; refine wp_append flatM rfl k25_open rfl (.tmp 27) (.tmp 29) 26 rfl zM 56 Try.underlying26 infoM rfl _ rfl (E2.out.alloc _) _ _ _ [x] rfl (C_one (Blk.new w3 _ _) flatM rfl k25_mk) (by omega) ?bL ?bB ?_; (case bL => have := HY.out; simp; omega); (case bB => have := BW2.out.size; simp; omega); intro v2 w4 ho hg; have E3 := hide ho; have BW3 := hide ((BW2.out.alloc BW2.out.size _).grown hg (by have := BW2.out.size; simp; omega) (fun b hb => (E2.out.blk b hb).1)); clear ho hg E2 x0 x1 x2 x3 x4 x5 x6)
            | ((with_reducible refine gate_builtin (b := .append) (xs := #[.tmp 31, .tmp 34]) rfl ?_); at_builtin; refine wp_append flatM rfl k25_open rfl (.tmp 31) (.tmp 34) 26 rfl zM 56 Try.underlying26 infoM rfl _ rfl E3.out _ _ _ (l.drop k) rfl (C_below T2.out BW3.out) (by omega) ?cL ?cB ?_; (case cL => have := HY.out; simp; omega); (case cB => exact BW3.out.size); intro v3 w5 ho hg; have E4 := hide ho; have BW4 := hide (BW3.out.grown hg BW3.out.size (fun b hb => (E3.out.blk b hb).1)); clear ho hg E3))
          go_ret
          refine ⟨_, rfl, ?_, below_step HBW.out BW4.out⟩
          have he := E4.out.lower HBW.out.size
          rw [ge.out]
          exact he
      · rw [hb] at hcall
        have HI2 : Hid (ins befM l x = ins befM (l.take q) x ++ l.drop q) := hide (by
          rw [HI.out, HKQ.out, List.take_succ_eq_append_getElem hq, HTq.out, ins_yes _ _ _ hb, List.drop_eq_getElem_cons hq, HTq.out]
          simp)
        clear fin
        go_wp2_with fail
        go_quiet_grown ((go_at_call 46; exact hcall _ _))
        clear q0 q1 q2 q3 q4 q5 q6 p0 p1 p2 p3 p4 p5 p6 hcall
        have HG2 := hide (HG.out.trans (Gr.of (w := wr) nq osq))
        generalize grow (wr.drewN nq) osq = w2 at HG2 ⊢
        go_wp2_with fail
        go_roundw
        case rel => exact ⟨q, by omega, by first | rfl | (congr 1; omega), HG2, HI2⟩
        case measure => simp [intOf]; omega
/-- END OF insert_call -/
theorem nil_C (w : World) (A : Option Addr) : Kd.C k25 w A 0 ([] : List M) := ⟨rfl, by omega, fun h => absurd h (by omega)⟩
set_option maxHeartbeats 8000000 in
set_option maxRecDepth 100000 in
theorem insert_nil (c : Nat) (x : M) (w : World) :
    Calls Try.prog 42 #[.slice none 0 c, .agg (c25 x).toArray] w (Made w [x]) := by
  have hu := Try.underlying25
  have hk := Try.underlying23
  have mixed : Try.prog.follows .mixedOrders = true := by kernel_rfl
  have B0 : Hid (Below w.heap.size w (w.alloc (.cells (c25 x).toArray 25))) := hide ((Below.refl w.heap.size w).alloc (Nat.le_refl _) _)
  have BA := hide (Blk.new w 25 (c25 x).toArray)
  unfold c25 at B0 BA ⊢
  go_enter Try.func42, Try.ntmps42
  go_wp2_with fail
  generalize w.alloc (.cells [.int .i64 x.f0.f0, .int .i64 x.f0.f1, .int .i64 x.f0.f2, .int .i64 x.f1, .int .i64 x.f2, .int .i64 x.f3, .bool x.f4].toArray 25) = W at B0 BA ⊢
  obtain ⟨gb, hgb⟩ : ∃ g, w.heap.size = g := ⟨_, rfl⟩
  rw [hgb] at BA ⊢
  have HGB := hide hgb
  clear hgb
  have g1 : decide ((0 : Int) < 0) = false := by simp
  refine wp_loop_rounds 1 ?_
  rw [rounds_succ]
  go_wp2_with fail
  go_quiet (fail)
  have HBW : Hid (Below w.heap.size w (W.drewN nq)) := hide (below_drewN B0.out _)
  have HFB : Hid (Blk (W.drewN nq) gb 25 #[.int .i64 x.f0.f0, .int .i64 x.f0.f1, .int .i64 x.f0.f2, .int .i64 x.f1, .int .i64 x.f2, .int .i64 x.f3, .bool x.f4]) := hide (BA.out.drewN _)
  generalize W.drewN nq = w2 at HBW HFB ⊢
  have E1 : Hid (OwnM (w2.alloc (.cells #[] 25)) w2.heap.size (.slice (some ⟨w2.heap.size, 0, none⟩) 0 0) []) := hide (Own.empty w2 _ _ (Nat.le_refl _))
  have BW1 : Hid (Below w2.heap.size w2 (w2.alloc (.cells #[] 25))) := hide ((Below.refl w2.heap.size w2).alloc (Nat.le_refl _) _)
  clear B0 BA
  go_wp2_with (first
    | ((with_reducible refine gate_builtin (b := .append) (xs := #[.tmp 22, .tmp 25]) rfl ?_); at_builtin; refine wp_append flatM rfl k25_open rfl (.tmp 22) (.tmp 25) 26 rfl zM 56 Try.underlying26 infoM rfl _ rfl E1.out _ _ _ [] rfl (nil_C _ none) (by omega) ?aL ?aB ?_; (case aL => simp); (case aB => exact BW1.out.size); intro v1 w3 ho hg; have E2 := hide ho; have BW2 := hide (BW1.out.grown hg BW1.out.size (fun b hb => (E1.out.blk b hb).1)); obtain ⟨x0, x1, x2, x3, x4, x5, x6⟩ := blk7 (HFB.out.below' BW2.out); clear ho hg E1)
    | ((with_reducible refine gate_builtin (b := .append) (xs := #[.tmp 27, .tmp 29]) rfl ?_); at_builtin; refine wp_append flatM rfl k25_open rfl (.tmp 27) (.tmp 29) 26 rfl zM 56 Try.underlying26 infoM rfl _ rfl (E2.out.alloc _) _ _ _ [x] rfl (C_one (Blk.new w3 _ _) flatM rfl k25_mk) (by omega) ?bL ?bB ?_; (case bL => simp); (case bB => have := BW2.out.size; simp; omega); intro v2 w4 ho hg; have E3 := hide ho; have BW3 := hide ((BW2.out.alloc BW2.out.size _).grown hg (by have := BW2.out.size; simp; omega) (fun b hb => (E2.out.blk b hb).1)); clear ho hg E2 x0 x1 x2 x3 x4 x5 x6)
    | ((with_reducible refine gate_builtin (b := .append) (xs := #[.tmp 31, .tmp 34]) rfl ?_); at_builtin; refine wp_append flatM rfl k25_open rfl (.tmp 31) (.tmp 34) 26 rfl zM 56 Try.underlying26 infoM rfl _ rfl E3.out _ _ _ [] rfl (nil_C _ none) (by omega) ?cL ?cB ?_; (case cL => simp); (case cB => exact BW3.out.size); intro v3 w5 ho hg; have E4 := hide ho; have BW4 := hide (BW3.out.grown hg BW3.out.size (fun b hb => (E3.out.blk b hb).1)); clear ho hg E3))
  go_ret
  refine ⟨_, rfl, ?_, below_step HBW.out BW4.out⟩
  have he := E4.out.lower HBW.out.size
  simpa using he
theorem insert_call (A : Option Addr) (c : Nat) (l : List M) (x : M) (hc : l.length ≤ c) (y : (l.length + 1) * 56 ≤ 140737488355328) (w : World) (hr : Kd.C k25 w A l.length l) :
    Calls Try.prog 42 #[.slice A l.length c, .agg (c25 x).toArray] w (Made w (ins befM l x)) := by
  cases A with
  | some ad => exact insert_some ad c l x hc y w hr
  | none =>
    have hl : l = [] := by
      rcases Nat.eq_zero_or_pos l.length with h0 | h0
      · exact List.eq_nil_of_length_eq_zero h0
      · obtain ⟨ad, e, _⟩ := hr.2.2 h0
        cases e
    subst hl
    exact insert_nil c x w
end Go.Proofs.Ytkhdghlgkljdgaa.Ref02
