/- The contract of the reference's Merge. No law is proved here. -/
import Derived.Test.YtcfhkapalcfpiaaMerge
import Derived.Shelf.SlSortCmp.QuietGrown
set_option linter.unusedVariables false
set_option linter.unusedSimpArgs false
namespace Go.Proofs.Ytcfhkapalcfpiaa.MergeRef
open Go.Proofs Go.RowKit Go.Sort Go.Proofs.Ytcfhkapalcfpiaa.Types Go.Proofs.Ytcfhkapalcfpiaa.Heap Go.Proofs.Ytcfhkapalcfpiaa.Row Go.Proofs.Ytcfhkapalcfpiaa.Ord Go.Proofs.YtcfhkapalcfpiaaW.PrintWords Go.Proofs.YtcfhkapalcfpiaaW.PrintLast Go.Proofs.YtcfhkapalcfpiaaW.PrintMore
open Go.Proofs.Ytcfhkapalcfpiaa.SortPure (ins isort ins_nil ins_no ins_yes length_ins isort_snoc length_isort)
open Go.Proofs.Ytcfhkapalcfpiaa.Sorted (M OwnM flatM infoM zM weakM)
open Go.Proofs.Ytcfhkapalcfpiaa.Merge (at_row flat_take flat_le)
theorem sign_call (a b : Int) (w : World) : Calls Try.prog 33 #[.int .i64 a, .int .i64 b] w fun e w' => e = .returned (.int .i64 (sg a b)) ∧ w = w' := by
  obtain ⟨s, hs⟩ : ∃ s, sg a b = s := ⟨_, rfl⟩
  rw [hs]
  by_cases h1 : a < b
  · obtain rfl : s = -1 := by rw [← hs]; unfold sg; rw [if_pos h1]
    clear hs
    go_enter Try.func33, Try.ntmps33
    go_wp2
    go_ret
    exact ⟨rfl, rfl⟩
  · by_cases h2 : b < a
    · obtain rfl : s = 1 := by rw [← hs]; unfold sg; rw [if_neg h1, if_pos h2]
      clear hs
      go_enter Try.func33, Try.ntmps33
      go_wp2
      go_ret
      exact ⟨rfl, rfl⟩
    · obtain rfl : s = 0 := by rw [← hs]; unfold sg; rw [if_neg h1, if_neg h2]
      clear hs
      go_enter Try.func33, Try.ntmps33
      go_wp2
      go_ret
      exact ⟨rfl, rfl⟩
set_option maxHeartbeats 4000000 in
set_option maxRecDepth 100000 in
theorem rck_call (a b c x y z : Int) (w : World) : Calls Try.prog 26 #[.agg #[.int .i64 a, .int .i64 b, .int .i64 c], .agg #[.int .i64 x, .int .i64 y, .int .i64 z]] w fun e w' => e = .returned (.int .i64 (ck a b c x y z)) ∧ Gr w w' := by
  have hu := Try.underlying27
  have G2 : Hid (Gr w ((w.alloc (.cells #[.int .i64 a, .int .i64 b, .int .i64 c] 27)).alloc (.cells #[.int .i64 x, .int .i64 y, .int .i64 z] 27))) := hide (((Gr.refl w).alloc _).alloc _)
  unfold ck
  by_cases h1 : a = x
  · subst h1
    rw [if_pos rfl]
    by_cases h2 : b = y
    · subst h2
      rw [if_pos rfl]
      have H := hide (fun W => sign_call c z W)
      obtain ⟨s, hs⟩ : ∃ s, sg c z = s := ⟨_, rfl⟩
      rw [hs] at H ⊢
      clear hs
      go_enter Try.func26, Try.ntmps26
      go_wp2_with (go_at_call 33; ((refine (H.out _).mono ?_); rintro e w' ⟨rfl, rfl⟩))
      go_ret
      exact ⟨rfl, G2.out⟩
    · rw [if_neg h2]
      have H := hide (fun W => sign_call b y W)
      obtain ⟨s, hs⟩ : ∃ s, sg b y = s := ⟨_, rfl⟩
      rw [hs] at H ⊢
      have b1 : (b == y) = false := by simpa using h2
      have b2 : (b != y) = true := by simpa using h2
      clear hs h2
      go_enter Try.func26, Try.ntmps26
      go_wp2_with (go_at_call 33; ((refine (H.out _).mono ?_); rintro e w' ⟨rfl, rfl⟩))
      go_ret
      exact ⟨rfl, G2.out⟩
  · rw [if_neg h1]
    have H := hide (fun W => sign_call a x W)
    obtain ⟨s, hs⟩ : ∃ s, sg a x = s := ⟨_, rfl⟩
    rw [hs] at H ⊢
    have b1 : (a == x) = false := by simpa using h1
    have b2 : (a != x) = true := by simpa using h1
    clear hs h1
    go_enter Try.func26, Try.ntmps26
    go_wp2_with (go_at_call 33; ((refine (H.out _).mono ?_); rintro e w' ⟨rfl, rfl⟩))
    go_ret
    exact ⟨rfl, G2.out⟩
/-- A cell of an old block in every world of the class. -/
theorem cg {w : World} {a : Addr} {v : Value} (h : w.cell? a = some v) : ∀ n os, (grow (w.drewN n) os).cell? a = some v := cell_grown (World.block_lt_of_cell? w a h) h
theorem gr_call {P : Program} {f : FuncId} {args : Array Value} {v : Value} (h : ∀ w, Calls P f args w fun e w' => e = .returned v ∧ Gr w w') (w : World) (n : Nat) (os : Array Obj) : Calls P f args (grow (w.drewN n) os) fun e w'' => e = .returned v ∧ ∃ p : GrownBy, w'' = grow (w.drewN p.n) p.os :=
  Calls.grown_of (h _)
theorem Gr.of {w : World} (n : Nat) (os : Array Obj) : Gr w (grow (w.drewN n) os) := ⟨n, os, rfl⟩
theorem len_zs {l : List (List M)} {i n : Nat} (hi : i < l.length) (hn : n ≤ (l[i]).length) : (isort befD ((l.take i).flatten ++ (l[i]).take n)).length + ((l[i]).length - n) ≤ l.flatten.length := by
  rw [length_isort, List.length_append, List.length_take]
  have := flat_le l (i + 1)
  rw [flat_take hi, List.length_append] at this
  omega
set_option maxHeartbeats 16000000 in
set_option maxRecDepth 100000 in
theorem rmerge_call (A : Option Addr) (c : Nat) (l : List (List M)) (hc : l.length ≤ c) (y : l.flatten.length * 40 ≤ 140737488351232) (y2 : l.length * 24 ≤ 140737488351232) (w : World) (hr : Kd.C (Kd.slice 29 k29) w A l.length l) :
    Calls Try.prog 22 #[.slice A l.length c] w fun e w' => ∃ v, e = .returned v ∧ OwnM w' w.heap.size v (isort befD l.flatten) ∧ Below w.heap.size w w' := by
  have hu := Try.underlying29
  have hk := Try.underlying27
  have mixed : Try.prog.follows .mixedOrders = true := by kernel_rfl
  have HR := hide hr
  have HY := hide y
  have hl2 : (l.length : Int) ≤ 5864062014634 := by omega
  clear hr y y2
  go_enter Try.func22, Try.ntmps22
  go_wp2_with fail
  go_loopw [3, 4] (fun v iv wr => ∃ i : Nat, i ≤ l.length ∧ iv = .int .i64 i ∧ Hid (OwnM wr w.heap.size v (isort befD (l.take i).flatten)) ∧ Hid (Below w.heap.size w wr)) (fun _ iv _ => l.length - (intOf iv).toNat)
  case atStart => exact ⟨0, Nat.zero_le _, rfl, hide (Own.nil _ _ _ _ _), hide (Below.refl _ _)⟩
  case round =>
    obtain ⟨i, hi, rfl, HO, HB⟩ := hrel
    by_cases hlt : i < l.length
    · have b1 : (i : Int) < (l.length : Int) := by omega
      go_wp2_with fail
      go_loopw [3, 5] (fun v nv wr => ∃ n : Nat, n ≤ (l[i]).length ∧ nv = .int .i64 n ∧ Hid (OwnM wr w.heap.size v (isort befD ((l.take i).flatten ++ (l[i]).take n))) ∧ Hid (Below w.heap.size w wr)) (fun _ nv _ => (l[i]).length - (intOf nv).toNat)
      case atStart => exact ⟨0, Nat.zero_le _, rfl, by rw [List.take_zero, List.append_nil]; exact HO, HB⟩
      case round =>
        clear HO HB
        obtain ⟨n, hn, rfl, HO, HB⟩ := hrel
        obtain ⟨ad, B, cB, rfl, qr, hcB, hCB⟩ := at_row (Kd.C_below HR.out HB.out) hlt
        have HCB := hide hCB
        have HLz := hide (len_zs hlt hn)
        by_cases hlt2 : n < (l[i]).length
        · have b2 : (n : Int) < ((l[i]).length : Int) := by omega
          obtain ⟨adB, hB, x0, x1, x2, x3, x4⟩ := at_S29 HCB.out hlt2
          subst hB
          obtain ⟨A1, c1, hv, hc1, hC1, _⟩ := HO.out.reads flatM rfl k29_mk
          subst hv
          have HS : Hid (isort befD ((l.take i).flatten ++ (l[i]).take (n + 1)) = ins befD (isort befD ((l.take i).flatten ++ (l[i]).take n)) (l[i])[n]) := hide (by rw [List.take_succ_eq_append_getElem hlt2, ← List.append_assoc, isort_snoc])
          obtain ⟨x, hx⟩ : ∃ x, (l[i])[n] = x := ⟨_, rfl⟩
          rw [hx] at x0 x1 x2 x3 x4 HS
          obtain ⟨zs, hz⟩ : ∃ z, isort befD ((l.take i).flatten ++ (l[i]).take n) = z := ⟨_, rfl⟩
          rw [hz] at HS HO HLz hC1 hc1 ⊢
          have HC1 := hide hC1
          have Hc1 := hide hc1
          have hL42 : (l[i]).length ≤ l.flatten.length := by
            have := flat_le l (i + 1)
            rw [flat_take hlt, List.length_append] at this
            omega
          have hn63 : (n : Int) ≤ 9223372036854775806 := by have := HY.out; omega
          clear hz hC1 hc1 hL42
          obtain ⟨L, hL⟩ : ∃ L, (l[i]).length = L := ⟨_, rfl⟩
          rw [hL] at HLz qr b2 hlt2
          have HLn : Hid ((l[i]).length = L) := hide hL
          have hz63 : (zs.length : Int) ≤ 9223372036854775806 := by have := HLz.out; have := HY.out; omega
          clear hL
          have fin : Hid (∀ w2, Gr wr w2 → Below w.heap.size w w2 ∧ Kd.C k29 w2 A1 zs.length zs ∧ Kd.C k29 w2 (some adB) (l[i]).length (l[i]) ∧ w2.cell? (ad.add i) = some (.slice (some adB) L cB)) := hide (fun w2 hg => ⟨below_step HB.out hg.below, C_below HC1.out hg.below, C_below HCB.out hg.below, (hg.below.cell (World.block_lt_of_cell? _ _ qr)).trans qr⟩)
          have HXn : Hid (∀ (h : n < (l[i]).length), (l[i])[n] = x) := hide (fun _ => hx)
          clear hx
          cases A1 with
          | none =>
            have hz0 : zs = [] := by
              rcases Nat.eq_zero_or_pos zs.length with h0 | h0
              · exact List.eq_nil_of_length_eq_zero h0
              · obtain ⟨ad, e, _⟩ := HC1.out.2.2 h0
                cases e
            have HZ0 := hide hz0
            have HS2 : Hid (isort befD ((l.take i).flatten ++ (l[i]).take (n + 1)) = [x]) := hide (by rw [HS.out, hz0]; rfl)
            have hz00 : zs.length = 0 := by rw [hz0]; rfl
            rw [hz00] at *
            have g1 : decide ((0 : Int) < 0) = false := by simp
            clear hz0
            go_wp2_with fail
            refine wp_loop_rounds 1 ?_
            rw [rounds_succ]
            go_wp2_with fail
            go_quiet (fail)
            have HFin := hide (fin.out _ ((Gr.refl wr).drewN nq))
            clear fin HO HC1 HCB qr x0 x1 x2 x3 x4 HB
            generalize wr.drewN nq = w2 at HFin ⊢
            obtain ⟨hf1, hf2, hf3, qr2⟩ := HFin.out
            have HBW := hide hf1
            have HL := hide hf2
            have HXB := hide hf3
            clear hf1 hf2 hf3 HFin
            have E1 : Hid (OwnM (w2.alloc (.cells #[] 29)) w2.heap.size (.slice (some ⟨w2.heap.size, 0, none⟩) 0 0) []) := hide (Own.empty w2 _ _ (Nat.le_refl _))
            have BW1 : Hid (Below w2.heap.size w2 (w2.alloc (.cells #[] 29))) := hide ((Below.refl w2.heap.size w2).alloc (Nat.le_refl _) _)
            have HQr : Hid (∀ w3, Below w2.heap.size w2 w3 → w3.cell? (ad.add i) = some (.slice (some adB) L cB)) := hide (fun w3 hb => (hb.cell (World.block_lt_of_cell? _ _ qr2)).trans qr2)
            have HXc : Hid (∀ w3, Below w2.heap.size w2 w3 → w3.cell? (adB.add (n * 5)) = some (.int .i64 x.f0.f0) ∧ w3.cell? ⟨(adB.add (n * 5)).block, (adB.add (n * 5)).off + 1, none⟩ = some (.int .i64 x.f0.f1) ∧ w3.cell? ⟨(adB.add (n * 5)).block, (adB.add (n * 5)).off + 2, none⟩ = some (.int .i64 x.f0.f2) ∧ w3.cell? ⟨(adB.add (n * 5)).block, (adB.add (n * 5)).off + 3, none⟩ = some (.int .i64 x.f1) ∧ w3.cell? ⟨(adB.add (n * 5)).block, (adB.add (n * 5)).off + 4, none⟩ = some (.int .i64 x.f2)) := hide (fun w3 hb => by
              obtain ⟨ad', hA, y0, y1, y2, y3, y4⟩ := at_S29 (C_below HXB.out hb) (i := n) (by have := HLn.out; omega)
              cases hA
              rw [HXn.out (by have := HLn.out; omega)] at y0 y1 y2 y3 y4
              exact ⟨y0, y1, y2, y3, y4⟩)
            clear qr2
            have S1 : Hid (Kd.C k29 (w2.alloc (.cells #[] 29)) none 0 ([] : List M)) := hide ⟨rfl, by omega, fun h => absurd h (by omega)⟩
            have T2 : Hid (Kd.C k29 w2 none 0 ([] : List M)) := hide ⟨rfl, by omega, fun h => absurd h (by omega)⟩
            have hzl : zs.length + 1 ≤ l.flatten.length := by have := HLz.out; omega
            have HZl := hide hzl
            clear hzl
            go_wp2_with (first
              | ((with_reducible refine gate_builtin (b := .append) (xs := #[.tmp 47, .tmp 50]) rfl ?_); at_builtin; refine wp_append flatM rfl k29_open rfl (.tmp 47) (.tmp 50) 22 rfl zM 40 Try.underlying22 infoM rfl _ rfl E1.out _ _ _ [] rfl S1.out (by omega) ?aL ?aB ?_; (case aL => have := HY.out; have := HZl.out; first | (simp; done) | (simp; omega)); (case aB => exact BW1.out.size); intro v1 w3 ho hg; have E2 := hide ho; have BW2 := hide (BW1.out.grown hg BW1.out.size (fun b hb => (E1.out.blk b hb).1)); have qr3 := HQr.out _ BW2.out; obtain ⟨x0, x1, x2, x3, x4⟩ := HXc.out _ BW2.out; clear ho hg E1 S1)
              | ((with_reducible refine gate_builtin (b := .append) (xs := #[.tmp 52, .tmp 60]) rfl ?_); at_builtin; refine wp_append flatM rfl k29_open rfl (.tmp 52) (.tmp 60) 22 rfl zM 40 Try.underlying22 infoM rfl _ rfl (E2.out.alloc _) _ _ _ [x] rfl (C_one (Blk.new w3 _ _) flatM rfl k29_mk) (by omega) ?bL ?bB ?_; (case bL => have := HY.out; have := HZl.out; first | (simp; done) | (simp; omega)); (case bB => have := BW2.out.size; simp; omega); intro v2 w4 ho hg; have E3 := hide ho; have BW3 := hide ((BW2.out.alloc BW2.out.size _).grown hg (by have := BW2.out.size; simp; omega) (fun b hb => (E2.out.blk b hb).1)); clear ho hg E2 x0 x1 x2 x3 x4 qr3)
              | ((with_reducible refine gate_builtin (b := .append) (xs := #[.tmp 62, .tmp 65]) rfl ?_); at_builtin; refine wp_append flatM rfl k29_open rfl (.tmp 62) (.tmp 65) 22 rfl zM 40 Try.underlying22 infoM rfl _ rfl E3.out _ _ _ [] rfl (C_below T2.out BW3.out) (by omega) ?cL ?cB ?_; (case cL => have := HY.out; have := HZl.out; first | (simp; done) | (simp; omega)); (case cB => exact BW3.out.size); intro v3 w5 ho hg; have E4 := hide ho; have BW4 := hide (BW3.out.grown hg BW3.out.size (fun b hb => (E3.out.blk b hb).1)); clear ho hg E3))
            have hO6 : OwnM w5 w.heap.size v3 (isort befD ((l.take i).flatten ++ (l[i]).take (n + 1))) := by
              have he := E4.out.lower HBW.out.size
              rw [HS2.out]
              simpa using he
            have HO6 := hide hO6
            have HB6 := hide (below_step HBW.out BW4.out)
            clear hO6
            go_roundw
            case rel => exact ⟨n + 1, by have := HLn.out; omega, by go_num, HO6, HB6⟩
            case measure => have := HLn.out; simp [intOf]; omega
          | some adA =>
            go_wp2_with fail
            go_loopw [6] (fun s6 wr2 => ∃ k : Nat, k ≤ zs.length ∧ s6 = .int .i64 k ∧ Hid (Gr wr wr2) ∧ Hid (ins befD zs x = ins befD (zs.take k) x ++ zs.drop k)) (fun s6 _ => (intOf s6).toNat)
            case atStart => exact ⟨zs.length, Nat.le_refl _, rfl, hide (Gr.refl _), hide (by rw [List.take_length, List.drop_length, List.append_nil])⟩
            case round =>
              obtain ⟨k, hk, rfl, HG, HI⟩ := hrel
              clear HO HC1 HCB qr x0 x1 x2 x3 x4 HB
              rcases Nat.eq_zero_or_pos k with h0 | h0
              · have g1 : decide ((0 : Int) < (k : Int)) = false := decide_eq_false (by omega)
                have g1n : decide (0 < k) = false := decide_eq_false (by omega)
                have HE : Hid (ins befD zs x = (zs.take k ++ [x]) ++ zs.drop k) := hide (by rw [HI.out, h0]; rfl)
                clear HI h0
                go_wp2_with fail
                go_quiet (fail)
                have HFin := hide (fin.out _ (HG.out.drewN nq))
                clear fin HG
                generalize wr.drewN nq = w2 at HFin ⊢
                have hck : (k : Int) ≤ (c1 : Int) := by have := Hc1.out; omega
                have hlk : (k : Int) ≤ (zs.length : Int) := by omega
                by_cases hkc : c1 = k
                · obtain ⟨hf1, hf2, hf3, qr2⟩ := HFin.out
                  have HBW := hide hf1
                  have HL := hide hf2
                  have HXB := hide hf3
                  clear hf1 hf2 hf3 HFin
                  have E1 : Hid (OwnM (w2.alloc (.cells #[] 29)) w2.heap.size (.slice (some ⟨w2.heap.size, 0, none⟩) 0 0) []) := hide (Own.empty w2 _ _ (Nat.le_refl _))
                  have BW1 : Hid (Below w2.heap.size w2 (w2.alloc (.cells #[] 29))) := hide ((Below.refl w2.heap.size w2).alloc (Nat.le_refl _) _)
                  have HQr : Hid (∀ w3, Below w2.heap.size w2 w3 → w3.cell? (ad.add i) = some (.slice (some adB) L cB)) := hide (fun w3 hb => (hb.cell (World.block_lt_of_cell? _ _ qr2)).trans qr2)
                  have HXc : Hid (∀ w3, Below w2.heap.size w2 w3 → w3.cell? (adB.add (n * 5)) = some (.int .i64 x.f0.f0) ∧ w3.cell? ⟨(adB.add (n * 5)).block, (adB.add (n * 5)).off + 1, none⟩ = some (.int .i64 x.f0.f1) ∧ w3.cell? ⟨(adB.add (n * 5)).block, (adB.add (n * 5)).off + 2, none⟩ = some (.int .i64 x.f0.f2) ∧ w3.cell? ⟨(adB.add (n * 5)).block, (adB.add (n * 5)).off + 3, none⟩ = some (.int .i64 x.f1) ∧ w3.cell? ⟨(adB.add (n * 5)).block, (adB.add (n * 5)).off + 4, none⟩ = some (.int .i64 x.f2)) := hide (fun w3 hb => by
                    obtain ⟨ad', hA, y0, y1, y2, y3, y4⟩ := at_S29 (C_below HXB.out hb) (i := n) (by have := HLn.out; omega)
                    cases hA
                    rw [HXn.out (by have := HLn.out; omega)] at y0 y1 y2 y3 y4
                    exact ⟨y0, y1, y2, y3, y4⟩)
                  clear qr2
                  have S1 := hide (C_take (C_below HL.out BW1.out) hk)
                  have hdr : zs.drop k = [] := List.drop_of_length_le (by have := Hc1.out; omega)
                  have T2 : Hid (Kd.C k29 w2 (some adA) 0 ([] : List M)) := hide ⟨rfl, by omega, fun h => absurd h (by omega)⟩
                  have HE2 : Hid (ins befD zs x = zs.take k ++ [x]) := hide (by rw [HE.out, hdr, List.append_nil])
                  have hz0 : zs.length - k = 0 := by have := Hc1.out; omega
                  clear hdr HE
                  have hzl : zs.length + 1 ≤ l.flatten.length := by have := HLz.out; omega
                  have HZl := hide hzl
                  clear hzl
                  go_wp2_with (first
                    | ((with_reducible refine gate_builtin (b := .append) (xs := #[.tmp 47, .tmp 50]) rfl ?_); at_builtin; refine wp_append flatM rfl k29_open rfl (.tmp 47) (.tmp 50) 22 rfl zM 40 Try.underlying22 infoM rfl _ rfl E1.out _ _ _ (zs.take k) rfl S1.out (by omega) ?aL ?aB ?_; (case aL => have := HY.out; have := HZl.out; first | (simp; done) | (simp; omega)); (case aB => exact BW1.out.size); intro v1 w3 ho hg; have E2 := hide ho; have BW2 := hide (BW1.out.grown hg BW1.out.size (fun b hb => (E1.out.blk b hb).1)); have qr3 := HQr.out _ BW2.out; obtain ⟨x0, x1, x2, x3, x4⟩ := HXc.out _ BW2.out; clear ho hg E1 S1)
                    | ((with_reducible refine gate_builtin (b := .append) (xs := #[.tmp 52, .tmp 60]) rfl ?_); at_builtin; refine wp_append flatM rfl k29_open rfl (.tmp 52) (.tmp 60) 22 rfl zM 40 Try.underlying22 infoM rfl _ rfl (E2.out.alloc _) _ _ _ [x] rfl (C_one (Blk.new w3 _ _) flatM rfl k29_mk) (by omega) ?bL ?bB ?_; (case bL => have := HY.out; have := HZl.out; first | (simp; done) | (simp; omega)); (case bB => have := BW2.out.size; simp; omega); intro v2 w4 ho hg; have E3 := hide ho; have BW3 := hide ((BW2.out.alloc BW2.out.size _).grown hg (by have := BW2.out.size; simp; omega) (fun b hb => (E2.out.blk b hb).1)); clear ho hg E2 x0 x1 x2 x3 x4 qr3)
                    | ((with_reducible refine gate_builtin (b := .append) (xs := #[.tmp 62, .tmp 65]) rfl ?_); at_builtin; refine wp_append flatM rfl k29_open rfl (.tmp 62) (.tmp 65) 22 rfl zM 40 Try.underlying22 infoM rfl _ rfl E3.out _ _ _ [] rfl (C_below T2.out BW3.out) (by omega) ?cL ?cB ?_; (case cL => have := HY.out; have := HZl.out; first | (simp; done) | (simp; omega)); (case cB => exact BW3.out.size); intro v3 w5 ho hg; have E4 := hide ho; have BW4 := hide (BW3.out.grown hg BW3.out.size (fun b hb => (E3.out.blk b hb).1)); clear ho hg E3))
                  have hO6 : OwnM w5 w.heap.size v3 (isort befD ((l.take i).flatten ++ (l[i]).take (n + 1))) := by
                    have he := E4.out.lower HBW.out.size
                    rw [List.append_nil] at he
                    rw [HS.out, HE2.out]
                    exact he
                  have HO6 := hide hO6
                  have HB6 := hide (below_step HBW.out BW4.out)
                  clear hO6
                  go_roundw
                  case rel => exact ⟨n + 1, by have := HLn.out; omega, by go_num, HO6, HB6⟩
                  case measure => have := HLn.out; simp [intOf]; omega
                · obtain ⟨hf1, hf2, hf3, qr2⟩ := HFin.out
                  have HBW := hide hf1
                  have HL := hide hf2
                  have HXB := hide hf3
                  clear hf1 hf2 hf3 HFin
                  have E1 : Hid (OwnM (w2.alloc (.cells #[] 29)) w2.heap.size (.slice (some ⟨w2.heap.size, 0, none⟩) 0 0) []) := hide (Own.empty w2 _ _ (Nat.le_refl _))
                  have BW1 : Hid (Below w2.heap.size w2 (w2.alloc (.cells #[] 29))) := hide ((Below.refl w2.heap.size w2).alloc (Nat.le_refl _) _)
                  have HQr : Hid (∀ w3, Below w2.heap.size w2 w3 → w3.cell? (ad.add i) = some (.slice (some adB) L cB)) := hide (fun w3 hb => (hb.cell (World.block_lt_of_cell? _ _ qr2)).trans qr2)
                  have HXc : Hid (∀ w3, Below w2.heap.size w2 w3 → w3.cell? (adB.add (n * 5)) = some (.int .i64 x.f0.f0) ∧ w3.cell? ⟨(adB.add (n * 5)).block, (adB.add (n * 5)).off + 1, none⟩ = some (.int .i64 x.f0.f1) ∧ w3.cell? ⟨(adB.add (n * 5)).block, (adB.add (n * 5)).off + 2, none⟩ = some (.int .i64 x.f0.f2) ∧ w3.cell? ⟨(adB.add (n * 5)).block, (adB.add (n * 5)).off + 3, none⟩ = some (.int .i64 x.f1) ∧ w3.cell? ⟨(adB.add (n * 5)).block, (adB.add (n * 5)).off + 4, none⟩ = some (.int .i64 x.f2)) := hide (fun w3 hb => by
                    obtain ⟨ad', hA, y0, y1, y2, y3, y4⟩ := at_S29 (C_below HXB.out hb) (i := n) (by have := HLn.out; omega)
                    cases hA
                    rw [HXn.out (by have := HLn.out; omega)] at y0 y1 y2 y3 y4
                    exact ⟨y0, y1, y2, y3, y4⟩)
                  clear qr2
                  have S1 := hide (C_take (C_below HL.out BW1.out) hk)
                  have T1 := C_drop (k := 5) (c := c1) HL.out rfl hk Hc1.out
                  rw [if_neg hkc] at T1
                  have T2 := hide T1
                  clear T1
                  have hzl : zs.length + 1 ≤ l.flatten.length := by have := HLz.out; omega
                  have HZl := hide hzl
                  clear hzl
                  go_wp2_with (first
                    | ((with_reducible refine gate_builtin (b := .append) (xs := #[.tmp 47, .tmp 50]) rfl ?_); at_builtin; refine wp_append flatM rfl k29_open rfl (.tmp 47) (.tmp 50) 22 rfl zM 40 Try.underlying22 infoM rfl _ rfl E1.out _ _ _ (zs.take k) rfl S1.out (by omega) ?aL ?aB ?_; (case aL => have := HY.out; have := HZl.out; first | (simp; done) | (simp; omega)); (case aB => exact BW1.out.size); intro v1 w3 ho hg; have E2 := hide ho; have BW2 := hide (BW1.out.grown hg BW1.out.size (fun b hb => (E1.out.blk b hb).1)); have qr3 := HQr.out _ BW2.out; obtain ⟨x0, x1, x2, x3, x4⟩ := HXc.out _ BW2.out; clear ho hg E1 S1)
                    | ((with_reducible refine gate_builtin (b := .append) (xs := #[.tmp 52, .tmp 60]) rfl ?_); at_builtin; refine wp_append flatM rfl k29_open rfl (.tmp 52) (.tmp 60) 22 rfl zM 40 Try.underlying22 infoM rfl _ rfl (E2.out.alloc _) _ _ _ [x] rfl (C_one (Blk.new w3 _ _) flatM rfl k29_mk) (by omega) ?bL ?bB ?_; (case bL => have := HY.out; have := HZl.out; first | (simp; done) | (simp; omega)); (case bB => have := BW2.out.size; simp; omega); intro v2 w4 ho hg; have E3 := hide ho; have BW3 := hide ((BW2.out.alloc BW2.out.size _).grown hg (by have := BW2.out.size; simp; omega) (fun b hb => (E2.out.blk b hb).1)); clear ho hg E2 x0 x1 x2 x3 x4 qr3)
                    | ((with_reducible refine gate_builtin (b := .append) (xs := #[.tmp 62, .tmp 65]) rfl ?_); at_builtin; refine wp_append flatM rfl k29_open rfl (.tmp 62) (.tmp 65) 22 rfl zM 40 Try.underlying22 infoM rfl _ rfl E3.out _ _ _ (zs.drop k) rfl (C_below T2.out BW3.out) (by omega) ?cL ?cB ?_; (case cL => have := HY.out; have := HZl.out; first | (simp; done) | (simp; omega)); (case cB => exact BW3.out.size); intro v3 w5 ho hg; have E4 := hide ho; have BW4 := hide (BW3.out.grown hg BW3.out.size (fun b hb => (E3.out.blk b hb).1)); clear ho hg E3))
                  have hO6 : OwnM w5 w.heap.size v3 (isort befD ((l.take i).flatten ++ (l[i]).take (n + 1))) := by
                    have he := E4.out.lower HBW.out.size
                    rw [HS.out, HE.out]
                    exact he
                  have HO6 := hide hO6
                  have HB6 := hide (below_step HBW.out BW4.out)
                  clear hO6
                  go_roundw
                  case rel => exact ⟨n + 1, by have := HLn.out; omega, by go_num, HO6, HB6⟩
                  case measure => have := HLn.out; simp [intOf]; omega
              · obtain ⟨q, hkq⟩ : ∃ q, k = q + 1 := ⟨k - 1, by omega⟩
                have hq : q < zs.length := by omega
                have HKQ := hide hkq
                obtain ⟨hf1, hf2, hf3, qr2⟩ := fin.out wr HG.out
                obtain ⟨ad', hA, q0, q1, q2, q3, q4⟩ := at_S29 hf2 hq
                cases hA
                obtain ⟨ad', hA, p0, p1, p2, p3, p4⟩ := at_S29 hf3 (i := n) (by have := HLn.out; omega)
                cases hA
                rw [HXn.out (by have := HLn.out; omega)] at p0 p1 p2 p3 p4
                obtain ⟨t, ht⟩ : ∃ t, zs[q] = t := ⟨_, rfl⟩
                rw [ht] at q0 q1 q2 q3 q4
                have HTq := hide ht
                clear ht hf1 hf2 hf3 q3 q4 p3 p4
                have q0 := cg q0; have q1 := cg q1; have q2 := cg q2; have p0 := cg p0; have p1 := cg p1; have p2 := cg p2; have qr2 := cg qr2
                have g1 : decide ((0 : Int) < (k : Int)) = true := decide_eq_true (by omega)
                have g1n : decide (0 < k) = true := decide_eq_true (by omega)
                have g3 : (0 : Int) < (k : Int) := by omega
                have g4 : (k : Int) - 1 = (q : Int) := by omega
                have g5 : IntKind.i64.wrap (q : Int) = (q : Int) := by rw [IntKind.wrap_i64]; omega
                have g6 : (q : Int) < (zs.length : Int) := by omega
                clear hkq
                obtain ⟨r, hr⟩ : ∃ r, ck x.f0.f0 x.f0.f1 x.f0.f2 t.f0.f0 t.f0.f1 t.f0.f2 = r := ⟨_, rfl⟩
                have hcall := gr_call (fun W => rck_call x.f0.f0 x.f0.f1 x.f0.f2 t.f0.f0 t.f0.f1 t.f0.f2 W) wr
                rw [hr] at hcall
                by_cases hlt0 : r < 0
                · have hb : befD x t = true := decide_eq_true (by unfold ordD; rw [hr]; exact hlt0)
                  have HI2 : Hid (ins befD zs x = ins befD (zs.take q) x ++ zs.drop q) := hide (by
                    rw [HI.out, HKQ.out, List.take_succ_eq_append_getElem hq, HTq.out, ins_yes _ _ _ hb, List.drop_eq_getElem_cons hq, HTq.out]
                    simp)
                  have g7 : decide (r < 0) = true := decide_eq_true hlt0
                  clear fin hb hr
                  go_wp2_with fail
                  go_quiet_grown ((go_at_call 26; exact hcall _ _))
                  clear q0 q1 q2 p0 p1 p2 qr2 hcall
                  have HG2 := hide (HG.out.trans (Gr.of (w := wr) nq osq))
                  generalize grow (wr.drewN nq) osq = w2 at HG2 ⊢
                  go_wp2_with fail
                  go_roundw
                  case rel => exact ⟨q, by omega, by first | rfl | (congr 1; omega), HG2, HI2⟩
                  case measure => simp [intOf]; omega
                · have hb : befD x t = false := decide_eq_false (by unfold ordD; rw [hr]; exact hlt0)
                  have HE : Hid (ins befD zs x = (zs.take k ++ [x]) ++ zs.drop k) := hide (by
                    rw [HI.out, HKQ.out, List.take_succ_eq_append_getElem hq, HTq.out, ins_no _ _ _ hb]
                    simp)
                  have g7 : decide (r < 0) = false := decide_eq_false hlt0
                  clear HI hb hr
                  go_wp2_with fail
                  go_quiet_grown ((go_at_call 26; exact hcall _ _))
                  clear q0 q1 q2 p0 p1 p2 qr2 hcall
                  have HFin := hide (fin.out _ (HG.out.trans (Gr.of (w := wr) nq osq)))
                  clear fin HG
                  generalize grow (wr.drewN nq) osq = w2 at HFin ⊢
                  clear g4 g5 g6 g1 g3 h0 g7 hlt0 g1n
                  have hck : (k : Int) ≤ (c1 : Int) := by have := Hc1.out; omega
                  have hlk : (k : Int) ≤ (zs.length : Int) := by omega
                  by_cases hkc : c1 = k
                  · obtain ⟨hf1, hf2, hf3, qr2⟩ := HFin.out
                    have HBW := hide hf1
                    have HL := hide hf2
                    have HXB := hide hf3
                    clear hf1 hf2 hf3 HFin
                    have E1 : Hid (OwnM (w2.alloc (.cells #[] 29)) w2.heap.size (.slice (some ⟨w2.heap.size, 0, none⟩) 0 0) []) := hide (Own.empty w2 _ _ (Nat.le_refl _))
                    have BW1 : Hid (Below w2.heap.size w2 (w2.alloc (.cells #[] 29))) := hide ((Below.refl w2.heap.size w2).alloc (Nat.le_refl _) _)
                    have HQr : Hid (∀ w3, Below w2.heap.size w2 w3 → w3.cell? (ad.add i) = some (.slice (some adB) L cB)) := hide (fun w3 hb => (hb.cell (World.block_lt_of_cell? _ _ qr2)).trans qr2)
                    have HXc : Hid (∀ w3, Below w2.heap.size w2 w3 → w3.cell? (adB.add (n * 5)) = some (.int .i64 x.f0.f0) ∧ w3.cell? ⟨(adB.add (n * 5)).block, (adB.add (n * 5)).off + 1, none⟩ = some (.int .i64 x.f0.f1) ∧ w3.cell? ⟨(adB.add (n * 5)).block, (adB.add (n * 5)).off + 2, none⟩ = some (.int .i64 x.f0.f2) ∧ w3.cell? ⟨(adB.add (n * 5)).block, (adB.add (n * 5)).off + 3, none⟩ = some (.int .i64 x.f1) ∧ w3.cell? ⟨(adB.add (n * 5)).block, (adB.add (n * 5)).off + 4, none⟩ = some (.int .i64 x.f2)) := hide (fun w3 hb => by
                      obtain ⟨ad', hA, y0, y1, y2, y3, y4⟩ := at_S29 (C_below HXB.out hb) (i := n) (by have := HLn.out; omega)
                      cases hA
                      rw [HXn.out (by have := HLn.out; omega)] at y0 y1 y2 y3 y4
                      exact ⟨y0, y1, y2, y3, y4⟩)
                    clear qr2
                    have S1 := hide (C_take (C_below HL.out BW1.out) hk)
                    have hdr : zs.drop k = [] := List.drop_of_length_le (by have := Hc1.out; omega)
                    have T2 : Hid (Kd.C k29 w2 (some adA) 0 ([] : List M)) := hide ⟨rfl, by omega, fun h => absurd h (by omega)⟩
                    have HE2 : Hid (ins befD zs x = zs.take k ++ [x]) := hide (by rw [HE.out, hdr, List.append_nil])
                    have hz0 : zs.length - k = 0 := by have := Hc1.out; omega
                    clear hdr HE
                    have hzl : zs.length + 1 ≤ l.flatten.length := by have := HLz.out; omega
                    have HZl := hide hzl
                    clear hzl
                    go_wp2_with (first
                      | ((with_reducible refine gate_builtin (b := .append) (xs := #[.tmp 47, .tmp 50]) rfl ?_); at_builtin; refine wp_append flatM rfl k29_open rfl (.tmp 47) (.tmp 50) 22 rfl zM 40 Try.underlying22 infoM rfl _ rfl E1.out _ _ _ (zs.take k) rfl S1.out (by omega) ?aL ?aB ?_; (case aL => have := HY.out; have := HZl.out; first | (simp; done) | (simp; omega)); (case aB => exact BW1.out.size); intro v1 w3 ho hg; have E2 := hide ho; have BW2 := hide (BW1.out.grown hg BW1.out.size (fun b hb => (E1.out.blk b hb).1)); have qr3 := HQr.out _ BW2.out; obtain ⟨x0, x1, x2, x3, x4⟩ := HXc.out _ BW2.out; clear ho hg E1 S1)
                      | ((with_reducible refine gate_builtin (b := .append) (xs := #[.tmp 52, .tmp 60]) rfl ?_); at_builtin; refine wp_append flatM rfl k29_open rfl (.tmp 52) (.tmp 60) 22 rfl zM 40 Try.underlying22 infoM rfl _ rfl (E2.out.alloc _) _ _ _ [x] rfl (C_one (Blk.new w3 _ _) flatM rfl k29_mk) (by omega) ?bL ?bB ?_; (case bL => have := HY.out; have := HZl.out; first | (simp; done) | (simp; omega)); (case bB => have := BW2.out.size; simp; omega); intro v2 w4 ho hg; have E3 := hide ho; have BW3 := hide ((BW2.out.alloc BW2.out.size _).grown hg (by have := BW2.out.size; simp; omega) (fun b hb => (E2.out.blk b hb).1)); clear ho hg E2 x0 x1 x2 x3 x4 qr3)
                      | ((with_reducible refine gate_builtin (b := .append) (xs := #[.tmp 62, .tmp 65]) rfl ?_); at_builtin; refine wp_append flatM rfl k29_open rfl (.tmp 62) (.tmp 65) 22 rfl zM 40 Try.underlying22 infoM rfl _ rfl E3.out _ _ _ [] rfl (C_below T2.out BW3.out) (by omega) ?cL ?cB ?_; (case cL => have := HY.out; have := HZl.out; first | (simp; done) | (simp; omega)); (case cB => exact BW3.out.size); intro v3 w5 ho hg; have E4 := hide ho; have BW4 := hide (BW3.out.grown hg BW3.out.size (fun b hb => (E3.out.blk b hb).1)); clear ho hg E3))
                    have hO6 : OwnM w5 w.heap.size v3 (isort befD ((l.take i).flatten ++ (l[i]).take (n + 1))) := by
                      have he := E4.out.lower HBW.out.size
                      rw [List.append_nil] at he
                      rw [HS.out, HE2.out]
                      exact he
                    have HO6 := hide hO6
                    have HB6 := hide (below_step HBW.out BW4.out)
                    clear hO6
                    go_roundw
                    case rel => exact ⟨n + 1, by have := HLn.out; omega, by go_num, HO6, HB6⟩
                    case measure => have := HLn.out; simp [intOf]; omega
                  · obtain ⟨hf1, hf2, hf3, qr2⟩ := HFin.out
                    have HBW := hide hf1
                    have HL := hide hf2
                    have HXB := hide hf3
                    clear hf1 hf2 hf3 HFin
                    have E1 : Hid (OwnM (w2.alloc (.cells #[] 29)) w2.heap.size (.slice (some ⟨w2.heap.size, 0, none⟩) 0 0) []) := hide (Own.empty w2 _ _ (Nat.le_refl _))
                    have BW1 : Hid (Below w2.heap.size w2 (w2.alloc (.cells #[] 29))) := hide ((Below.refl w2.heap.size w2).alloc (Nat.le_refl _) _)
                    have HQr : Hid (∀ w3, Below w2.heap.size w2 w3 → w3.cell? (ad.add i) = some (.slice (some adB) L cB)) := hide (fun w3 hb => (hb.cell (World.block_lt_of_cell? _ _ qr2)).trans qr2)
                    have HXc : Hid (∀ w3, Below w2.heap.size w2 w3 → w3.cell? (adB.add (n * 5)) = some (.int .i64 x.f0.f0) ∧ w3.cell? ⟨(adB.add (n * 5)).block, (adB.add (n * 5)).off + 1, none⟩ = some (.int .i64 x.f0.f1) ∧ w3.cell? ⟨(adB.add (n * 5)).block, (adB.add (n * 5)).off + 2, none⟩ = some (.int .i64 x.f0.f2) ∧ w3.cell? ⟨(adB.add (n * 5)).block, (adB.add (n * 5)).off + 3, none⟩ = some (.int .i64 x.f1) ∧ w3.cell? ⟨(adB.add (n * 5)).block, (adB.add (n * 5)).off + 4, none⟩ = some (.int .i64 x.f2)) := hide (fun w3 hb => by
                      obtain ⟨ad', hA, y0, y1, y2, y3, y4⟩ := at_S29 (C_below HXB.out hb) (i := n) (by have := HLn.out; omega)
                      cases hA
                      rw [HXn.out (by have := HLn.out; omega)] at y0 y1 y2 y3 y4
                      exact ⟨y0, y1, y2, y3, y4⟩)
                    clear qr2
                    have S1 := hide (C_take (C_below HL.out BW1.out) hk)
                    have T1 := C_drop (k := 5) (c := c1) HL.out rfl hk Hc1.out
                    rw [if_neg hkc] at T1
                    have T2 := hide T1
                    clear T1
                    have hzl : zs.length + 1 ≤ l.flatten.length := by have := HLz.out; omega
                    have HZl := hide hzl
                    clear hzl
                    go_wp2_with (first
                      | ((with_reducible refine gate_builtin (b := .append) (xs := #[.tmp 47, .tmp 50]) rfl ?_); at_builtin; refine wp_append flatM rfl k29_open rfl (.tmp 47) (.tmp 50) 22 rfl zM 40 Try.underlying22 infoM rfl _ rfl E1.out _ _ _ (zs.take k) rfl S1.out (by omega) ?aL ?aB ?_; (case aL => have := HY.out; have := HZl.out; first | (simp; done) | (simp; omega)); (case aB => exact BW1.out.size); intro v1 w3 ho hg; have E2 := hide ho; have BW2 := hide (BW1.out.grown hg BW1.out.size (fun b hb => (E1.out.blk b hb).1)); have qr3 := HQr.out _ BW2.out; obtain ⟨x0, x1, x2, x3, x4⟩ := HXc.out _ BW2.out; clear ho hg E1 S1)
                      | ((with_reducible refine gate_builtin (b := .append) (xs := #[.tmp 52, .tmp 60]) rfl ?_); at_builtin; refine wp_append flatM rfl k29_open rfl (.tmp 52) (.tmp 60) 22 rfl zM 40 Try.underlying22 infoM rfl _ rfl (E2.out.alloc _) _ _ _ [x] rfl (C_one (Blk.new w3 _ _) flatM rfl k29_mk) (by omega) ?bL ?bB ?_; (case bL => have := HY.out; have := HZl.out; first | (simp; done) | (simp; omega)); (case bB => have := BW2.out.size; simp; omega); intro v2 w4 ho hg; have E3 := hide ho; have BW3 := hide ((BW2.out.alloc BW2.out.size _).grown hg (by have := BW2.out.size; simp; omega) (fun b hb => (E2.out.blk b hb).1)); clear ho hg E2 x0 x1 x2 x3 x4 qr3)
                      | ((with_reducible refine gate_builtin (b := .append) (xs := #[.tmp 62, .tmp 65]) rfl ?_); at_builtin; refine wp_append flatM rfl k29_open rfl (.tmp 62) (.tmp 65) 22 rfl zM 40 Try.underlying22 infoM rfl _ rfl E3.out _ _ _ (zs.drop k) rfl (C_below T2.out BW3.out) (by omega) ?cL ?cB ?_; (case cL => have := HY.out; have := HZl.out; first | (simp; done) | (simp; omega)); (case cB => exact BW3.out.size); intro v3 w5 ho hg; have E4 := hide ho; have BW4 := hide (BW3.out.grown hg BW3.out.size (fun b hb => (E3.out.blk b hb).1)); clear ho hg E3))
                    have hO6 : OwnM w5 w.heap.size v3 (isort befD ((l.take i).flatten ++ (l[i]).take (n + 1))) := by
                      have he := E4.out.lower HBW.out.size
                      rw [HS.out, HE.out]
                      exact he
                    have HO6 := hide hO6
                    have HB6 := hide (below_step HBW.out BW4.out)
                    clear hO6
                    go_roundw
                    case rel => exact ⟨n + 1, by have := HLn.out; omega, by go_num, HO6, HB6⟩
                    case measure => have := HLn.out; simp [intOf]; omega
        · have b2 : ¬ (n : Int) < ((l[i]).length : Int) := by omega
          obtain rfl : n = (l[i]).length := by omega
          rw [List.take_length, ← flat_take hlt] at HO
          clear HLz HCB hCB
          obtain ⟨L, hL⟩ : ∃ L, (l[i]).length = L := ⟨_, rfl⟩
          rw [hL] at qr b2 ⊢
          go_wp2_with fail
          go_roundw
          case rel => exact ⟨i + 1, by omega, by go_num, HO, HB⟩
          case measure => simp [intOf]; omega
    · have b1 : ¬ (i : Int) < (l.length : Int) := by omega
      obtain rfl : i = l.length := by omega
      rw [List.take_length] at HO
      go_wp2_with fail
      go_ret
      exact ⟨_, rfl, HO.out, HB.out⟩
end Go.Proofs.Ytcfhkapalcfpiaa.MergeRef
