/- The walk of LinkBack. -/
import Derived.Test.YtdbdaalkmjcifaaLinkD
import Derived.Test.YtdbdaalkmjcifaaKindsLinkBack
import Derived.StillTailTactics
import Derived.Deep.RegionHeld3
import Derived.Deep.QuietTactic
import Derived.BigQuiet
namespace Go.Proofs.Ytdbdaalkmjcifaa.linkBack
open Go.Proofs Go.RowKit Go.Deep Go.Proofs.Ytdbdaalkmjcifaa.Types Go.Proofs.Ytdbdaalkmjcifaa.Heap Go.Proofs.Ytdbdaalkmjcifaa.Row Go.Proofs.Ytdbdaalkmjcifaa.Link Go.Proofs.YtdbdaalkmjcifaaW.PrintWords Go.Proofs.YtdbdaalkmjcifaaW.PrintLast Go.Proofs.YtdbdaalkmjcifaaW.PrintMore
set_option linter.unusedVariables false
set_option linter.unusedSimpArgs false
abbrev L1 : Lk := ⟨0, 1, 1, true⟩
def xi (i : Nat) : Pc := ⟨⟨⟨0, 0, 0⟩, 1, 0, (i : Int), false⟩, 0⟩
theorem turn (a m : Int) (hm : 0 < m) : (a.tmod m + m).tmod m = a % m := by
  have h1 : a.tmod m < m := Int.tmod_lt_of_pos _ hm
  have h2 : -m < a.tmod m := by
    rcases Int.le_total 0 a with h | h
    · have := Int.tmod_nonneg m h
      omega
    · obtain ⟨k, rfl⟩ : ∃ k, a = -k := ⟨-a, by omega⟩
      rw [Int.neg_tmod]
      have := Int.tmod_lt_of_pos k hm
      omega
  rw [Int.tmod_eq_emod_of_nonneg (by omega), Int.add_emod_right]
  have h3 := Int.mul_tdiv_add_tmod a m
  conv => rhs; rw [← h3, Int.add_comm, Int.add_mul_emod_self_left]
set_option maxHeartbeats 16000000 in
set_option maxRecDepth 100000 in
theorem walk (a0 : Int) (w0 : (Lit.int .u8 a0).wf = true) (a1 : Int) (w1 : (Lit.int .i16 a1).wf = true) (a2 : Int) (w2 : (Lit.int .i8 a2).wf = true) (w : World) :
    Calls Try.prog 5 #[.int .u8 a0, .int .i16 a1, .int .i8 a2] w fun e w' => e = .returned (.bool true) ∧ Below w.heap.size w w' := by
  have u0 : IntKind.u8.min ≤ a0 ∧ a0 ≤ IntKind.u8.max := by simpa [Lit.wf] using w0
  have u1 : IntKind.i16.min ≤ a1 ∧ a1 ≤ IntKind.i16.max := by simpa [Lit.wf] using w1
  have u2 : IntKind.i8.min ≤ a2 ∧ a2 ≤ IntKind.i8.max := by simpa [Lit.wf] using w2
  have e1 : IntKind.u8.min = 0 := by decide
  have e2 : IntKind.u8.max = 255 := by decide
  have e3 : IntKind.i16.min = -32768 := by decide
  have e4 : IntKind.i16.max = 32767 := by decide
  have e5 : IntKind.i8.min = -128 := by decide
  have e6 : IntKind.i8.max = 127 := by decide
  have ha : 0 ≤ a0 ∧ a0 < 256 := by omega
  have HA1 : Hid (-32768 ≤ a1 ∧ a1 ≤ 32767) := hide (by omega)
  have HA2 : Hid (-128 ≤ a2 ∧ a2 ≤ 127) := hide (by omega)
  clear w0 w1 w2 u0 u1 u2 e1 e2 e3 e4 e5 e6
  go_enter Try.func5, Try.ntmps5
  go_wp2_with fail
  refine (new_ok L1 100 ⟨by decide, by decide, by decide, by decide, by decide, by decide⟩ _).mono ?_
  rintro e w1 ⟨rfl, hT1, hB1⟩
  have HW1 := hide hT1
  have HB1 := hide hB1
  clear hT1 hB1
  obtain ⟨M, hM⟩ : ∃ M : Nat, 1 + a0 % 30 = (M : Int) := ⟨(1 + a0 % 30).toNat, by omega⟩
  have HM : Hid (1 ≤ M ∧ M ≤ 30) := hide (by omega)
  go_wp2_with fail
  obtain ⟨p, hp⟩ : ∃ p, w.heap.size + 1 = p := ⟨_, rfl⟩
  rw [hp] at HW1 ⊢
  have HP : Hid (w.heap.size < p) := hide (by omega)
  clear hp ha hM
  go_loopw [10] (fun iv wr => ∃ (k : Nat) (A : Option Addr) (c : Nat) (l : List Pc), k ≤ M ∧ l = (List.range k).map xi ∧ iv = .int .i64 k ∧ Hid (WayAt tW wr w.heap.size p L1 100 (.slice A l.length c) l) ∧ Hid (Below w.heap.size w wr)) (fun iv _ => M - (intOf iv).toNat)
  case atStart => exact ⟨0, none, 0, [], Nat.zero_le _, rfl, rfl, HW1, HB1⟩
  case round =>
    obtain ⟨k, A, c, l, hk, hl, rfl, HW, HB⟩ := hrel
    clear HW1 HB1
    have hlen : l.length = k := by rw [hl]; simp
    by_cases hlt : k < M
    · have hput := put_ok wr w.heap.size p L1 100 A c l (xi k) HW.out (by decide) (by decide) (by have := HM.out; omega) HB.out.size (by simp [may, xi]) rfl rfl (.inr (by have := HM.out; unfold room; rw [if_pos (by omega)]; omega))
      unfold c35 xi at hput
      have HPut := hide hput
      have HL2 : Hid (l ++ [xi k] = (List.range (k + 1)).map xi) := hide (by rw [hl, List.range_succ, List.map_append]; rfl)
      clear hput
      have hn : (k : Int) ≤ 30 := by have := HM.out; omega
      have b1 : (k : Int) < (M : Int) := by omega
      clear hl hlen
      go_wp2_with fail
      refine HPut.out.mono ?_
      rintro e w3 ⟨rfl, A', c', hW', hO, hOb⟩
      have HW3 := hide hW'
      have HB3 := hide (HB.out.trans (hO.below HB.out.size (fun b hb => by
        rcases hb with q | q
        · have := HP.out; omega
        · exact (HW.out.own.blk b q.symm).1)))
      clear HPut hW' hO hOb HW HB
      go_wp2_with fail
      go_roundw
      case rel => exact ⟨k + 1, A', c', l ++ [xi k], by omega, HL2.out, by go_num, HW3, HB3⟩
      case measure => simp [intOf]; omega
    · have b1 : ¬ (k : Int) < (M : Int) := by omega
      have hkM : k = M := by omega
      subst hkM
      have hmany : (0 : Int) < (k : Int) := by have := HM.out; omega
      obtain ⟨j, hj⟩ : ∃ j : Nat, a1 % (k : Int) = (j : Int) := ⟨(a1 % (k : Int)).toNat, by have := Int.emod_nonneg a1 (b := (k : Int)) (by omega); omega⟩
      have hjk : j < l.length := by have := Int.emod_lt_of_pos a1 hmany; omega
      have hp1 : (a1.tmod l.length + l.length).tmod l.length = j := by rw [hlen, turn a1 k hmany, hj]
      have hp2 : ((a1 + a2 * k).tmod l.length + l.length).tmod l.length = j := by rw [hlen, turn _ k hmany, Int.add_mul_emod_self_right, hj]
      have hx : l[j] = xi j := by simp [hl]
      have HPk1 := hide (fun W hW => peek_loose W w.heap.size p L1 100 A c l a1 hW (by decide) rfl (by have := HM.out; omega) j hjk hp1)
      have HPk2 := hide (fun W hW => peek_loose W w.heap.size p L1 100 A c l (a1 + a2 * k) hW (by decide) rfl (by have := HM.out; omega) j hjk hp2)
      rw [hx] at HPk1 HPk2
      unfold c35 xi at HPk1 HPk2
      clear hlt hk
      have ha1 := HA1.out
      have ha2 := HA2.out
      have hk30 : (k : Int) ≤ 30 := by have := HM.out; omega
      have hlo : -3840 ≤ a2 * (k : Int) := by
        have := Int.mul_le_mul_of_nonneg_right (show -128 ≤ a2 from ha2.1) (show (0 : Int) ≤ (k : Int) by omega)
        omega
      have hhi : a2 * (k : Int) ≤ 3810 := by
        have := Int.mul_le_mul_of_nonneg_right (show a2 ≤ 127 from ha2.2) (show (0 : Int) ≤ (k : Int) by omega)
        omega
      have hw1 : wrap64 (a2 * (k : Int)) = a2 * (k : Int) := by unfold wrap64; omega
      have hw2 : wrap64 (a1 + a2 * (k : Int)) = a1 + a2 * (k : Int) := by unfold wrap64; omega
      have hJT : Hid ((a1.tmod (k : Int) + (k : Int)).tmod (k : Int) = (j : Int)) := hide (by rw [turn a1 k hmany, hj])
      have hWT : Hid (wrap64 (a1.tmod (k : Int) + (k : Int)) = a1.tmod (k : Int) + (k : Int)) := hide (by
        have t1 : a1.tmod (k : Int) < (k : Int) := Int.tmod_lt_of_pos _ hmany
        have t2 : -(k : Int) < a1.tmod (k : Int) := by
          rcases Int.le_total 0 a1 with h | h
          · have := Int.tmod_nonneg (k : Int) h
            omega
          · obtain ⟨q, rfl⟩ : ∃ q, a1 = -q := ⟨-a1, by omega⟩
            rw [Int.neg_tmod]
            have := Int.tmod_lt_of_pos q hmany
            omega
        generalize a1.tmod (k : Int) = t at t1 t2 ⊢
        unfold wrap64; omega)
      have HLn := hide (fun W (hW : WayAt tW W w.heap.size p L1 100 (.slice A l.length c) l) => (len_call W w.heap.size p L1 100 A c l hW (by decide)).mono (R' := fun e w' => e = .returned (.int .i64 (k : Int)) ∧ W = w') (fun e w' h => ⟨by rw [h.1, hlen], h.2⟩))
      clear hlen hl hj hjk hp1 hp2 hx
      go_wp2_with fail
      refine (HPk1.out _ HW.out).mono ?_
      rintro e w4 ⟨rfl, hb4⟩
      have HB4 := hide (below_step HB.out hb4)
      have HW4 := hide (HW.out.below hb4)
      clear hb4 HB HW HPk1
      rename_i K1 h1 K2 h2
      have HK := hide h1
      clear h1
      go_wp2_with fail
      have HB5 := hide (HB4.out.alloc HB4.out.size (.cells #[.int .i64 0, .int .i64 0, .int .i64 0, .int .i64 1, .int .i64 0, .int .i64 (j : Int), .bool false, .int .i64 0] 35))
      have HW5 := hide (HW4.out.alloc (.cells #[.int .i64 0, .int .i64 0, .int .i64 0, .int .i64 1, .int .i64 0, .int .i64 (j : Int), .bool false, .int .i64 0] 35))
      have HX5 := hide (Blk.new w4 35 #[.int .i64 0, .int .i64 0, .int .i64 0, .int .i64 1, .int .i64 0, .int .i64 (j : Int), .bool false, .int .i64 0])
      generalize w4.alloc (.cells #[.int .i64 0, .int .i64 0, .int .i64 0, .int .i64 1, .int .i64 0, .int .i64 (j : Int), .bool false, .int .i64 0] 35) = w5 at HB5 HW5 HX5 ⊢
      generalize w4.heap.size = g1 at HX5 ⊢
      refine HK.out _ _ ?_
      clear HK K1 HB4 HW4
      have hwt : wrap64 (a1.tmod (k : Int) + (k : Int)) = a1.tmod (k : Int) + (k : Int) := hWT.out
      have hjt : (a1.tmod (k : Int) + (k : Int)).tmod (k : Int) = (j : Int) := hJT.out
      go_wp2_with fail
      refine (HPk2.out _ HW5.out).mono ?_
      rintro e w6 ⟨rfl, hb6⟩
      have HB6 := hide (below_step HB5.out hb6)
      have HW6 := hide (HW5.out.below hb6)
      have HX6 := hide (HX5.out.below' hb6)
      clear hb6 HB5 HW5 HX5 HPk2
      rename_i K1 h1 K2 h2
      have HK := hide h1
      clear h1
      go_wp2_with fail
      have HB7 := hide (HB6.out.alloc HB6.out.size (.cells #[.int .i64 0, .int .i64 0, .int .i64 0, .int .i64 1, .int .i64 0, .int .i64 (j : Int), .bool false, .int .i64 0] 35))
      have HW7 := hide (HW6.out.alloc (.cells #[.int .i64 0, .int .i64 0, .int .i64 0, .int .i64 1, .int .i64 0, .int .i64 (j : Int), .bool false, .int .i64 0] 35))
      have HX7 := hide (HX6.out.alloc (.cells #[.int .i64 0, .int .i64 0, .int .i64 0, .int .i64 1, .int .i64 0, .int .i64 (j : Int), .bool false, .int .i64 0] 35))
      have HY7 := hide (Blk.new w6 35 #[.int .i64 0, .int .i64 0, .int .i64 0, .int .i64 1, .int .i64 0, .int .i64 (j : Int), .bool false, .int .i64 0])
      generalize w6.alloc (.cells #[.int .i64 0, .int .i64 0, .int .i64 0, .int .i64 1, .int .i64 0, .int .i64 (j : Int), .bool false, .int .i64 0] 35) = w7 at HB7 HW7 HX7 HY7 ⊢
      generalize w6.heap.size = g2 at HY7 ⊢
      refine HK.out _ _ ?_
      clear HK K1 HB6 HW6 HX6
      obtain ⟨x0, x1, x2, x3, x4, x5, x6, x7⟩ := blk8 HX7.out
      obtain ⟨y0, y1, y2, y3, y4, y5, y6, y7⟩ := blk8 HY7.out
      go_wp2_with fail
      refine (HLn.out _ HW7.out).mono ?_
      rintro e w8 ⟨rfl, rfl⟩
      go_wp2_with fail
      go_ret
      exact ⟨rfl, HB7.out⟩
end Go.Proofs.Ytdbdaalkmjcifaa.linkBack
