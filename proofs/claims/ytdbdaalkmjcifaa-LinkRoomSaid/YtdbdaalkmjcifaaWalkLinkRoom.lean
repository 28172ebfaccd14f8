/- The walk of LinkRoom. -/
import Derived.Test.YtdbdaalkmjcifaaLinkB
import Derived.Test.YtdbdaalkmjcifaaKindsLinkRoom
import Derived.StillTailTactics
import Derived.Deep.RegionHeld3
import Derived.Deep.QuietTactic
import Derived.BigQuiet
namespace Go.Proofs.Ytdbdaalkmjcifaa.linkRoom
open Go.Proofs Go.RowKit Go.Deep Go.Proofs.Ytdbdaalkmjcifaa.Types Go.Proofs.Ytdbdaalkmjcifaa.Heap Go.Proofs.Ytdbdaalkmjcifaa.Row Go.Proofs.Ytdbdaalkmjcifaa.Link Go.Proofs.YtdbdaalkmjcifaaW.PrintWords Go.Proofs.YtdbdaalkmjcifaaW.PrintLast Go.Proofs.YtdbdaalkmjcifaaW.PrintMore
set_option linter.unusedVariables false
set_option linter.unusedSimpArgs false
attribute [local go_sem] max2_int min2_int max_two min_two max_three min_three max_four min_four
theorem at_bool {w : World} {A : Option Addr} {n : Nat} {xs : List Bool} (h : Kd.C Kd.bool w A n xs) {i : Nat} (hi : i < xs.length) : ∃ ad, A = some ad ∧ w.cell? (ad.add i) = some (.bool xs[i]) := by
  obtain ⟨ad, e, hcell⟩ := h.2.2 (by have := h.1; omega)
  obtain ⟨c, _, hK, hc0⟩ := hcell i _ (List.getElem?_eq_getElem hi)
  have hK' : c = [.bool xs[i]] := hK
  subst hK'
  have := hc0 0 (.bool xs[i]) rfl
  have h2 : i * Kd.bool.sz + 0 = i := by show i * 1 + 0 = i; omega
  rw [h2] at this
  exact ⟨ad, e, this⟩
abbrev L0 : Lk := ⟨2, 3, 1, false⟩
theorem awake_call (w : World) : Calls Try.prog 13 #[] w fun e w' => e = .returned (.bool true) ∧ Below w.heap.size w w' := by
  have T0 := hide (fun W => new_ok ⟨0, 1, 0, false⟩ 3 ⟨by decide, by decide, by decide, by decide, by decide, by decide⟩ W)
  unfold c28 at T0
  go_enter Try.func13, Try.ntmps13
  go_wp2_with (go_at_call 9; refine (T0.out _).mono ?_; rintro e w1 ⟨rfl, hT1, hB1⟩; have HT1 := hide hT1; have HB1 := hide hB1; clear hT1 hB1)
  go_wp2_with (go_at_call 12; refine (room_call _ _ _ _ _ none 0 [] HT1.out (by decide) (by decide) (by decide)).mono ?_; rintro e w2 ⟨rfl, n2, rfl⟩)
  go_ret
  exact ⟨rfl, below_drewN HB1.out _⟩
set_option maxHeartbeats 16000000 in
set_option maxRecDepth 100000 in
theorem walk (a0 : Int) (w0 : (Lit.int .u8 a0).wf = true) (A1 : Option Addr) (c1 : Nat) (l1 : List (Bool)) (hc1 : l1.length ≤ c1) (w1 : ∀ y ∈ l1, True) (y1 : l1.length * 1 ≤ 140737488351232) (w : World) (hr1 : Kd.C Kd.bool w A1 l1.length l1) :
    Calls Try.prog 3 #[.int .u8 a0, .slice A1 l1.length c1] w fun e w' => e = .returned (.bool true) ∧ Below w.heap.size w w' := by
  have HR := hide hr1
  have u : IntKind.u8.min ≤ a0 ∧ a0 ≤ IntKind.u8.max := by simpa [Lit.wf] using w0
  have e1 : IntKind.u8.min = 0 := by decide
  have e2 : IntKind.u8.max = 255 := by decide
  have ha : 0 ≤ a0 ∧ a0 < 256 := by omega
  clear hr1 w1 w0 u e1 e2
  go_enter Try.func3, Try.ntmps3
  go_wp2_with fail
  obtain ⟨top, htop⟩ : ∃ top, 1 + a0 % 20 = top := ⟨_, rfl⟩
  rw [htop]
  have ht1 : 1 ≤ top := by omega
  have ht2 : top ≤ 20 := by omega
  clear htop
  have HT := hide (And.intro ht1 ht2)
  clear ht1 ht2
  refine (new_ok L0 top ⟨by decide, by decide, by decide, by decide, HT.out.1, by have := HT.out.2; omega⟩ _).mono ?_
  rintro e w1 ⟨rfl, hT1, hB1⟩
  have HW1 := hide hT1
  have HB1 := hide hB1
  clear hT1 hB1
  go_wp2_with fail
  obtain ⟨p, hp⟩ : ∃ p, w.heap.size + 1 = p := ⟨_, rfl⟩
  rw [hp] at HW1 ⊢
  have HP : Hid (w.heap.size < p) := hide (by omega)
  clear hp ha
  go_loopw [8, 9] (fun nv iv wr => ∃ (k : Nat) (A : Option Addr) (c : Nat) (l : List Pc), k ≤ l1.length ∧ k ≤ 200 ∧ l.length ≤ k ∧ nv = .int .i64 l.length ∧ iv = .int .i64 k ∧ Hid (WayAt tW wr w.heap.size p L0 top (.slice A l.length c) l) ∧ Hid (Below w.heap.size w wr)) (fun _ iv _ => l1.length - (intOf iv).toNat)
  case atStart => exact ⟨0, none, 0, [], Nat.zero_le _, Nat.zero_le _, Nat.le_refl _, rfl, rfl, HW1, HB1⟩
  case round =>
    obtain ⟨k, A, c, l, hk, hk2, hl, rfl, rfl, HW, HB⟩ := hrel
    clear HW1 HB1
    by_cases hlt : k < l1.length ∧ k < 200
    · obtain ⟨hlt, hlt2⟩ := hlt
      obtain ⟨ad, rfl, q0⟩ := at_bool HR.out hlt
      have r0 := (HB.out.cell (World.block_lt_of_cell? w _ q0)).trans q0
      obtain ⟨B, hB⟩ : ∃ B, l1[k] = B := ⟨_, rfl⟩
      rw [hB] at r0 q0
      clear hB
      have b1 : (k : Int) < (l1.length : Int) := by omega
      have b2 : (k : Int) < 200 := by omega
      have HL := hide hl
      clear hl
      have HQ0 := hide q0
      clear q0
      cases B
      · by_cases hf : (l.length : Int) < top
        · by_cases hm : (l.length : Int) + 1 < top
          · have f1 : ¬ top ≤ (l.length : Int) := by omega
            have hput := put_ok wr w.heap.size p L0 top A c l ⟨⟨⟨(k : Int), 2, 0⟩, 3, 0, (k : Int), false⟩, 0⟩ HW.out HT.out.1 (by have := HT.out.2; omega) (by have := HL.out; omega) HB.out.size (by simp [may]; omega) rfl rfl (.inr (by unfold room; rw [if_pos (by omega)]; omega))
            unfold c35 at hput
            have HPut := hide hput
            clear hput
            have hn : (l.length : Int) ≤ 200 := by have := HL.out; omega
            obtain ⟨l2, hl2⟩ : ∃ l2, l ++ [(⟨⟨⟨(k : Int), 2, 0⟩, 3, 0, (k : Int), false⟩, 0⟩ : Pc)] = l2 := ⟨_, rfl⟩
            have HLen : Hid (l2.length = l.length + 1) := hide (by rw [← hl2]; simp)
            rw [hl2] at HPut
            have HLen2 : Hid ((l2.length : Int) = (l.length : Int) + 1) := hide (by have := HLen.out; omega)
            have HRoom : Hid (room top l2.length = (top - ((l.length : Int) + 1))) := hide (by unfold room; rw [HLen2.out]; split <;> omega)
            clear hl2
            go_wp2_with fail
            refine HPut.out.mono ?_
            rintro e w3 ⟨rfl, A', c', hW', hO, hOb⟩
            have HW3 := hide hW'
            have HB3 := hide (HB.out.trans (hO.below HB.out.size (fun b hb => by
              rcases hb with q | q
              · have := HP.out; omega
              · exact (HW.out.own.blk b q.symm).1)))
            have r3 : w3.cell? (ad.add k) = some (.bool false) := (HB3.out.cell (World.block_lt_of_cell? w _ HQ0.out)).trans HQ0.out
            clear HPut hW' hO hOb HW HB r0
            have HLc := hide (fun W (hW : WayAt tW W w.heap.size p L0 top (.slice A' l2.length c') l2) => len_call W w.heap.size p L0 top A' c' l2 hW (by have := HT.out.1; omega))
            have HRc := hide (fun W (hW : WayAt tW W w.heap.size p L0 top (.slice A' l2.length c') l2) => room_call W w.heap.size p L0 top A' c' l2 hW HT.out.1 (by have := HT.out.2; omega) (by have := HLen.out; have := HL.out; omega))
            rw [HLen2.out] at HLc
            rw [HRoom.out] at HRc
            go_wp2_with fail
            refine (HLc.out _ HW3.out).mono ?_
            rintro e w4 ⟨rfl, rfl⟩
            go_wp2_with fail
            refine (HRc.out _ HW3.out).mono ?_
            rintro e w4 ⟨rfl, nr, rfl⟩
            have m1 : (0 : Int) < top - ((l.length : Int) + 1) := by omega
            have ta := HT.out.1
            have tb := HT.out.2
            go_wp2_with fail
            go_roundw
            case rel => exact ⟨k + 1, A', c', l2, by omega, by omega, by have := HLen.out; have := HL.out; omega, by have := HLen2.out; simp [this], by go_num, hide (HW3.out.drewN _), hide (below_drewN HB3.out _)⟩
            case measure => simp [intOf]; omega
          · have f1 : ¬ top ≤ (l.length : Int) := by omega
            have hput := put_ok wr w.heap.size p L0 top A c l ⟨⟨⟨(k : Int), 2, 0⟩, 3, 0, (k : Int), false⟩, 0⟩ HW.out HT.out.1 (by have := HT.out.2; omega) (by have := HL.out; omega) HB.out.size (by simp [may]; omega) rfl rfl (.inr (by unfold room; rw [if_pos (by omega)]; omega))
            unfold c35 at hput
            have HPut := hide hput
            clear hput
            have hn : (l.length : Int) ≤ 200 := by have := HL.out; omega
            obtain ⟨l2, hl2⟩ : ∃ l2, l ++ [(⟨⟨⟨(k : Int), 2, 0⟩, 3, 0, (k : Int), false⟩, 0⟩ : Pc)] = l2 := ⟨_, rfl⟩
            have HLen : Hid (l2.length = l.length + 1) := hide (by rw [← hl2]; simp)
            rw [hl2] at HPut
            have HLen2 : Hid ((l2.length : Int) = (l.length : Int) + 1) := hide (by have := HLen.out; omega)
            have HRoom : Hid (room top l2.length = 0) := hide (by unfold room; rw [HLen2.out]; split <;> omega)
            clear hl2
            go_wp2_with fail
            refine HPut.out.mono ?_
            rintro e w3 ⟨rfl, A', c', hW', hO, hOb⟩
            have HW3 := hide hW'
            have HB3 := hide (HB.out.trans (hO.below HB.out.size (fun b hb => by
              rcases hb with q | q
              · have := HP.out; omega
              · exact (HW.out.own.blk b q.symm).1)))
            have r3 : w3.cell? (ad.add k) = some (.bool false) := (HB3.out.cell (World.block_lt_of_cell? w _ HQ0.out)).trans HQ0.out
            clear HPut hW' hO hOb HW HB r0
            have HLc := hide (fun W (hW : WayAt tW W w.heap.size p L0 top (.slice A' l2.length c') l2) => len_call W w.heap.size p L0 top A' c' l2 hW (by have := HT.out.1; omega))
            have HRc := hide (fun W (hW : WayAt tW W w.heap.size p L0 top (.slice A' l2.length c') l2) => room_call W w.heap.size p L0 top A' c' l2 hW HT.out.1 (by have := HT.out.2; omega) (by have := HLen.out; have := HL.out; omega))
            rw [HLen2.out] at HLc
            rw [HRoom.out] at HRc
            go_wp2_with fail
            refine (HLc.out _ HW3.out).mono ?_
            rintro e w4 ⟨rfl, rfl⟩
            go_wp2_with fail
            refine (HRc.out _ HW3.out).mono ?_
            rintro e w4 ⟨rfl, nr, rfl⟩
            have m1 : ¬ (0 : Int) < top - ((l.length : Int) + 1) := by omega
            have ta := HT.out.1
            have tb := HT.out.2
            go_wp2_with fail
            go_roundw
            case rel => exact ⟨k + 1, A', c', l2, by omega, by omega, by have := HLen.out; have := HL.out; omega, by have := HLen2.out; simp [this], by go_num, hide (HW3.out.drewN _), hide (below_drewN HB3.out _)⟩
            case measure => simp [intOf]; omega
        · have f1 : top ≤ (l.length : Int) := by omega
          have hput := put_full wr w.heap.size p L0 top A c l ⟨⟨⟨(k : Int), 2, 0⟩, 3, 0, (k : Int), false⟩, 0⟩ HW.out HT.out.1 (by have := HT.out.2; omega) (by have := HL.out; omega) (by simp [may]; omega) rfl rfl rfl (by unfold room; rw [if_neg (by omega)])
          unfold c35 at hput
          have HPut := hide hput
          clear hput
          have hn : (l.length : Int) ≤ 200 := by have := HL.out; omega
          obtain ⟨l2, hl2⟩ : ∃ l2, l = l2 := ⟨_, rfl⟩
          have HLen : Hid (l2.length ≤ l.length) := hide (by rw [hl2]; exact Nat.le_refl _)
          have HLen2 : Hid ((l2.length : Int) = (l.length : Int)) := hide (by rw [hl2])
          have HPut : Hid (Calls Try.prog 10 _ wr (Go.Proofs.Ytdbdaalkmjcifaa.Link.Left tW wr w.heap.size p L0 top (.slice A l.length c) l2 (.int .i64 9))) := hide (by rw [← hl2]; exact HPut.out)
          have HRoom : Hid (room top l2.length = 0) := hide (by unfold room; rw [HLen2.out, if_neg (by omega)])
          clear hl2
          go_wp2_with fail
          refine HPut.out.mono ?_
          rintro e w3 ⟨rfl, A', c', hW', hO, hOb⟩
          have HW3 := hide hW'
          have HB3 := hide (HB.out.trans (hO.below HB.out.size (fun b hb => by
            rcases hb with q | q
            · have := HP.out; omega
            · exact (HW.out.own.blk b q.symm).1)))
          have r3 : w3.cell? (ad.add k) = some (.bool false) := (HB3.out.cell (World.block_lt_of_cell? w _ HQ0.out)).trans HQ0.out
          clear HPut hW' hO hOb HW HB r0
          have HLc := hide (fun W (hW : WayAt tW W w.heap.size p L0 top (.slice A' l2.length c') l2) => len_call W w.heap.size p L0 top A' c' l2 hW (by have := HT.out.1; omega))
          have HRc := hide (fun W (hW : WayAt tW W w.heap.size p L0 top (.slice A' l2.length c') l2) => room_call W w.heap.size p L0 top A' c' l2 hW HT.out.1 (by have := HT.out.2; omega) (by have := HLen.out; have := HL.out; omega))
          rw [HLen2.out] at HLc
          rw [HRoom.out] at HRc
          go_wp2_with fail
          refine (HLc.out _ HW3.out).mono ?_
          rintro e w4 ⟨rfl, rfl⟩
          go_wp2_with fail
          refine (HRc.out _ HW3.out).mono ?_
          rintro e w4 ⟨rfl, nr, rfl⟩
          have m1 : ¬ (0 : Int) < top - (l.length : Int) := by omega
          have ta := HT.out.1
          have tb := HT.out.2
          go_wp2_with fail
          go_roundw
          case rel => exact ⟨k + 1, A', c', l2, by omega, by omega, by have := HLen.out; have := HL.out; omega, by have := HLen2.out; simp [this], by go_num, hide (HW3.out.drewN _), hide (below_drewN HB3.out _)⟩
          case measure => simp [intOf]; omega
      · by_cases hm : (l.length : Int) + 1 < top
        · skip
          have hput := put_ok wr w.heap.size p L0 top A c l ⟨⟨⟨(k : Int), 2, 0⟩, 3, 0, (k : Int), true⟩, 0⟩ HW.out HT.out.1 (by have := HT.out.2; omega) (by have := HL.out; omega) HB.out.size (by simp [may]; omega) rfl rfl (.inl rfl)
          unfold c35 at hput
          have HPut := hide hput
          clear hput
          have hn : (l.length : Int) ≤ 200 := by have := HL.out; omega
          obtain ⟨l2, hl2⟩ : ∃ l2, l ++ [(⟨⟨⟨(k : Int), 2, 0⟩, 3, 0, (k : Int), true⟩, 0⟩ : Pc)] = l2 := ⟨_, rfl⟩
          have HLen : Hid (l2.length = l.length + 1) := hide (by rw [← hl2]; simp)
          rw [hl2] at HPut
          have HLen2 : Hid ((l2.length : Int) = (l.length : Int) + 1) := hide (by have := HLen.out; omega)
          have HRoom : Hid (room top l2.length = (top - ((l.length : Int) + 1))) := hide (by unfold room; rw [HLen2.out]; split <;> omega)
          clear hl2
          go_wp2_with fail
          refine HPut.out.mono ?_
          rintro e w3 ⟨rfl, A', c', hW', hO, hOb⟩
          have HW3 := hide hW'
          have HB3 := hide (HB.out.trans (hO.below HB.out.size (fun b hb => by
            rcases hb with q | q
            · have := HP.out; omega
            · exact (HW.out.own.blk b q.symm).1)))
          have r3 : w3.cell? (ad.add k) = some (.bool true) := (HB3.out.cell (World.block_lt_of_cell? w _ HQ0.out)).trans HQ0.out
          clear HPut hW' hO hOb HW HB r0
          have HLc := hide (fun W (hW : WayAt tW W w.heap.size p L0 top (.slice A' l2.length c') l2) => len_call W w.heap.size p L0 top A' c' l2 hW (by have := HT.out.1; omega))
          have HRc := hide (fun W (hW : WayAt tW W w.heap.size p L0 top (.slice A' l2.length c') l2) => room_call W w.heap.size p L0 top A' c' l2 hW HT.out.1 (by have := HT.out.2; omega) (by have := HLen.out; have := HL.out; omega))
          rw [HLen2.out] at HLc
          rw [HRoom.out] at HRc
          go_wp2_with fail
          refine (HLc.out _ HW3.out).mono ?_
          rintro e w4 ⟨rfl, rfl⟩
          go_wp2_with fail
          refine (HRc.out _ HW3.out).mono ?_
          rintro e w4 ⟨rfl, nr, rfl⟩
          have m1 : (0 : Int) < top - ((l.length : Int) + 1) := by omega
          have ta := HT.out.1
          have tb := HT.out.2
          go_wp2_with fail
          go_roundw
          case rel => exact ⟨k + 1, A', c', l2, by omega, by omega, by have := HLen.out; have := HL.out; omega, by have := HLen2.out; simp [this], by go_num, hide (HW3.out.drewN _), hide (below_drewN HB3.out _)⟩
          case measure => simp [intOf]; omega
        · skip
          have hput := put_ok wr w.heap.size p L0 top A c l ⟨⟨⟨(k : Int), 2, 0⟩, 3, 0, (k : Int), true⟩, 0⟩ HW.out HT.out.1 (by have := HT.out.2; omega) (by have := HL.out; omega) HB.out.size (by simp [may]; omega) rfl rfl (.inl rfl)
          unfold c35 at hput
          have HPut := hide hput
          clear hput
          have hn : (l.length : Int) ≤ 200 := by have := HL.out; omega
          obtain ⟨l2, hl2⟩ : ∃ l2, l ++ [(⟨⟨⟨(k : Int), 2, 0⟩, 3, 0, (k : Int), true⟩, 0⟩ : Pc)] = l2 := ⟨_, rfl⟩
          have HLen : Hid (l2.length = l.length + 1) := hide (by rw [← hl2]; simp)
          rw [hl2] at HPut
          have HLen2 : Hid ((l2.length : Int) = (l.length : Int) + 1) := hide (by have := HLen.out; omega)
          have HRoom : Hid (room top l2.length = 0) := hide (by unfold room; rw [HLen2.out]; split <;> omega)
          clear hl2
          go_wp2_with fail
          refine HPut.out.mono ?_
          rintro e w3 ⟨rfl, A', c', hW', hO, hOb⟩
          have HW3 := hide hW'
          have HB3 := hide (HB.out.trans (hO.below HB.out.size (fun b hb => by
            rcases hb with q | q
            · have := HP.out; omega
            · exact (HW.out.own.blk b q.symm).1)))
          have r3 : w3.cell? (ad.add k) = some (.bool true) := (HB3.out.cell (World.block_lt_of_cell? w _ HQ0.out)).trans HQ0.out
          clear HPut hW' hO hOb HW HB r0
          have HLc := hide (fun W (hW : WayAt tW W w.heap.size p L0 top (.slice A' l2.length c') l2) => len_call W w.heap.size p L0 top A' c' l2 hW (by have := HT.out.1; omega))
          have HRc := hide (fun W (hW : WayAt tW W w.heap.size p L0 top (.slice A' l2.length c') l2) => room_call W w.heap.size p L0 top A' c' l2 hW HT.out.1 (by have := HT.out.2; omega) (by have := HLen.out; have := HL.out; omega))
          rw [HLen2.out] at HLc
          rw [HRoom.out] at HRc
          go_wp2_with fail
          refine (HLc.out _ HW3.out).mono ?_
          rintro e w4 ⟨rfl, rfl⟩
          go_wp2_with fail
          refine (HRc.out _ HW3.out).mono ?_
          rintro e w4 ⟨rfl, nr, rfl⟩
          have m1 : ¬ (0 : Int) < top - ((l.length : Int) + 1) := by omega
          have ta := HT.out.1
          have tb := HT.out.2
          go_wp2_with fail
          go_roundw
          case rel => exact ⟨k + 1, A', c', l2, by omega, by omega, by have := HLen.out; have := HL.out; omega, by have := HLen2.out; simp [this], by go_num, hide (HW3.out.drewN _), hide (below_drewN HB3.out _)⟩
          case measure => simp [intOf]; omega
    · have b1 : ¬ ((k : Int) < (l1.length : Int)) ∨ ¬ ((k : Int) < 200) := by omega
      rcases Nat.lt_or_ge k l1.length with hlt3 | hlt3
      · have b2 : (k : Int) < (l1.length : Int) := by omega
        have b3 : ¬ (k : Int) < 200 := by omega
        clear b1 hlt hl
        go_wp2_with (go_at_call 13; refine (awake_call _).mono ?_; rintro e w5 ⟨rfl, hb5⟩)
        go_ret
        exact ⟨rfl, below_step HB.out hb5⟩
      · have b2 : ¬ (k : Int) < (l1.length : Int) := by omega
        clear b1 hlt hl
        go_wp2_with (go_at_call 13; refine (awake_call _).mono ?_; rintro e w5 ⟨rfl, hb5⟩)
        go_ret
        exact ⟨rfl, below_step HB.out hb5⟩
end Go.Proofs.Ytdbdaalkmjcifaa.linkRoom
