/- The walk of LinkLeast. -/
import Derived.Test.YtdbdaalkmjcifaaLinkG
import Derived.Test.YtdbdaalkmjcifaaKindsLinkLeast
import Derived.StillTailTactics
import Derived.Deep.RegionHeld3
import Derived.Deep.QuietTactic
import Derived.BigQuiet
namespace Go.Proofs.Ytdbdaalkmjcifaa.linkLeast
open Go.Proofs Go.RowKit Go.Deep Go.Proofs.Ytdbdaalkmjcifaa.Types Go.Proofs.Ytdbdaalkmjcifaa.Heap Go.Proofs.Ytdbdaalkmjcifaa.Row Go.Proofs.Ytdbdaalkmjcifaa.Link Go.Proofs.YtdbdaalkmjcifaaW.PrintWords Go.Proofs.YtdbdaalkmjcifaaW.PrintLast Go.Proofs.YtdbdaalkmjcifaaW.PrintMore
set_option linter.unusedVariables false
set_option linter.unusedSimpArgs false
attribute [local go_sem] max2_int min2_int max_two min_two max_three min_three max_four min_four
abbrev L0 : Lk := ⟨0, 0, 1, false⟩
set_option maxHeartbeats 16000000 in
set_option maxRecDepth 100000 in
theorem walk (A0 : Option Addr) (c0 : Nat) (l0 : List (Int)) (hc0 : l0.length ≤ c0) (w0 : ∀ y ∈ l0, (Lit.int .i64 y).wf = true) (y0 : l0.length * 8 ≤ 140737488351232) (w : World) (hr0 : Kd.C (Kd.int .i64) w A0 l0.length l0) :
    Calls Try.prog 4 #[.slice A0 l0.length c0] w fun e w' => e = .returned (.bool true) ∧ Below w.heap.size w w' := by
  have HR := hide hr0
  clear hr0 w0
  go_enter Try.func4, Try.ntmps4
  go_wp2_with fail
  refine (new_ok L0 1024 ⟨by decide, by decide, by decide, by decide, by decide, by decide⟩ _).mono ?_
  rintro e w1 ⟨rfl, hT1, hB1⟩
  have HW1 := hide hT1
  have HB1 := hide hB1
  clear hT1 hB1
  go_wp2_with fail
  refine (least_call _ _ _ _ _ none 0 [] HW1.out (by decide) (by decide)).mono ?_
  rintro e w2 ⟨rfl, hB2⟩
  have HW2 := hide (HW1.out.below hB2)
  have HB2 := hide (below_step HB1.out hB2)
  clear hB2 HW1 HB1
  have hz : lst [] = 4611686018427387904 := rfl
  rw [hz]
  go_wp2_with fail
  obtain ⟨p, hp⟩ : ∃ p, w.heap.size + 1 = p := ⟨_, rfl⟩
  rw [hp] at HW2 ⊢
  have HP : Hid (w.heap.size < p) := hide (by omega)
  clear hp
  go_loopw [5, 6] (fun tv iv wr => ∃ (k : Nat) (A : Option Addr) (c : Nat) (l : List Pc), k ≤ l0.length ∧ k ≤ 500 ∧ l.length ≤ k ∧ tv = .int .i64 (lst l) ∧ iv = .int .i64 k ∧ Hid (WayAt tW wr w.heap.size p L0 1024 (.slice A l.length c) l) ∧ Hid (Below w.heap.size w wr)) (fun _ iv _ => l0.length - (intOf iv).toNat)
  case atStart => exact ⟨0, none, 0, [], Nat.zero_le _, Nat.zero_le _, Nat.le_refl _, rfl, rfl, HW2, HB2⟩
  case round =>
    obtain ⟨k, A, c, l, hk, hk2, hl, rfl, rfl, HW, HB⟩ := hrel
    clear HW2 HB2
    by_cases hlt : k < l0.length ∧ k < 500
    · obtain ⟨hlt, hlt2⟩ := hlt
      obtain ⟨ad, rfl, q0⟩ := at_int HR.out hlt
      have r0 := (HB.out.cell (World.block_lt_of_cell? w _ q0)).trans q0
      obtain ⟨t, ht⟩ : ∃ t, l0[k] = t := ⟨_, rfl⟩
      rw [ht] at r0 q0
      clear ht
      have b1 : (k : Int) < (l0.length : Int) := by omega
      have b2 : (k : Int) < 500 := by omega
      have HL := hide hl
      have HLe := hide (lst_le l)
      clear hl
      have HQ0 := hide q0
      clear q0
      obtain ⟨m, hm⟩ : ∃ m, lst l = m := ⟨_, rfl⟩
      have HM := hide hm
      rw [hm] at HLe ⊢
      clear hm
      have HCk := hide (fun W => check_call ⟨⟨t, 0, 0⟩, 0, 0, (k : Int), false⟩ W)
      unfold c33 at HCk
      cases hmay : may ⟨⟨t, 0, 0⟩, 0, 0, (k : Int), false⟩
      · have HCk : Hid (∀ W, Calls Try.prog 15 _ W fun e w' => e = .returned (.int .i64 1) ∧ Below W.heap.size W w') := hide (fun W => by have := HCk.out W; rw [hmay] at this; exact this)
        have hput := fun W hW => put_arg W w.heap.size p L0 1024 A c l ⟨⟨⟨t, 0, 0⟩, 0, 0, (k : Int), false⟩, 0⟩ hW (by decide) (.inl hmay)
        unfold c35 at hput
        have HPut := hide hput
        clear hput hmay
        go_wp2_with fail
        have HW1 := hide (HW.out.alloc (.cells #[.int .i64 t, .int .i64 0, .int .i64 0, .int .i64 0, .int .i64 0, .int .i64 (k : Int), .bool false] 33))
        have HB1 := hide (HB.out.alloc HB.out.size (.cells #[.int .i64 t, .int .i64 0, .int .i64 0, .int .i64 0, .int .i64 0, .int .i64 (k : Int), .bool false] 33))
        have HX1 := hide (Blk.new wr 33 #[.int .i64 t, .int .i64 0, .int .i64 0, .int .i64 0, .int .i64 0, .int .i64 (k : Int), .bool false])
        have HGp : Hid (wr.heap.size ≠ p) := hide (by have := HW.out.blk.lt; omega)
        have HGo : Hid (∀ b, (Value.slice A l.length c).ownBlock = some b → b ≠ wr.heap.size) := hide (fun b hb e => by have := (HW.out.own.blk b hb).2; omega)
        have r1 := (HB1.out.cell (World.block_lt_of_cell? w _ HQ0.out)).trans HQ0.out
        clear r0 HW HB
        generalize wr.alloc (.cells #[.int .i64 t, .int .i64 0, .int .i64 0, .int .i64 0, .int .i64 0, .int .i64 (k : Int), .bool false] 33) = w1 at HW1 HB1 HX1 r1 ⊢
        generalize wr.heap.size = g at HX1 HGp HGo ⊢
        refine (HPut.out _ HW1.out).mono ?_
        rintro e w3 ⟨rfl, A', c', hW', hO, hOb⟩
        have HX3 := hide (HX1.out.only hO (fun q => by
          rcases q with q | q
          · exact HGp.out q
          · exact HGo.out _ q.symm rfl))
        have HW3 := hide hW'
        have HB3 := hide (HB1.out.trans (hO.below HB1.out.size (fun b hb => by
          rcases hb with q | q
          · have := HP.out; omega
          · exact (HW1.out.own.blk b q.symm).1)))
        clear HPut hW' hO hOb HW1 HB1 HX1 r1
        have r3 := (HB3.out.cell (World.block_lt_of_cell? w _ HQ0.out)).trans HQ0.out
        have m0 : w3.cell? ⟨g, 0, none⟩ = some (.int .i64 t) := HX3.out.cell 0
        have m1 : w3.cell? ⟨g, 1, none⟩ = some (.int .i64 0) := HX3.out.cell 1
        have m2 : w3.cell? ⟨g, 2, none⟩ = some (.int .i64 0) := HX3.out.cell 2
        have m3 : w3.cell? ⟨g, 3, none⟩ = some (.int .i64 0) := HX3.out.cell 3
        have m4 : w3.cell? ⟨g, 4, none⟩ = some (.int .i64 0) := HX3.out.cell 4
        have m5 : w3.cell? ⟨g, 5, none⟩ = some (.int .i64 (k : Int)) := HX3.out.cell 5
        have m6 : w3.cell? ⟨g, 6, none⟩ = some (.bool false) := HX3.out.cell 6
        go_wp2_with fail
        refine (HCk.out _).mono ?_
        rintro e w4 ⟨rfl, hb4⟩
        have HW4 := hide (HW3.out.below hb4)
        have HB4 := hide (below_step HB3.out hb4)
        clear hb4 HW3 HB3 r3 m0 m1 m2 m3 m4 m5 m6 HX3 HCk
        have r4 := (HB4.out.cell (World.block_lt_of_cell? w _ HQ0.out)).trans HQ0.out
        have HV : Hid (lst l = m) := HM
        have HLs : Hid (∀ W, WayAt tW W w.heap.size p L0 1024 (.slice A' l.length c') l → Calls Try.prog 14 #[.pointer (some ⟨p, 0, none⟩)] W fun e w' => e = .returned (.int .i64 m) ∧ Below W.heap.size W w') := hide (fun W hW => by rw [← HV.out]; exact least_call W w.heap.size p L0 1024 A' c' l hW (by decide) (by have := HL.out; omega))
        go_wp2_with fail
        refine (HLs.out _ HW4.out).mono ?_
        rintro e w5 ⟨rfl, hb5⟩
        have HW5 := hide (HW4.out.below hb5)
        have HB5 := hide (below_step HB4.out hb5)
        clear hb5 HW4 HB4 r4 HLs
        go_wp2_with fail
        go_roundw
        case rel => exact ⟨k + 1, A', c', l, by omega, by omega, by have := HL.out; omega, by rw [HV.out], by go_num, HW5, HB5⟩
        case measure => simp [intOf]; omega
      · have HCk : Hid (∀ W, Calls Try.prog 15 _ W fun e w' => e = .returned (.int .i64 0) ∧ Below W.heap.size W w') := hide (fun W => by have := HCk.out W; rw [hmay] at this; exact this)
        have hput := fun W hW hWs => put_ok W w.heap.size p L0 1024 A c l ⟨⟨⟨t, 0, 0⟩, 0, 0, (k : Int), false⟩, 0⟩ hW (by decide) (by decide) (by have := HL.out; omega) hWs hmay rfl rfl (.inr (by have := HL.out; unfold room; rw [if_pos (by omega)]; omega))
        unfold c35 at hput
        have HPut := hide hput
        obtain ⟨l2, hl2⟩ : ∃ l2, l ++ [(⟨⟨⟨t, 0, 0⟩, 0, 0, (k : Int), false⟩, 0⟩ : Pc)] = l2 := ⟨_, rfl⟩
        have HLen : Hid (l2.length = l.length + 1) := hide (by rw [← hl2]; simp)
        have HM2 : Hid (lst l2 = mnL m t) := hide (by rw [← hl2, lst_snoc, HM.out])
        rw [hl2] at HPut
        clear hput hmay hl2
        go_wp2_with fail
        have HW1 := hide (HW.out.alloc (.cells #[.int .i64 t, .int .i64 0, .int .i64 0, .int .i64 0, .int .i64 0, .int .i64 (k : Int), .bool false] 33))
        have HB1 := hide (HB.out.alloc HB.out.size (.cells #[.int .i64 t, .int .i64 0, .int .i64 0, .int .i64 0, .int .i64 0, .int .i64 (k : Int), .bool false] 33))
        have HX1 := hide (Blk.new wr 33 #[.int .i64 t, .int .i64 0, .int .i64 0, .int .i64 0, .int .i64 0, .int .i64 (k : Int), .bool false])
        have HGp : Hid (wr.heap.size ≠ p) := hide (by have := HW.out.blk.lt; omega)
        have HGo : Hid (∀ b, (Value.slice A l.length c).ownBlock = some b → b ≠ wr.heap.size) := hide (fun b hb e => by have := (HW.out.own.blk b hb).2; omega)
        have r1 := (HB1.out.cell (World.block_lt_of_cell? w _ HQ0.out)).trans HQ0.out
        clear r0 HW HB
        generalize wr.alloc (.cells #[.int .i64 t, .int .i64 0, .int .i64 0, .int .i64 0, .int .i64 0, .int .i64 (k : Int), .bool false] 33) = w1 at HW1 HB1 HX1 r1 ⊢
        generalize wr.heap.size = g at HX1 HGp HGo ⊢
        refine (HPut.out _ HW1.out HB1.out.size).mono ?_
        rintro e w3 ⟨rfl, A', c', hW', hO, hOb⟩
        have HX3 := hide (HX1.out.only hO (fun q => by
          rcases q with q | q
          · exact HGp.out q
          · exact HGo.out _ q.symm rfl))
        have HW3 := hide hW'
        have HB3 := hide (HB1.out.trans (hO.below HB1.out.size (fun b hb => by
          rcases hb with q | q
          · have := HP.out; omega
          · exact (HW1.out.own.blk b q.symm).1)))
        clear HPut hW' hO hOb HW1 HB1 HX1 r1
        have r3 := (HB3.out.cell (World.block_lt_of_cell? w _ HQ0.out)).trans HQ0.out
        have m0 : w3.cell? ⟨g, 0, none⟩ = some (.int .i64 t) := HX3.out.cell 0
        have m1 : w3.cell? ⟨g, 1, none⟩ = some (.int .i64 0) := HX3.out.cell 1
        have m2 : w3.cell? ⟨g, 2, none⟩ = some (.int .i64 0) := HX3.out.cell 2
        have m3 : w3.cell? ⟨g, 3, none⟩ = some (.int .i64 0) := HX3.out.cell 3
        have m4 : w3.cell? ⟨g, 4, none⟩ = some (.int .i64 0) := HX3.out.cell 4
        have m5 : w3.cell? ⟨g, 5, none⟩ = some (.int .i64 (k : Int)) := HX3.out.cell 5
        have m6 : w3.cell? ⟨g, 6, none⟩ = some (.bool false) := HX3.out.cell 6
        go_wp2_with fail
        refine (HCk.out _).mono ?_
        rintro e w4 ⟨rfl, hb4⟩
        have HW4 := hide (HW3.out.below hb4)
        have HB4 := hide (below_step HB3.out hb4)
        clear hb4 HW3 HB3 r3 m0 m1 m2 m3 m4 m5 m6 HX3 HCk
        have r4 := (HB4.out.cell (World.block_lt_of_cell? w _ HQ0.out)).trans HQ0.out
        by_cases hmt : t < m
        · have HV : Hid (lst l2 = t) := hide (by rw [HM2.out]; unfold mnL; rw [if_pos hmt])
          have HLs : Hid (∀ W, WayAt tW W w.heap.size p L0 1024 (.slice A' l2.length c') l2 → Calls Try.prog 14 #[.pointer (some ⟨p, 0, none⟩)] W fun e w' => e = .returned (.int .i64 t) ∧ Below W.heap.size W w') := hide (fun W hW => by rw [← HV.out]; exact least_call W w.heap.size p L0 1024 A' c' l2 hW (by decide) (by have := HL.out; have := HLen.out; omega))
          go_wp2_with fail
          refine (HLs.out _ HW4.out).mono ?_
          rintro e w5 ⟨rfl, hb5⟩
          have HW5 := hide (HW4.out.below hb5)
          have HB5 := hide (below_step HB4.out hb5)
          clear hb5 HW4 HB4 r4 HLs
          go_wp2_with fail
          go_roundw
          case rel => exact ⟨k + 1, A', c', l2, by omega, by omega, by have := HL.out; have := HLen.out; omega, by rw [HV.out], by go_num, HW5, HB5⟩
          case measure => simp [intOf]; omega
        · have HV : Hid (lst l2 = m) := hide (by rw [HM2.out]; unfold mnL; rw [if_neg hmt])
          have HLs : Hid (∀ W, WayAt tW W w.heap.size p L0 1024 (.slice A' l2.length c') l2 → Calls Try.prog 14 #[.pointer (some ⟨p, 0, none⟩)] W fun e w' => e = .returned (.int .i64 m) ∧ Below W.heap.size W w') := hide (fun W hW => by rw [← HV.out]; exact least_call W w.heap.size p L0 1024 A' c' l2 hW (by decide) (by have := HL.out; have := HLen.out; omega))
          go_wp2_with fail
          refine (HLs.out _ HW4.out).mono ?_
          rintro e w5 ⟨rfl, hb5⟩
          have HW5 := hide (HW4.out.below hb5)
          have HB5 := hide (below_step HB4.out hb5)
          clear hb5 HW4 HB4 r4 HLs
          go_wp2_with fail
          go_roundw
          case rel => exact ⟨k + 1, A', c', l2, by omega, by omega, by have := HL.out; have := HLen.out; omega, by rw [HV.out], by go_num, HW5, HB5⟩
          case measure => simp [intOf]; omega
    · rcases Nat.lt_or_ge k l0.length with hlt3 | hlt3
      · have b2 : (k : Int) < (l0.length : Int) := by omega
        have b3 : ¬ (k : Int) < 500 := by omega
        clear hlt hl
        go_wp2_with (go_at_call 13; refine (awake_call _).mono ?_; rintro e w5 ⟨rfl, hb5⟩)
        go_ret
        exact ⟨rfl, below_step HB.out hb5⟩
      · have b2 : ¬ (k : Int) < (l0.length : Int) := by omega
        clear hlt hl
        go_wp2_with (go_at_call 13; refine (awake_call _).mono ?_; rintro e w5 ⟨rfl, hb5⟩)
        go_ret
        exact ⟨rfl, below_step HB.out hb5⟩
end Go.Proofs.Ytdbdaalkmjcifaa.linkLeast
