/- The walk of LinkOrder. -/
import Derived.Test.YtdbdaalkmjcifaaLinkI
import Derived.Test.YtdbdaalkmjcifaaKindsLinkOrder
import Derived.StillTailTactics
import Derived.Deep.RegionHeld3
import Derived.Deep.QuietTactic
import Derived.BigQuiet
namespace Go.Proofs.Ytdbdaalkmjcifaa.linkOrder
open Go.Proofs Go.RowKit Go.Deep Go.Proofs.Ytdbdaalkmjcifaa.Types Go.Proofs.Ytdbdaalkmjcifaa.Heap Go.Proofs.Ytdbdaalkmjcifaa.Row Go.Proofs.Ytdbdaalkmjcifaa.Link Go.Proofs.YtdbdaalkmjcifaaW.PrintWords Go.Proofs.YtdbdaalkmjcifaaW.PrintLast Go.Proofs.YtdbdaalkmjcifaaW.PrintMore
set_option linter.unusedVariables false
set_option linter.unusedSimpArgs false
abbrev L1 (lo : Bool) : Lk := ⟨0, 1, 1, lo⟩
theorem okL (lo : Bool) : ok (L1 lo) 1024 := ⟨by show (0 : Int) ≤ 0; decide, by show (0 : Int) < 16; decide, by show (0 : Int) ≤ 1; decide, by show (1 : Int) < 16; decide, by decide, by decide⟩
def yi (i : Nat) : Pc := ⟨⟨⟨0, 0, 0⟩, 1, 0, (i : Int), false⟩, (i : Int).tmod 2⟩
theorem nodup_inj {l : List Nat} (h : l.Nodup) {i j : Nat} (hi : i < l.length) (hj : j < l.length) (e : l[i] = l[j]) : i = j := by
  have hp := List.pairwise_iff_getElem.1 h
  rcases Nat.lt_trichotomy i j with q | q | q
  · exact absurd e (hp i j hi hj q)
  · exact q
  · exact absurd e.symm (hp j i hj hi q)
theorem mem_erase {l : List Nat} (h : l.Nodup) {j : Nat} (hj : j < l.length) (u : Nat) : u ∈ l.eraseIdx j ↔ u ∈ l ∧ u ≠ l[j] := by
  rw [List.mem_eraseIdx_iff_getElem, List.mem_iff_getElem]
  constructor
  · rintro ⟨i, hi, hne, rfl⟩
    exact ⟨⟨i, hi, rfl⟩, fun e => hne (nodup_inj h hi hj e)⟩
  · rintro ⟨⟨i, hi, rfl⟩, hne⟩
    exact ⟨i, hi, fun e => hne (by subst e; rfl), rfl⟩
theorem map_erase {α β : Type} (f : α → β) (l : List α) (j : Nat) : (l.map f).eraseIdx j = (l.eraseIdx j).map f := by
  rw [List.eraseIdx_eq_take_drop_succ, List.eraseIdx_eq_take_drop_succ, List.map_append, List.map_take, List.map_drop]
structure Rest (lo : Bool) (N k : Nat) (ids : List Nat) : Prop where
  len : ids.length = N - k
  nd : ids.Nodup
  lt : ∀ u ∈ ids, u < N
  strict : lo = false → ids = List.range' k (N - k)
theorem Rest.start (lo : Bool) (N : Nat) : Rest lo N 0 (List.range N) := ⟨by simp, List.nodup_range, fun u h => List.mem_range.1 h, fun _ => by rw [List.range_eq_range']; rfl⟩
theorem Rest.step {lo : Bool} {N k : Nat} {ids : List Nat} (h : Rest lo N k ids) (hk : k < N) {j : Nat} (hj : j < ids.length) (h0 : lo = false → j = 0) : Rest lo N (k + 1) (ids.eraseIdx j) :=
  ⟨by rw [List.length_eraseIdx, if_pos hj, h.len]; omega, h.nd.sublist (List.eraseIdx_sublist _ _), fun u hu => h.lt u (List.mem_of_mem_eraseIdx hu), fun e => by
    have h1 := h.strict e
    have h2 := h0 e
    subst h2
    rw [h1]
    obtain ⟨m, hm⟩ : ∃ m, N - k = m + 1 := ⟨N - k - 1, by omega⟩
    rw [hm, List.range'_succ, List.eraseIdx_cons_zero]
    congr 1
    omega⟩
theorem Rest.first {lo : Bool} {N k : Nat} {ids : List Nat} (h : Rest lo N k ids) (e : lo = false) {j : Nat} (hj : j < ids.length) (h0 : j = 0) : ids[j] = k := by
  subst h0
  have h1 := h.strict e
  subst h1
  simp
theorem Rest.no {lo : Bool} {N k : Nat} {ids : List Nat} (h : Rest lo N k ids) (hk : N ≤ k) : ids = [] := List.eq_nil_of_length_eq_zero (by have := h.len; omega)
set_option maxHeartbeats 16000000 in
set_option maxRecDepth 100000 in
theorem walk (a0 : Bool) (a1 : Int) (w1 : (Lit.int .u8 a1).wf = true) (A2 : Option Addr) (c2 : Nat) (l2 : List (Int)) (hc2 : l2.length ≤ c2) (w2 : ∀ y ∈ l2, (Lit.int .i64 y).wf = true) (y2 : l2.length * 8 ≤ 140737488351232) (w : World) (hr2 : Kd.C (Kd.int .i64) w A2 l2.length l2) :
    Calls Try.prog 6 #[.bool a0, .int .u8 a1, .slice A2 l2.length c2] w fun e w' => e = .returned (.bool true) ∧ Below w.heap.size w w' := by
  have u0 : IntKind.u8.min ≤ a1 ∧ a1 ≤ IntKind.u8.max := by simpa [Lit.wf] using w1
  have e1 : IntKind.u8.min = 0 := by decide
  have e2 : IntKind.u8.max = 255 := by decide
  obtain ⟨N, hN⟩ : ∃ N : Nat, a1 = (N : Int) := ⟨a1.toNat, by omega⟩
  subst hN
  have hN : N ≤ 255 := by omega
  have HN := hide hN
  have HR := hide hr2
  clear hr2 w1 w2 u0 e1 e2
  go_enter Try.func6, Try.ntmps6
  go_wp2_with fail
  refine (new_ok (L1 a0) 1024 (okL a0) _).mono ?_
  rintro e w1 ⟨rfl, hT1, hB1⟩
  have HW1 := hide hT1
  have HB1 := hide hB1
  clear hT1 hB1
  go_wp2_with fail
  obtain ⟨p, hp⟩ : ∃ p, w.heap.size + 1 = p := ⟨_, rfl⟩
  rw [hp] at HW1 ⊢
  have HP : Hid (w.heap.size < p) := hide (by omega)
  clear hp
  have HN1 : Hid ((N : Int) ≤ 255) := hide (by omega)
  go_loopw [10] (fun iv wr => ∃ (k : Nat) (A : Option Addr) (c : Nat) (l : List Pc), k ≤ N ∧ l = (List.range k).map yi ∧ iv = .int .i64 k ∧ Hid (WayAt tW wr w.heap.size p (L1 a0) 1024 (.slice A l.length c) l) ∧ Hid (Below w.heap.size w wr)) (fun iv _ => N - (intOf iv).toNat)
  case atStart => exact ⟨0, none, 0, [], Nat.zero_le _, rfl, rfl, HW1, HB1⟩
  case round =>
    obtain ⟨k, A, c, l, hk, hl, rfl, HW, HB⟩ := hrel
    clear HW1 HB1
    have hlen : l.length = k := by rw [hl]; simp
    by_cases hlt : k < N
    · have hput := put_ok wr w.heap.size p (L1 a0) 1024 A c l (yi k) HW.out (by decide) (by decide) (by have := HN.out; omega) HB.out.size (by simp [may, yi]) rfl rfl (.inr (by have := HN.out; unfold room; rw [if_pos (by omega)]; omega))
      unfold c35 yi at hput
      have HPut := hide hput
      have HL2 : Hid (l ++ [yi k] = (List.range (k + 1)).map yi) := hide (by rw [hl, List.range_succ, List.map_append]; rfl)
      clear hput
      have hn : (k : Int) ≤ 255 := by have := HN.out; omega
      have b1 : (k : Int) < (N : Int) := by omega
      clear hl hlen
      go_wp2_with fail
      refine HPut.out.mono ?_
      rintro e w3 ⟨rfl, A', c', hW', hO, hOb⟩
      have HW3 := hide hW'
      have HB3 := hide (HB.out.trans (hO.below HB.out.size (fun b hb => by
        rcases hb with q | q
        · have := HP.out; omega
        · exact (HW.out.own.blk b q.symm).1)))
      clear HPut hW' hO hOb HW HB
      go_wp2_with fail
      go_roundw
      case rel => exact ⟨k + 1, A', c', l ++ [yi k], by omega, HL2.out, by go_num, HW3, HB3⟩
      case measure => simp [intOf]; omega
    · have b1 : ¬ (k : Int) < (N : Int) := by omega
      obtain rfl : k = N := by omega
      have hmk := print_make_of (P := Try.prog) 22 4 (.bool false) 1 Try.underlying22 (by kernel_rfl) rfl (by decide) k (by omega) wr
      have HW4 := hide (HW.out.alloc (.cells (madeCells #[.bool false] k) 4))
      have HB4 := hide (HB.out.alloc HB.out.size (.cells (madeCells #[.bool false] k) 4))
      have HS4 := hide (Blk.new wr 4 (madeCells #[.bool false] k))
      have HGw : Hid (w.heap.size ≤ wr.heap.size) := hide HB.out.size
      have HGp : Hid (p < wr.heap.size) := hide HW.out.blk.lt
      have hlk : (k : Int) ≤ 255 := HN1.out
      clear hlt hk hN
      go_wp2_with fail
      clear hmk HW HB b1
      have HA0 : Hid (∀ u, u < k → (madeCells #[.bool false] k)[u]? = some (.bool (decide (u ∉ List.range k)))) := hide (fun u hu => by
        have e1 : decide (u ∉ List.range k) = false := decide_eq_false (fun q => q (List.mem_range.2 hu))
        rw [e1]
        simp [madeCells, hu, Nat.mod_one])
      have HZ0 : Hid ((madeCells #[.bool false] k).size = k) := hide (size_madeCells _ _)
      generalize madeCells #[.bool false] k = S0 at HW4 HB4 HS4 HA0 HZ0 ⊢
      generalize wr.alloc (.cells S0 4) = w4 at HW4 HB4 HS4 ⊢
      generalize wr.heap.size = g at HS4 HGw HGp ⊢
      go_loopw [12] (fun iv ws => ∃ (i : Nat) (ids : List Nat) (S : Array Value) (A : Option Addr) (c : Nat) (l : List Pc), i ≤ k ∧ l = ids.map yi ∧ iv = .int .i64 i ∧ Hid (Rest a0 k i ids) ∧ Hid (WayAt tW ws w.heap.size p (L1 a0) 1024 (.slice A l.length c) l) ∧ Hid (Blk ws g 4 S) ∧ Hid (∀ u, u < k → S[u]? = some (.bool (decide (u ∉ ids)))) ∧ Hid (S.size = k) ∧ Hid (Below w.heap.size w ws)) (fun iv _ => k - (intOf iv).toNat)
      case atStart => exact ⟨0, List.range k, S0, A, c, l, Nat.zero_le _, hl, rfl, hide (Rest.start a0 k), HW4, HS4, HA0, HZ0, HB4⟩
      case round =>
        clear HW4 HS4 HA0 HZ0 HB4 hl hlen
        obtain ⟨i, ids, S, A, c, l, hi, hl, rfl, HI, HW, HS, HA, HZ, HB⟩ := hrel
        have hlen : l.length = ids.length := by rw [hl]; simp
        have hlen2 := HI.out.len
        by_cases hlt : i < k
        · have b1 : (i : Int) < (k : Int) := by omega
          by_cases hp2 : i < l2.length
          · have b2 : (i : Int) < (l2.length : Int) := by omega
            obtain ⟨ad, rfl, q0⟩ := at_int HR.out hp2
            have r0 := (HB.out.cell (World.block_lt_of_cell? w _ q0)).trans q0
            obtain ⟨n, hn⟩ : ∃ n, l2[i] = n := ⟨_, rfl⟩
            rw [hn] at r0 q0
            clear hn
            obtain ⟨j, hj, hpj⟩ := plc_spec (L1 a0) n l.length (by omega)
            have hji : j < ids.length := by omega
            obtain ⟨u, hu⟩ : ∃ u, ids[j] = u := ⟨_, rfl⟩
            have hmem : u ∈ ids := by rw [← hu]; exact List.getElem_mem hji
            have huk : u < k := HI.out.lt u hmem
            have hx : l[j]? = some (yi u) := by rw [hl, List.getElem?_map, List.getElem?_eq_getElem hji, hu]; rfl
            have hlj : l[j] = yi u := (List.getElem?_eq_some_iff.1 hx).2
            have HSu : Hid (S[u]? = some (.bool false)) := hide (by rw [HA.out u huk, decide_eq_false (fun q => q hmem)])
            have HSt : Hid (a0 = false → (u : Int) = (i : Int)) := hide (fun e => by
              have h0 : j = 0 := by
                have := hpj
                unfold plc at this
                rw [show (L1 a0).f3 = a0 from rfl, e] at this
                simp at this
                omega
              rw [← hu, HI.out.first e hji h0])
            have HI2 : Hid (Rest a0 k (i + 1) (ids.eraseIdx j)) := hide (HI.out.step hlt hji (fun e => by
              have := hpj
              unfold plc at this
              rw [show (L1 a0).f3 = a0 from rfl, e] at this
              simp at this
              omega))
            have HA2 : Hid (∀ v, v < k → (S.setIfInBounds u (.bool true))[v]? = some (.bool (decide (v ∉ ids.eraseIdx j)))) := hide (fun v hv => by
              by_cases e : v = u
              · subst e
                have h3 : decide (v ∉ ids.eraseIdx j) = true := decide_eq_true (fun q => ((mem_erase HI.out.nd hji v).1 q).2 hu.symm)
                rw [h3]
                simp [HZ.out, hv]
              · rw [Array.getElem?_setIfInBounds_ne (fun q => e q.symm), HA.out v hv]
                congr 2
                have := mem_erase HI.out.nd hji v
                rw [hu] at this
                by_cases hm : v ∈ ids <;> simp [hm, this, e])
            have HPk := hide (fun W hW => peek_call W w.heap.size p (L1 a0) 1024 A c l n hW (by decide) (by omega) j hj hpj)
            rw [hlj] at HPk
            have HTk := hide (fun W hW hWs => take_call W w.heap.size p (L1 a0) 1024 A c l n hW (by decide) hWs (by omega) j (yi u) hx hpj)
            have HEr : Hid (l.eraseIdx j = (ids.eraseIdx j).map yi) := hide (by rw [hl, map_erase])
            unfold c35 yi at HPk HTk
            obtain ⟨q, hq⟩ : ∃ q, (u : Int).tmod 2 = q := ⟨_, rfl⟩
            have hq2 : (u : Int) % 2 = q := by rw [← hq]; exact (Int.tmod_eq_emod_of_nonneg (by omega)).symm
            rw [hq] at HPk HTk
            clear hl hj hpj hji hu hmem hx hlj hlen hlen2 HI HA
            have hk255 : (k : Int) ≤ 255 := HN1.out
            have hu1 : (u : Int) < (k : Int) := by omega
            have hi1 : (i : Int) < (k : Int) := by omega
            go_wp2_with fail
            refine (HPk.out _ HW.out).mono ?_
            rintro e w5 ⟨rfl, hb5⟩
            have HB5 := hide (below_step HB.out hb5)
            have HW5 := hide (HW.out.below hb5)
            have HS5 := hide (HS.out.below' hb5)
            clear hb5 HB HW HS HPk
            rename_i K1 h1 K2 h2
            have HK := hide h1
            clear h1
            go_wp2_with fail
            have HB6 := hide (HB5.out.alloc HB5.out.size (.cells #[.int .i64 0, .int .i64 0, .int .i64 0, .int .i64 1, .int .i64 0, .int .i64 (u : Int), .bool false, .int .i64 q] 35))
            have HW6 := hide (HW5.out.alloc (.cells #[.int .i64 0, .int .i64 0, .int .i64 0, .int .i64 1, .int .i64 0, .int .i64 (u : Int), .bool false, .int .i64 q] 35))
            have HS6 := hide (HS5.out.alloc (.cells #[.int .i64 0, .int .i64 0, .int .i64 0, .int .i64 1, .int .i64 0, .int .i64 (u : Int), .bool false, .int .i64 q] 35))
            have HX6 := hide (Blk.new w5 35 #[.int .i64 0, .int .i64 0, .int .i64 0, .int .i64 1, .int .i64 0, .int .i64 (u : Int), .bool false, .int .i64 q])
            have HXp : Hid (w5.heap.size ≠ p) := hide (by have := HW5.out.blk.lt; omega)
            have HXo : Hid (∀ b, (Value.slice A l.length c).ownBlock = some b → b ≠ w5.heap.size) := hide (fun b hb e => by have := (HW5.out.own.blk b hb).2; omega)
            have HXg : Hid (w5.heap.size ≠ g) := hide (by have := HS5.out.lt; omega)
            generalize w5.alloc (.cells #[.int .i64 0, .int .i64 0, .int .i64 0, .int .i64 1, .int .i64 0, .int .i64 (u : Int), .bool false, .int .i64 q] 35) = w6 at HB6 HW6 HS6 HX6 ⊢
            generalize w5.heap.size = g1 at HX6 HXp HXo HXg ⊢
            refine HK.out _ _ ?_
            clear HK K1 HB5 HW5 HS5
            go_wp2_with fail
            refine (HTk.out _ HW6.out HB6.out.size).mono ?_
            rintro e w7 ⟨rfl, A', c', hW', hO, hOb⟩
            have HX7 := hide (HX6.out.only hO (fun q => by
              rcases q with q | q
              · exact HXp.out q
              · exact HXo.out _ q.symm rfl))
            have HS7 := hide (HS6.out.only hO (fun q => by
              rcases q with q | q
              · have := HGp.out; omega
              · exact own_blk_ne HW6.out.own HS6.out (by decide) q.symm))
            have HW7 := hide hW'
            have HB7 := hide (HB6.out.trans (hO.below HB6.out.size (fun b hb => by
              rcases hb with q | q
              · have := HP.out; omega
              · exact (HW6.out.own.blk b q.symm).1)))
            clear HTk hW' hO hOb HW6 HB6 HX6 HS6
            rename_i K1 h1 K2 h2
            have HK := hide h1
            clear h1
            go_wp2_with fail
            have HB8 := hide (HB7.out.alloc HB7.out.size (.cells #[.int .i64 0, .int .i64 0, .int .i64 0, .int .i64 1, .int .i64 0, .int .i64 (u : Int), .bool false, .int .i64 q] 35))
            have HW8 := hide (HW7.out.alloc (.cells #[.int .i64 0, .int .i64 0, .int .i64 0, .int .i64 1, .int .i64 0, .int .i64 (u : Int), .bool false, .int .i64 q] 35))
            have HS8 := hide (HS7.out.alloc (.cells #[.int .i64 0, .int .i64 0, .int .i64 0, .int .i64 1, .int .i64 0, .int .i64 (u : Int), .bool false, .int .i64 q] 35))
            have HX8 := hide (HX7.out.alloc (.cells #[.int .i64 0, .int .i64 0, .int .i64 0, .int .i64 1, .int .i64 0, .int .i64 (u : Int), .bool false, .int .i64 q] 35))
            have HY8 := hide (Blk.new w7 35 #[.int .i64 0, .int .i64 0, .int .i64 0, .int .i64 1, .int .i64 0, .int .i64 (u : Int), .bool false, .int .i64 q])
            generalize w7.alloc (.cells #[.int .i64 0, .int .i64 0, .int .i64 0, .int .i64 1, .int .i64 0, .int .i64 (u : Int), .bool false, .int .i64 q] 35) = w8 at HB8 HW8 HS8 HX8 HY8 ⊢
            generalize w7.heap.size = g2 at HY8 ⊢
            refine HK.out _ _ ?_
            clear HK K1 HB7 HW7 HS7 HX7
            obtain ⟨x0, x1, x2, x3, x4, x5, x6, x7⟩ := blk8 HX8.out
            obtain ⟨y0, y1, y2, y3, y4, y5, y6, y7⟩ := blk8 HY8.out
            have su : w8.cell? ⟨g, u, none⟩ = some (.bool false) := (HS8.out.cell u).trans HSu.out
            have sf : w8.frozen? ⟨g, u, none⟩ = false := HS8.out.frozen u
            have HO9 := hide ((Only.refl w8 (fun b => b = g)).setCell (p := ⟨g, u, none⟩) (.inl rfl) (.bool true))
            have HW9 := hide (HW8.out.only HO9.out (fun e => by have := HGp.out; omega) (fun b hb e => own_blk_ne HW8.out.own HS8.out (by decide) (by rw [← e]; exact hb)))
            have HS9 := hide (HS8.out.set_ u (.bool true))
            have HB9 := hide (HB8.out.trans (HO9.out.below HB8.out.size (fun b hb => by have := HGw.out; omega)))
            have HZ9 : Hid ((S.setIfInBounds u (.bool true)).size = k) := hide (by rw [Array.size_setIfInBounds]; exact HZ.out)
            cases a0
            · have e1 := HSt.out rfl
              have e2 : i = u := by omega
              subst e2
              clear e1
              go_wp2_with fail
              go_roundw
              case rel => exact ⟨i + 1, ids.eraseIdx j, _, A', c', l.eraseIdx j, by omega, HEr.out, by go_num, HI2, HW9, HS9, HA2, HZ9, HB9⟩
              case measure => simp [intOf]; omega
            · go_wp2_with fail
              go_roundw
              case rel => exact ⟨i + 1, ids.eraseIdx j, _, A', c', l.eraseIdx j, by omega, HEr.out, by go_num, HI2, HW9, HS9, HA2, HZ9, HB9⟩
              case measure => simp [intOf]; omega
          · have b2 : ¬ (i : Int) < (l2.length : Int) := by omega
            obtain ⟨j, hj, hpj⟩ := plc_spec (L1 a0) 0 l.length (by omega)
            have hji : j < ids.length := by omega
            obtain ⟨u, hu⟩ : ∃ u, ids[j] = u := ⟨_, rfl⟩
            have hmem : u ∈ ids := by rw [← hu]; exact List.getElem_mem hji
            have huk : u < k := HI.out.lt u hmem
            have hx : l[j]? = some (yi u) := by rw [hl, List.getElem?_map, List.getElem?_eq_getElem hji, hu]; rfl
            have hlj : l[j] = yi u := (List.getElem?_eq_some_iff.1 hx).2
            have HSu : Hid (S[u]? = some (.bool false)) := hide (by rw [HA.out u huk, decide_eq_false (fun q => q hmem)])
            have HSt : Hid (a0 = false → (u : Int) = (i : Int)) := hide (fun e => by
              have h0 : j = 0 := by
                have := hpj
                unfold plc at this
                rw [show (L1 a0).f3 = a0 from rfl, e] at this
                simp at this
                omega
              rw [← hu, HI.out.first e hji h0])
            have HI2 : Hid (Rest a0 k (i + 1) (ids.eraseIdx j)) := hide (HI.out.step hlt hji (fun e => by
              have := hpj
              unfold plc at this
              rw [show (L1 a0).f3 = a0 from rfl, e] at this
              simp at this
              omega))
            have HA2 : Hid (∀ v, v < k → (S.setIfInBounds u (.bool true))[v]? = some (.bool (decide (v ∉ ids.eraseIdx j)))) := hide (fun v hv => by
              by_cases e : v = u
              · subst e
                have h3 : decide (v ∉ ids.eraseIdx j) = true := decide_eq_true (fun q => ((mem_erase HI.out.nd hji v).1 q).2 hu.symm)
                rw [h3]
                simp [HZ.out, hv]
              · rw [Array.getElem?_setIfInBounds_ne (fun q => e q.symm), HA.out v hv]
                congr 2
                have := mem_erase HI.out.nd hji v
                rw [hu] at this
                by_cases hm : v ∈ ids <;> simp [hm, this, e])
            have HPk := hide (fun W hW => peek_call W w.heap.size p (L1 a0) 1024 A c l 0 hW (by decide) (by omega) j hj hpj)
            rw [hlj] at HPk
            have HTk := hide (fun W hW hWs => take_call W w.heap.size p (L1 a0) 1024 A c l 0 hW (by decide) hWs (by omega) j (yi u) hx hpj)
            have HEr : Hid (l.eraseIdx j = (ids.eraseIdx j).map yi) := hide (by rw [hl, map_erase])
            unfold c35 yi at HPk HTk
            obtain ⟨q, hq⟩ : ∃ q, (u : Int).tmod 2 = q := ⟨_, rfl⟩
            have hq2 : (u : Int) % 2 = q := by rw [← hq]; exact (Int.tmod_eq_emod_of_nonneg (by omega)).symm
            rw [hq] at HPk HTk
            clear hl hj hpj hji hu hmem hx hlj hlen hlen2 HI HA
            have hk255 : (k : Int) ≤ 255 := HN1.out
            have hu1 : (u : Int) < (k : Int) := by omega
            have hi1 : (i : Int) < (k : Int) := by omega
            go_wp2_with fail
            refine (HPk.out _ HW.out).mono ?_
            rintro e w5 ⟨rfl, hb5⟩
            have HB5 := hide (below_step HB.out hb5)
            have HW5 := hide (HW.out.below hb5)
            have HS5 := hide (HS.out.below' hb5)
            clear hb5 HB HW HS HPk
            rename_i K1 h1 K2 h2
            have HK := hide h1
            clear h1
            go_wp2_with fail
            have HB6 := hide (HB5.out.alloc HB5.out.size (.cells #[.int .i64 0, .int .i64 0, .int .i64 0, .int .i64 1, .int .i64 0, .int .i64 (u : Int), .bool false, .int .i64 q] 35))
            have HW6 := hide (HW5.out.alloc (.cells #[.int .i64 0, .int .i64 0, .int .i64 0, .int .i64 1, .int .i64 0, .int .i64 (u : Int), .bool false, .int .i64 q] 35))
            have HS6 := hide (HS5.out.alloc (.cells #[.int .i64 0, .int .i64 0, .int .i64 0, .int .i64 1, .int .i64 0, .int .i64 (u : Int), .bool false, .int .i64 q] 35))
            have HX6 := hide (Blk.new w5 35 #[.int .i64 0, .int .i64 0, .int .i64 0, .int .i64 1, .int .i64 0, .int .i64 (u : Int), .bool false, .int .i64 q])
            have HXp : Hid (w5.heap.size ≠ p) := hide (by have := HW5.out.blk.lt; omega)
            have HXo : Hid (∀ b, (Value.slice A l.length c).ownBlock = some b → b ≠ w5.heap.size) := hide (fun b hb e => by have := (HW5.out.own.blk b hb).2; omega)
            have HXg : Hid (w5.heap.size ≠ g) := hide (by have := HS5.out.lt; omega)
            generalize w5.alloc (.cells #[.int .i64 0, .int .i64 0, .int .i64 0, .int .i64 1, .int .i64 0, .int .i64 (u : Int), .bool false, .int .i64 q] 35) = w6 at HB6 HW6 HS6 HX6 ⊢
            generalize w5.heap.size = g1 at HX6 HXp HXo HXg ⊢
            refine HK.out _ _ ?_
            clear HK K1 HB5 HW5 HS5
            go_wp2_with fail
            refine (HTk.out _ HW6.out HB6.out.size).mono ?_
            rintro e w7 ⟨rfl, A', c', hW', hO, hOb⟩
            have HX7 := hide (HX6.out.only hO (fun q => by
              rcases q with q | q
              · exact HXp.out q
              · exact HXo.out _ q.symm rfl))
            have HS7 := hide (HS6.out.only hO (fun q => by
              rcases q with q | q
              · have := HGp.out; omega
              · exact own_blk_ne HW6.out.own HS6.out (by decide) q.symm))
            have HW7 := hide hW'
            have HB7 := hide (HB6.out.trans (hO.below HB6.out.size (fun b hb => by
              rcases hb with q | q
              · have := HP.out; omega
              · exact (HW6.out.own.blk b q.symm).1)))
            clear HTk hW' hO hOb HW6 HB6 HX6 HS6
            rename_i K1 h1 K2 h2
            have HK := hide h1
            clear h1
            go_wp2_with fail
            have HB8 := hide (HB7.out.alloc HB7.out.size (.cells #[.int .i64 0, .int .i64 0, .int .i64 0, .int .i64 1, .int .i64 0, .int .i64 (u : Int), .bool false, .int .i64 q] 35))
            have HW8 := hide (HW7.out.alloc (.cells #[.int .i64 0, .int .i64 0, .int .i64 0, .int .i64 1, .int .i64 0, .int .i64 (u : Int), .bool false, .int .i64 q] 35))
            have HS8 := hide (HS7.out.alloc (.cells #[.int .i64 0, .int .i64 0, .int .i64 0, .int .i64 1, .int .i64 0, .int .i64 (u : Int), .bool false, .int .i64 q] 35))
            have HX8 := hide (HX7.out.alloc (.cells #[.int .i64 0, .int .i64 0, .int .i64 0, .int .i64 1, .int .i64 0, .int .i64 (u : Int), .bool false, .int .i64 q] 35))
            have HY8 := hide (Blk.new w7 35 #[.int .i64 0, .int .i64 0, .int .i64 0, .int .i64 1, .int .i64 0, .int .i64 (u : Int), .bool false, .int .i64 q])
            generalize w7.alloc (.cells #[.int .i64 0, .int .i64 0, .int .i64 0, .int .i64 1, .int .i64 0, .int .i64 (u : Int), .bool false, .int .i64 q] 35) = w8 at HB8 HW8 HS8 HX8 HY8 ⊢
            generalize w7.heap.size = g2 at HY8 ⊢
            refine HK.out _ _ ?_
            clear HK K1 HB7 HW7 HS7 HX7
            obtain ⟨x0, x1, x2, x3, x4, x5, x6, x7⟩ := blk8 HX8.out
            obtain ⟨y0, y1, y2, y3, y4, y5, y6, y7⟩ := blk8 HY8.out
            have su : w8.cell? ⟨g, u, none⟩ = some (.bool false) := (HS8.out.cell u).trans HSu.out
            have sf : w8.frozen? ⟨g, u, none⟩ = false := HS8.out.frozen u
            have HO9 := hide ((Only.refl w8 (fun b => b = g)).setCell (p := ⟨g, u, none⟩) (.inl rfl) (.bool true))
            have HW9 := hide (HW8.out.only HO9.out (fun e => by have := HGp.out; omega) (fun b hb e => own_blk_ne HW8.out.own HS8.out (by decide) (by rw [← e]; exact hb)))
            have HS9 := hide (HS8.out.set_ u (.bool true))
            have HB9 := hide (HB8.out.trans (HO9.out.below HB8.out.size (fun b hb => by have := HGw.out; omega)))
            have HZ9 : Hid ((S.setIfInBounds u (.bool true)).size = k) := hide (by rw [Array.size_setIfInBounds]; exact HZ.out)
            cases a0
            · have e1 := HSt.out rfl
              have e2 : i = u := by omega
              subst e2
              clear e1
              go_wp2_with fail
              go_roundw
              case rel => exact ⟨i + 1, ids.eraseIdx j, _, A', c', l.eraseIdx j, by omega, HEr.out, by go_num, HI2, HW9, HS9, HA2, HZ9, HB9⟩
              case measure => simp [intOf]; omega
            · go_wp2_with fail
              go_roundw
              case rel => exact ⟨i + 1, ids.eraseIdx j, _, A', c', l.eraseIdx j, by omega, HEr.out, by go_num, HI2, HW9, HS9, HA2, HZ9, HB9⟩
              case measure => simp [intOf]; omega
        · have b1 : ¬ (i : Int) < (k : Int) := by omega
          have hids := HI.out.no (by omega)
          subst hids
          obtain rfl : l = [] := by rw [hl]; rfl
          have HTk := hide (fun W hW => take_none W w.heap.size p (L1 a0) 1024 A c 0 hW (by decide))
          have HLn := hide (fun W hW => len_call W w.heap.size p (L1 a0) 1024 A c [] hW (by decide))
          unfold c35 at HTk
          clear hl hlen hlen2 HI HA
          go_wp2_with fail
          refine (HTk.out _ HW.out).mono ?_
          rintro e w5 ⟨rfl, hb5⟩
          have HW5 := hide (HW.out.below hb5)
          have HB5 := hide (below_step HB.out hb5)
          clear hb5
          go_wp2_with fail
          refine (HLn.out _ (HW5.out.alloc _)).mono ?_
          rintro e w6 ⟨rfl, rfl⟩
          go_wp2_with fail
          go_ret
          exact ⟨rfl, HB5.out.alloc HB5.out.size _⟩
end Go.Proofs.Ytdbdaalkmjcifaa.linkOrder
