/- The walk of ColourEnds. -/
import Derived.Test.YtkchbnmnkcffbaaTals
import Derived.Test.YtkchbnmnkcffbaaKindsColourEnds
import Derived.StillTailTactics
import Derived.Deep.RegionHeld3
import Derived.Deep.QuietTactic
import Derived.Deep.RegionLaw
import Derived.Deep.RegionWith
import Derived.BigQuiet
namespace Go.Proofs.Ytkchbnmnkcffbaa.colourEnds
open Go.Proofs Go.RowKit Go.Deep Go.Proofs.Ytkchbnmnkcffbaa.Types Go.Proofs.Ytkchbnmnkcffbaa.Heap Go.Proofs.Ytkchbnmnkcffbaa.Row Go.Proofs.Ytkchbnmnkcffbaa.Colour Go.Proofs.YtkchbnmnkcffbaaW.PrintWords Go.Proofs.YtkchbnmnkcffbaaW.PrintLast Go.Proofs.YtkchbnmnkcffbaaW.PrintMore
set_option linter.unusedVariables false
set_option linter.unusedSimpArgs false
attribute [local go_sem] max2_int min2_int max_two min_two max_three min_three max_four min_four
def lm (l : List Int) : Int := l.foldl Colour.mn NV
theorem lm_le_ (l : List Int) (a : Int) : l.foldl Colour.mn a ≤ a := by
  induction l generalizing a with
  | nil => exact Int.le_refl _
  | cons x l ih =>
    rw [List.foldl_cons]
    refine Int.le_trans (ih _) ?_
    unfold Colour.mn
    split <;> omega
theorem lm_le (l : List Int) : lm l ≤ NV := lm_le_ l _
theorem lm_step {l : List Int} {k : Nat} (hk : k < l.length) : lm (l.take (k + 1)) = Colour.mn (lm (l.take k)) l[k] := by
  unfold lm
  rw [List.take_succ_eq_append_getElem hk, List.foldl_append]
  rfl
abbrev ts1 : TS := ⟨1, 0, 0, NV⟩
theorem phase {N i : Nat} (hi : i < N) : (List.replicate i ts1 ++ List.replicate (N - i) ts0).set i ts1 = List.replicate (i + 1) ts1 ++ List.replicate (N - (i + 1)) ts0 := by
  obtain ⟨m, hm⟩ : ∃ m, N - i = m + 1 := ⟨N - i - 1, by omega⟩
  rw [hm, show N - (i + 1) = m by omega, List.set_append, if_neg (by simp), List.length_replicate, Nat.sub_self, List.replicate_succ, List.set_cons_zero, List.replicate_succ', List.append_assoc]
  rfl
set_option maxHeartbeats 16000000 in
set_option maxRecDepth 100000 in
theorem main (A0 : Option Addr) (c0 : Nat) (l0 : List (Int)) (N : Nat) (hN1 : N = l0.length ∧ N < 16 ∨ N = 16 ∧ 16 ≤ l0.length) (hN0 : 0 < N) (w : World) (hr0 : Kd.C (Kd.int .i64) w A0 l0.length l0) :
    Calls Try.prog 4 #[.slice A0 l0.length c0] w fun e w' => e = .returned (.bool true) ∧ Below w.heap.size w w' := by
  have HR := hide hr0
  have HN : Hid (N ≤ l0.length ∧ N ≤ 16 ∧ 0 < N) := hide (by omega)
  clear hr0
  have hmn : (if (16 : Int) < (l0.length : Int) then 16 else (l0.length : Int)) = (N : Int) := by split <;> omega
  have hz : ((N : Int) == 0) = false := by rw [beq_eq_false_iff_ne]; omega
  clear hN1 hN0
  go_enter Try.func4, Try.ntmps4
  go_wp2_with fail
  refine (newtoken_ok (N : Int) (by have := HN.out; omega) (by have := HN.out; omega) _).mono ?_
  rintro e w1 ⟨rfl, hT1, hB1⟩
  have HK1 := hide hT1
  have HB1 := hide hB1
  clear hT1 hB1 hmn
  obtain ⟨q, hq⟩ : ∃ q, w.heap.size = q := ⟨_, rfl⟩
  rw [hq] at HK1 ⊢
  have HQ := hide hq
  clear hq
  go_wp2_with fail
  have HB1 : Hid (Below w.heap.size w w1) := HB1
  go_loopw [6, 7] (fun tv iv wr => ∃ (i : Nat) (ps : List Nat), i ≤ N ∧ iv = .int .i64 i ∧ ps.length = i ∧ Hid (∀ (j p' : Nat), ps[j]? = some p' → q ≤ p') ∧ Hid (TalsAt wr q tv ps (List.replicate i ts0)) ∧ Hid (Tk wr q N 0 false 0 NV) ∧ Hid (Below w.heap.size w wr)) (fun _ iv _ => N - (intOf iv).toNat)
  case atStart => exact ⟨0, [], Nat.zero_le _, rfl, rfl, hide (fun j p' h => by simp at h), hide (TalsAt.nil _ _), HK1, HB1⟩
  case round =>
    obtain ⟨i, ps, hi, rfl, hps, HF, HT, HK, HB⟩ := hrel
    clear HK1 HB1
    by_cases hlt : i < N
    · have b1 : (i : Int) < (N : Int) := by omega
      have hn16 : (N : Int) ≤ 16 := by have := HN.out; omega
      have HPS := hide hps
      clear hps
      go_wp2_with fail
      refine (new_call _).mono ?_
      rintro e w3 ⟨rfl, hT, hb⟩
      have HT3 := hide (HT.out.below hb)
      have HK3 := hide (Blk.below' HK.out hb)
      have HB3 := hide (below_step HB.out hb)
      have HL3 := hide hT
      have HGv : Hid (∀ b, u6.ownBlock = some b → b < wr.heap.size ∧ q ≤ b) := hide (fun b hb => ⟨(HT.out.own.blk b hb).2, (HT.out.own.blk b hb).1⟩)
      have HGp : Hid (∀ j p', ps[j]? = some p' → p' ≠ wr.heap.size) := hide (fun j p' hj => by
        obtain ⟨s, _, ht⟩ := HT.out.ex hj
        have := Blk.lt ht
        omega)
      have HGs : Hid (q ≤ wr.heap.size) := hide (by rw [← HQ.out]; exact HB.out.size)
      clear hT hb HT HK HB
      generalize wr.heap.size = p at HL3 HGv HGp HGs ⊢
      have HO4 := hide (HT3.out.own.alloc (.cells #[.pointer (some ⟨p, 0, none⟩)] 23))
      have HC4 := hide (C_one (d := kP) (x := p) (Blk.new w3 23 (encP p).toArray) flatP rfl kP_mk)
      have HZ4 : Hid (q ≤ (w3.alloc (.cells #[.pointer (some ⟨p, 0, none⟩)] 23)).heap.size) := hide (by rw [World.size_alloc]; have := Blk.lt HL3.out; have := HGs.out; omega)
      rename_i K1 h1 K2 h2
      have HKc := hide h1
      clear h1
      go_wp2_with (first
        | ((with_reducible refine gate_builtin (b := .append) (xs := #[.tmp 35, .tmp 37]) rfl ?_); at_builtin; refine wp_append flatP rfl kP_open rfl (.tmp 35) (.tmp 37) 41 rfl (.pointer none) 8 Try.underlying41 infoP rfl _ rfl HO4.out _ _ _ [p] rfl HC4.out (by omega) ?aL HZ4.out ?_; (case aL => have := HPS.out; have := HN.out; simp only [List.length_singleton]; omega); rintro v' w5 ho hg))
      have HW4 := hide (HT3.out.own.alloc (.cells #[.pointer (some ⟨p, 0, none⟩)] 23))
      have hg : World.grownBy (w3.alloc (.cells #[.pointer (some ⟨p, 0, none⟩)] 23)) w5 u6.ownBlock := hg
      have hgr : Below w.heap.size (w3.alloc (.cells #[.pointer (some ⟨p, 0, none⟩)] 23)) w5 := (only_of_grown (S := fun b => q ≤ b) hg (fun b hb => .inl (HGv.out b hb).2)).below (by rw [HQ.out]; exact HZ4.out) (fun b hb => by rw [HQ.out]; exact hb)
      have HB5 := hide ((HB3.out.alloc HB3.out.size (.cells #[.pointer (some ⟨p, 0, none⟩)] 23)).trans hgr)
      have HK5 : Hid (Tk w5 q N 0 false 0 NV) := hide (Blk.grown (Blk.alloc HK3.out _) hg (fun e => own_blk_ne HW4.out (Blk.alloc HK3.out _) (by decide) e.symm))
      have hT5 := TalsAt.snoc (p := p) (s := ts0) (w' := w5) HT3.out ho (fun j p' s' h1 h2 => Blk.grown (Blk.alloc (HT3.out.at_ j p' s' h1 h2) _) hg (fun e => HT3.out.own_ne h1 e.symm)) (Blk.grown (Blk.alloc HL3.out _) hg (fun e => Nat.lt_irrefl _ (HGv.out p e.symm).1)) HGp.out
      rw [show List.replicate i ts0 ++ [ts0] = List.replicate (i + 1) ts0 from List.replicate_succ'.symm] at hT5
      have HT5 := hide hT5
      have HF5 : Hid (∀ (j p' : Nat), (ps ++ [p])[j]? = some p' → q ≤ p') := hide (fun j p' h => by
        rw [List.getElem?_append] at h
        split at h
        · exact HF.out j p' h
        · obtain ⟨k, hk⟩ : ∃ k, j - ps.length = k := ⟨_, rfl⟩
          rw [hk] at h
          cases k with
          | zero => simp at h; rw [← h]; exact HGs.out
          | succ k => simp at h)
      clear hT5 ho hg hgr HB3 HK3 HT3 HO4 HC4 HZ4 HL3 HGv HGp HGs
      refine HKc.out _ _ ?_
      clear HKc K1
      go_wp2_with fail
      go_roundw
      case rel => exact ⟨i + 1, ps ++ [p], by omega, by go_num, by have := HPS.out; simp [this], HF5, HT5, HK5, HB5⟩
      case measure => simp [intOf]; omega
    · have b1 : ¬ (i : Int) < (N : Int) := by omega
      obtain rfl : N = i := by omega
      clear hi hlt
      have hown := HT.out.own
      obtain ⟨A1, c1, hv, _, hA⟩ := hown.slice
      obtain ⟨g, rfl⟩ := hA (by have := HN.out; omega)
      subst hv
      rw [hps] at HT ⊢
      have HPS := hide hps
      clear hown hA hps b1
      have hn16 : (N : Int) ≤ 16 := by have := HN.out; omega
      have hn0 : (0 : Int) < N := by have := HN.out; omega
      have HTq : Hid (∀ wr, TalsAt wr q (.slice (some ⟨g, 0, none⟩) N c1) ps (List.replicate N ts0) → True) := hide (fun _ _ => trivial)
      clear HTq
      go_wp2_with fail
      go_loopw [8, 9] (fun wv iv ws => ∃ i : Nat, i ≤ N ∧ iv = .int .i64 i ∧ wv = .int .i64 (lm (l0.take i)) ∧ Hid (TalsAt ws q (.slice (some ⟨g, 0, none⟩) N c1) ps (List.replicate i ts1 ++ List.replicate (N - i) ts0)) ∧ Hid ((i < N → Tk ws q N i false 0 NV) ∧ (i = N → Tk ws q N 0 true 0 NV)) ∧ Hid (Below w.heap.size w ws)) (fun _ iv _ => N - (intOf iv).toNat)
      case atStart => exact ⟨0, Nat.zero_le _, rfl, rfl, HT, hide ⟨fun _ => HK.out, fun e => by have := HN.out; omega⟩, HB⟩
      case round =>
        clear HT HK HB
        obtain ⟨i, hi, rfl, rfl, HT, HK, HB⟩ := hrel
        by_cases hlt : i < N
        · have b1 : (i : Int) < (N : Int) := by omega
          have hlt0 : i < l0.length := by have := HN.out; omega
          obtain ⟨ad, rfl, q0⟩ := at_int HR.out hlt0
          have r0 := (HB.out.cell (World.block_lt_of_cell? w _ q0)).trans q0
          have HQ0 := hide q0
          have HS := hide (lm_step hlt0)
          have b0 : (i : Int) < (l0.length : Int) := by omega
          obtain ⟨t, ht⟩ : ∃ t, l0[i] = t := ⟨_, rfl⟩
          rw [ht] at r0 HQ0 HS
          clear ht q0
          obtain ⟨m, hm⟩ : ∃ m, lm (l0.take i) = m := ⟨_, rfl⟩
          obtain ⟨m', hm'⟩ : ∃ m', lm (l0.take (i + 1)) = m' := ⟨_, rfl⟩
          rw [hm, hm'] at HS
          rw [hm]
          have HM' := hide hm'
          have hmn : (if t < m then t else m) = m' := HS.out.symm
          obtain ⟨pi, hpi⟩ : ∃ pi, ps[i]? = some pi := ⟨_, List.getElem?_eq_getElem (by have := HPS.out; omega)⟩
          have hcell : wr.cell? ⟨g, i, none⟩ = some (.pointer (some ⟨pi, 0, none⟩)) := by
            obtain ⟨g', hg', hcell⟩ := at_P (c := c1) (by rw [HPS.out]; exact HT.out.own) hpi
            cases hg'
            exact hcell
          have hst : TlS wr pi ts0 := by
            obtain ⟨s, hs, ht⟩ := HT.out.ex hpi
            rw [List.getElem?_append_right (by simp), List.length_replicate, Nat.sub_self, List.getElem?_replicate, if_pos (by omega)] at hs
            injection hs with hs
            subst hs
            exact ht
          have HQs : Hid (q ≤ wr.heap.size) := hide (by rw [← HQ.out]; exact HB.out.size)
          have HNq : Hid (∀ (j p' : Nat), ps[j]? = some p' → p' ≠ q) := hide (fun j p' hj => by
            obtain ⟨s, _, ht⟩ := HT.out.ex hj
            exact Blk.ne_ ht (HK.out.1 hlt) (by decide))
          have HOq : Hid ((Value.slice (some ⟨g, 0, none⟩) N c1).ownBlock ≠ some q) := hide (own_blk_ne HT.out.own (HK.out.1 hlt) (by decide))
          by_cases hlast : (i : Int) + 1 < (N : Int)
          · have hl2 := hlast
            have HV := hide (visit_turn0 wr.drew q pi (N : Int) (i : Int) 0 NV 0 0 NV t (by omega) (by omega) (by omega) (HK.out.1 hlt) hst)
            have eqf : ((i : Int) == (N : Int) - 1) = false := by rw [beq_eq_false_iff_ne]; omega
            clear hst hlt0 hlt hi
            have hnw : wrap64 ((N : Int) - 1) = (N : Int) - 1 := by unfold wrap64; omega
            have rd : wr.drew.cell? (ad.add i) = some (.int .i64 t) := r0
            have hcelld : wr.drew.cell? ⟨g, i, none⟩ = some (.pointer (some ⟨pi, 0, none⟩)) := hcell
            go_wp2_with fail
            rename_i K1 h1
            have HKc := hide h1
            clear h1
            go_region_with (refine HV.out.mono ?_; rintro e w3 ⟨rfl, hK3, hT3, hO3⟩)
            all_goals (
              have HK3 : Hid (Tk w3 q N ((i : Int) + 1) false 0 NV) := hide hK3
              have HT3 : Hid (TalsAt w3 q (.slice (some ⟨g, 0, none⟩) N c1) ps (List.replicate (i + 1) ts1 ++ List.replicate (N - (i + 1)) ts0)) := hide (by rw [← phase (by omega)]; exact HT.out.set_ hpi hO3.undrew (fun j p' hj => HNq.out j p' hj) HOq.out hT3)
              have HB3 := hide (HB.out.trans (Only.below hO3.undrew (by rw [HQ.out]; exact HQs.out) (fun b hb => by
                rw [HQ.out]
                rcases hb with rfl | rfl
                · exact Nat.le_refl _
                · exact HF.out i _ hpi)))
              have HCt := hide (counting_call w3 q N _ _ _ _ (by omega) HK3.out)
              clear hK3 hT3 hO3 HV HT HK HB r0 rd hcell hcelld HNq HOq HQs
              refine HKc.out _ _ ?_
              clear HKc K1
              go_wp2_with (go_at_call 17; refine HCt.out.mono ?_; rintro e w4 ⟨rfl, rfl⟩)
              go_roundw
              case rel => exact ⟨i + 1, by omega, by go_num, by rw [HM'.out], HT3, hide ⟨fun _ => HK3.out, fun h => by omega⟩, HB3⟩
              case measure => simp [intOf]; omega)
          · have hl2 := hlast
            have HV := hide (visit_turn0L wr.drew q pi (N : Int) (i : Int) 0 NV 0 0 NV t (by omega) (by omega) (by omega) (HK.out.1 hlt) hst)
            have eqf : ((i : Int) == (N : Int) - 1) = true := by rw [beq_iff_eq]; omega
            clear hst hlt0 hlt hi
            have hnw : wrap64 ((N : Int) - 1) = (N : Int) - 1 := by unfold wrap64; omega
            have rd : wr.drew.cell? (ad.add i) = some (.int .i64 t) := r0
            have hcelld : wr.drew.cell? ⟨g, i, none⟩ = some (.pointer (some ⟨pi, 0, none⟩)) := hcell
            go_wp2_with fail
            rename_i K1 h1
            have HKc := hide h1
            clear h1
            go_region_with (refine HV.out.mono ?_; rintro e w3 ⟨rfl, hK3, hT3, hO3⟩)
            all_goals (
              have HK3 : Hid (Tk w3 q N 0 true 0 NV) := hide hK3
              have HT3 : Hid (TalsAt w3 q (.slice (some ⟨g, 0, none⟩) N c1) ps (List.replicate (i + 1) ts1 ++ List.replicate (N - (i + 1)) ts0)) := hide (by rw [← phase (by omega)]; exact HT.out.set_ hpi hO3.undrew (fun j p' hj => HNq.out j p' hj) HOq.out hT3)
              have HB3 := hide (HB.out.trans (Only.below hO3.undrew (by rw [HQ.out]; exact HQs.out) (fun b hb => by
                rw [HQ.out]
                rcases hb with rfl | rfl
                · exact Nat.le_refl _
                · exact HF.out i _ hpi)))
              have HCt := hide (counting_call w3 q N _ _ _ _ (by omega) HK3.out)
              clear hK3 hT3 hO3 HV HT HK HB r0 rd hcell hcelld HNq HOq HQs
              refine HKc.out _ _ ?_
              clear HKc K1
              go_wp2_with (go_at_call 17; refine HCt.out.mono ?_; rintro e w4 ⟨rfl, rfl⟩)
              go_roundw
              case rel => exact ⟨i + 1, by omega, by go_num, by rw [HM'.out], HT3, hide ⟨fun h => by omega, fun _ => HK3.out⟩, HB3⟩
              case measure => simp [intOf]; omega)
        · have b1 : ¬ (i : Int) < (N : Int) := by omega
          obtain rfl : N = i := by omega
          obtain ⟨W0, hW0⟩ : ∃ W0, lm (l0.take N) = W0 := ⟨_, rfl⟩
          rw [hW0]
          have HW0 := hide hW0
          clear hW0 hlt hi
          rw [Nat.sub_self, List.replicate_zero, List.append_nil] at HT
          have HK0 : Hid (Tk wr q N 0 true 0 NV) := hide (HK.out.2 rfl)
          clear HK
          go_wp2_with fail
          go_loopw [13] (fun iv ws => ∃ i : Nat, i ≤ N ∧ iv = .int .i64 i ∧ Hid (TalsAt ws q (.slice (some ⟨g, 0, none⟩) N c1) ps (List.replicate N ts1)) ∧ Hid ((i < N → Tk ws q N i true 0 (lm (l0.take i))) ∧ (i = N → Tk ws q N 0 false 0 NV)) ∧ Hid (Below w.heap.size w ws)) (fun iv _ => N - (intOf iv).toNat)
          case atStart => exact ⟨0, Nat.zero_le _, rfl, HT, hide ⟨fun _ => HK0.out, fun e => by have := HN.out; omega⟩, HB⟩
          case round =>
            clear HT HK0 HB
            obtain ⟨i, hi, rfl, HT, HK, HB⟩ := hrel
            by_cases hlt : i < N
            · have b1 : (i : Int) < (N : Int) := by omega
              have hlt0 : i < l0.length := by have := HN.out; omega
              obtain ⟨ad, rfl, q0⟩ := at_int HR.out hlt0
              have r0 := (HB.out.cell (World.block_lt_of_cell? w _ q0)).trans q0
              have HS := hide (lm_step hlt0)
              have HLe := hide (lm_le (l0.take i))
              have HLe' := hide (lm_le (l0.take (i + 1)))
              have b0 : (i : Int) < (l0.length : Int) := by omega
              obtain ⟨t, ht⟩ : ∃ t, l0[i] = t := ⟨_, rfl⟩
              rw [ht] at r0 HS
              clear ht q0
              obtain ⟨m, hm⟩ : ∃ m, lm (l0.take i) = m := ⟨_, rfl⟩
              obtain ⟨m', hm'⟩ : ∃ m', lm (l0.take (i + 1)) = m' := ⟨_, rfl⟩
              rw [hm, hm'] at HS
              rw [hm] at HLe HK
              rw [hm'] at HLe'
              have HM' := hide hm'
              clear hm hm'
              have e1 : wrap64 (0 + 0) = 0 := by unfold wrap64; omega
              have e2 : Colour.mn (Colour.mn m t) NV = m' := by
                rw [← HS.out]
                have := HLe'.out
                unfold Colour.mn
                rw [if_neg (by omega)]
              obtain ⟨pi, hpi⟩ : ∃ pi, ps[i]? = some pi := ⟨_, List.getElem?_eq_getElem (by have := HPS.out; omega)⟩
              have hcell : wr.cell? ⟨g, i, none⟩ = some (.pointer (some ⟨pi, 0, none⟩)) := by
                obtain ⟨g', hg', hcell⟩ := at_P (c := c1) (by rw [HPS.out]; exact HT.out.own) hpi
                cases hg'
                exact hcell
              have hst : TlS wr pi ts1 := by
                obtain ⟨s, hs, ht⟩ := HT.out.ex hpi
                rw [List.getElem?_replicate, if_pos hlt] at hs
                injection hs with hs
                subst hs
                exact ht
              have HQs : Hid (q ≤ wr.heap.size) := hide (by rw [← HQ.out]; exact HB.out.size)
              have HNq : Hid (∀ (j p' : Nat), ps[j]? = some p' → p' ≠ q) := hide (fun j p' hj => by
                obtain ⟨s, _, ht⟩ := HT.out.ex hj
                exact Blk.ne_ ht (HK.out.1 hlt) (by decide))
              have HOq : Hid ((Value.slice (some ⟨g, 0, none⟩) N c1).ownBlock ≠ some q) := hide (own_blk_ne HT.out.own (HK.out.1 hlt) (by decide))
              by_cases hlast : (i : Int) + 1 < (N : Int)
              · have hl2 := hlast
                have HV := hide (visit_count1 wr.drew q pi (N : Int) (i : Int) 0 m 0 0 NV t (by omega) (by omega) (by omega) (by have := HLe.out; omega) (HK.out.1 hlt) hst)
                rw [e1, e2] at HV
                have eqf : ((i : Int) == (N : Int) - 1) = false := by rw [beq_eq_false_iff_ne]; omega
                clear hst hlt0 hlt hi e1 e2
                have hnw : wrap64 ((N : Int) - 1) = (N : Int) - 1 := by unfold wrap64; omega
                have rd : wr.drew.cell? (ad.add i) = some (.int .i64 t) := r0
                have hcelld : wr.drew.cell? ⟨g, i, none⟩ = some (.pointer (some ⟨pi, 0, none⟩)) := hcell
                go_wp2_with fail
                rename_i K1 h1
                have HKc := hide h1
                clear h1
                go_region_with (refine HV.out.mono ?_; rintro e w3 ⟨rfl, hK3, hT3, hO3⟩)
                all_goals (
                  have HK3 : Hid (Tk w3 q N ((i : Int) + 1) true 0 m') := hide hK3
                  have HT3 : Hid (TalsAt w3 q (.slice (some ⟨g, 0, none⟩) N c1) ps (List.replicate N ts1)) := hide (by
                    have h5 := HT.out.set_ (s := ts1) hpi hO3.undrew (fun j p' hj => HNq.out j p' hj) HOq.out hT3
                    rwa [List.set_replicate_self] at h5)
                  have HB3 := hide (HB.out.trans (Only.below hO3.undrew (by rw [HQ.out]; exact HQs.out) (fun b hb => by
                    rw [HQ.out]
                    rcases hb with rfl | rfl
                    · exact Nat.le_refl _
                    · exact HF.out i _ hpi)))
                  clear hK3 hT3 hO3 HV HT HK HB r0 rd hcell hcelld HNq HOq HQs
                  refine HKc.out _ _ ?_
                  clear HKc K1
                  go_wp2_with fail
                  go_roundw
                  case rel => exact ⟨i + 1, by omega, by go_num, HT3, hide ⟨fun _ => by rw [HM'.out]; exact HK3.out, fun h => by omega⟩, HB3⟩
                  case measure => simp [intOf]; omega)
              · have hl2 := hlast
                have HV := hide (visit_count1LY wr.drew q pi (N : Int) (i : Int) 0 m 0 0 NV t (by omega) (by omega) (by omega) (by have := HLe.out; omega) e1 (HK.out.1 hlt) hst)
                rw [e2] at HV
                have eqf : ((i : Int) == (N : Int) - 1) = true := by rw [beq_iff_eq]; omega
                obtain rfl : W0 = m' := by
                  rw [← HM'.out, ← HW0.out]
                  congr 2
                  omega
                clear hst hlt0 hlt hi e1 e2
                have hnw : wrap64 ((N : Int) - 1) = (N : Int) - 1 := by unfold wrap64; omega
                have rd : wr.drew.cell? (ad.add i) = some (.int .i64 t) := r0
                have hcelld : wr.drew.cell? ⟨g, i, none⟩ = some (.pointer (some ⟨pi, 0, none⟩)) := hcell
                go_wp2_with fail
                rename_i K1 h1
                have HKc := hide h1
                clear h1
                go_region_with (refine HV.out.mono ?_; rintro e w3 ⟨rfl, hK3, hT3, hO3⟩)
                all_goals (
                  have HK3 : Hid (Tk w3 q N 0 false 0 NV) := hide hK3
                  have HT3 : Hid (TalsAt w3 q (.slice (some ⟨g, 0, none⟩) N c1) ps (List.replicate N ts1)) := hide (by
                    have h5 := HT.out.set_ (s := ts1) hpi hO3.undrew (fun j p' hj => HNq.out j p' hj) HOq.out hT3
                    rwa [List.set_replicate_self] at h5)
                  have HB3 := hide (HB.out.trans (Only.below hO3.undrew (by rw [HQ.out]; exact HQs.out) (fun b hb => by
                    rw [HQ.out]
                    rcases hb with rfl | rfl
                    · exact Nat.le_refl _
                    · exact HF.out i _ hpi)))
                  clear hK3 hT3 hO3 HV HT HK HB r0 rd hcell hcelld HNq HOq HQs
                  refine HKc.out _ _ ?_
                  clear HKc K1
                  go_wp2_with fail
                  go_roundw
                  case rel => exact ⟨i + 1, by omega, by go_num, HT3, hide ⟨fun h => by omega, fun _ => HK3.out⟩, HB3⟩
                  case measure => simp [intOf]; omega)
            · have b1 : ¬ (i : Int) < (N : Int) := by omega
              obtain rfl : N = i := by omega
              have HA1 := hide (at_call wr q N _ _ _ _ (by omega) (HK.out.2 rfl))
              have HA2 := hide (counting_call wr q N _ _ _ _ (by omega) (HK.out.2 rfl))
              clear hlt hi HT HK
              go_wp2_with (first | (go_at_call 18; refine HA1.out.mono ?_; rintro e w4 ⟨rfl, rfl⟩) | (go_at_call 17; refine HA2.out.mono ?_; rintro e w4 ⟨rfl, rfl⟩))
              go_ret
              exact ⟨rfl, HB.out⟩
theorem none_ (A0 : Option Addr) (c0 : Nat) (w : World) :
    Calls Try.prog 4 #[.slice A0 0 c0] w fun e w' => e = .returned (.bool true) ∧ Below w.heap.size w w' := by
  go_enter Try.func4, Try.ntmps4
  go_wp2_with (go_at_call 14; refine (awake_call _).mono ?_; rintro e w5 ⟨rfl, hb5⟩)
  go_ret
  exact ⟨rfl, hb5⟩
theorem walk (A0 : Option Addr) (c0 : Nat) (l0 : List (Int)) (hc0 : l0.length ≤ c0) (w0 : ∀ y ∈ l0, (Lit.int .i64 y).wf = true) (y0 : l0.length * 8 ≤ 140737488351232) (w : World) (hr0 : Kd.C (Kd.int .i64) w A0 l0.length l0) :
    Calls Try.prog 4 #[.slice A0 l0.length c0] w fun e w' => e = .returned (.bool true) ∧ Below w.heap.size w w' := by
  rcases Nat.eq_zero_or_pos l0.length with h0 | h0
  · rw [h0]
    exact none_ A0 c0 w
  · rcases Nat.lt_or_ge l0.length 16 with h1 | h1
    · exact main A0 c0 l0 l0.length (.inl ⟨rfl, h1⟩) h0 w hr0
    · exact main A0 c0 l0 16 (.inr ⟨rfl, h1⟩) (by omega) w hr0
end Go.Proofs.Ytkchbnmnkcffbaa.colourEnds
