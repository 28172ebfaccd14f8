/- The contracts of trace.join and Merge. No law is proved here. -/
import Derived.Test.YtcfhkapalcfpiaaDSorted
set_option linter.unusedVariables false
set_option linter.unusedSimpArgs false
namespace Go.Proofs.Ytcfhkapalcfpiaa.Merge
open Go.Proofs Go.Shelf Go.RowKit Go.Lib Go.Sort Go.Proofs.Ytcfhkapalcfpiaa.SortPure Go.Proofs.Ytcfhkapalcfpiaa.Heap Go.Proofs.Ytcfhkapalcfpiaa.Types Go.Proofs.Ytcfhkapalcfpiaa.Row Go.Proofs.Ytcfhkapalcfpiaa.Ord Go.Proofs.Ytcfhkapalcfpiaa.Sorted Go.Proofs.YtcfhkapalcfpiaaW.PrintWords Go.Proofs.YtcfhkapalcfpiaaW.PrintLast Go.Proofs.YtcfhkapalcfpiaaW.PrintMore
/-- An element of a slice of slices. -/
theorem at_row {w : World} {A : Option Addr} {n : Nat} {l : List (List M)} (h : Kd.C (Kd.slice 29 k29) w A n l) {i : Nat} (hi : i < l.length) : ∃ ad B c, A = some ad ∧ w.cell? (ad.add i) = some (.slice B (l[i]).length c) ∧ (l[i]).length ≤ c ∧ Kd.C k29 w B (l[i]).length l[i] := by
  obtain ⟨ad, e, hcell⟩ := h.2.2 (by have := h.1; omega)
  obtain ⟨cs, _, hK, hc0⟩ := hcell i _ (List.getElem?_eq_getElem hi)
  obtain ⟨B, c, rfl, hl, hr⟩ := hK
  have h2 := hc0 0 _ rfl
  have h3 : i * (Kd.slice 29 k29).sz + 0 = i := by show i * 1 + 0 = i; omega
  rw [h3] at h2
  exact ⟨ad, B, c, e, h2, hl, hr⟩
theorem flat_take {l : List (List M)} {k : Nat} (hk : k < l.length) : (l.take (k + 1)).flatten = (l.take k).flatten ++ l[k] := by
  rw [List.take_succ_eq_append_getElem hk, List.flatten_append]
  simp
theorem flat_le (l : List (List M)) (k : Nat) : (l.take k).flatten.length ≤ l.flatten.length := by
  conv => rhs; rw [← List.take_append_drop k l, List.flatten_append, List.length_append]
  omega
set_option maxHeartbeats 4000000 in
set_option maxRecDepth 100000 in
theorem join_call (A : Option Addr) (c : Nat) (l : List (List M)) (hc : l.length ≤ c) (y : l.flatten.length * 40 ≤ 140737488351232) (y2 : l.length * 24 ≤ 140737488351232) (w : World) (hr : Kd.C (Kd.slice 29 k29) w A l.length l) :
    Calls Try.prog 27 #[.slice A l.length c] w fun e w' => ∃ v, e = .returned v ∧ OwnM w' w.heap.size v l.flatten ∧ Below w.heap.size w w' := by
  have HR := hide hr
  have HY := hide y
  have hl2 : (l.length : Int) ≤ 5864062014634 := by omega
  clear hr y y2
  go_enter Try.func27, Try.ntmps27
  go_wp2_with fail
  go_loopw [3, 8] (fun v i wr => ∃ k : Nat, k ≤ l.length ∧ i = .int .i64 k ∧ Hid (OwnM wr w.heap.size v (l.take k).flatten) ∧ Hid (Below w.heap.size w wr)) (fun _ i _ => l.length - (intOf i).toNat)
  case atStart => exact ⟨0, Nat.zero_le _, rfl, hide (Own.nil _ _ _ _ _), hide (Below.refl _ _)⟩
  case round =>
    obtain ⟨k, hk, rfl, HO, HB⟩ := hrel
    by_cases hlt : k < l.length
    · have b1 : (k : Int) < (l.length : Int) := by omega
      obtain ⟨ad, B, c2, rfl, q0, _, hC⟩ := at_row (Kd.C_below HR.out HB.out) hlt
      have HC := hide hC
      have HF := hide (flat_take hlt)
      have HFl := hide (flat_le l (k + 1))
      obtain ⟨z, hz⟩ : ∃ z, l[k] = z := ⟨_, rfl⟩
      rw [hz] at HC HF q0
      clear hz hC
      go_wp2_with ((with_reducible refine gate_builtin (b := .append) (xs := #[.tmp 12, .tmp 13]) rfl ?_); at_builtin; refine wp_append flatM rfl k29_open rfl (.tmp 12) (.tmp 13) 22 rfl zM 40 Try.underlying22 infoM rfl _ rfl HO.out _ _ _ z rfl HC.out (by omega) ?aL ?aB ?_; (case aL => have := HY.out; have := HFl.out; rw [HF.out, List.length_append] at this; omega); (case aB => exact HB.out.size); rintro v' w5 ho hg)
      have hg : World.grownBy wr w5 u3.ownBlock := hg
      have HO5 : Hid (OwnM w5 w.heap.size v' (l.take (k + 1)).flatten) := hide (by rw [HF.out]; exact ho)
      have HB5 : Hid (Below w.heap.size w w5) := hide (HB.out.grown hg HB.out.size (fun b hb => (HO.out.blk b hb).1))
      go_roundw
      case rel => exact ⟨k + 1, by omega, by go_num, HO5, HB5⟩
      case measure => simp [intOf]; omega
    · have b1 : ¬ (k : Int) < (l.length : Int) := by omega
      obtain rfl : k = l.length := by omega
      rw [List.take_length] at HO
      go_wp2_with fail
      go_ret
      exact ⟨_, rfl, HO.out, HB.out⟩
theorem merge_call (A : Option Addr) (c : Nat) (l : List (List M)) (hc : l.length ≤ c) (y : l.flatten.length * 40 ≤ 140737488351232) (y2 : l.length * 24 ≤ 140737488351232) (w : World) (hr : Kd.C (Kd.slice 29 k29) w A l.length l) :
    Calls Try.prog 21 #[.slice A l.length c] w fun e w' => ∃ v, e = .returned v ∧ OwnM w' w.heap.size v (isort befD l.flatten) ∧ Below w.heap.size w w' := by
  have H1 := hide (join_call A c l hc y y2 w hr)
  have HY := hide y
  clear hr y y2
  go_enter Try.func21, Try.ntmps21
  go_wp2_with (first | (go_at_call 27; refine (Ord.unhide H1).mono ?_; rintro e w1 ⟨v1, rfl, ho, hb⟩; have HO := hide ho; have HB := hide hb; clear ho hb H1) | (go_at_call 28; refine (stableFunc_call _ _ _ l.flatten HO.out (by have := HY.out; omega)).mono ?_; rintro e w2 ⟨rfl, ho2, hb2⟩; have HO2 := hide ho2; have HB2 := hide hb2; clear ho2 hb2))
  go_ret
  exact ⟨_, rfl, HO2.out, HB.out.trans (HB2.out.below HB.out.size (fun i hi => (HO.out.blk i hi.symm).1))⟩
end Go.Proofs.Ytcfhkapalcfpiaa.Merge
