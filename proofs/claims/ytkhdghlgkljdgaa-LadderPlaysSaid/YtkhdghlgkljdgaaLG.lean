/- The ladder's Len and All. No law is proved here. -/
import Derived.Test.YtkhdghlgkljdgaaLF
namespace Go.Proofs.Ytkhdghlgkljdgaa.LQ
open Go.Proofs Go.Proofs.Ytkhdghlgkljdgaa.CQ Go.Proofs.Ytkhdghlgkljdgaa.Ref02 Go.Shelf Go.RowKit Go.Deep Go.Sort Go.Proofs.Ytkhdghlgkljdgaa.SortPure Go.Proofs.Ytkhdghlgkljdgaa.Types Go.Proofs.Ytkhdghlgkljdgaa.Heap Go.Proofs.Ytkhdghlgkljdgaa.Row Go.Proofs.Ytkhdghlgkljdgaa.Ord Go.Proofs.Ytkhdghlgkljdgaa.Sorted Go.Proofs.YtkhdghlgkljdgaaW.PrintWords Go.Proofs.YtkhdghlgkljdgaaW.PrintLast Go.Proofs.YtkhdghlgkljdgaaW.PrintMore
set_option linter.unusedVariables false
set_option linter.unusedSimpArgs false
/-- The bottom and the first k rungs, one behind another. -/
def cat (b : List M) (rs : List Rg) (k : Nat) : List M := b ++ ((rs.take k).map Rg.l).flatten
theorem cat_zero (b : List M) (rs : List Rg) : cat b rs 0 = b := by simp [cat]
theorem cat_succ (b : List M) (rs : List Rg) {k : Nat} (hk : k < rs.length) : cat b rs (k + 1) = cat b rs k ++ rs[k].l := by
  unfold cat
  rw [List.take_succ_eq_append_getElem hk, List.map_append, List.flatten_append, List.append_assoc]
  simp
theorem cat_all (b : List M) (rs : List Rg) {k : Nat} (hk : rs.length ≤ k) : cat b rs k = b ++ (rs.map Rg.l).flatten := by rw [cat, List.take_of_length_le hk]
theorem length_cat (b : List M) (rs : List Rg) : (b ++ (rs.map Rg.l).flatten).length = b.length + ((rs.map Rg.l).map List.length).sum := by rw [List.length_append, List.length_flatten]
theorem cat_le (b : List M) (rs : List Rg) (k : Nat) : (cat b rs k).length ≤ (b ++ (rs.map Rg.l).flatten).length := by
  have h : cat b rs k ++ ((rs.drop k).map Rg.l).flatten = b ++ (rs.map Rg.l).flatten := by
    unfold cat
    rw [List.append_assoc, ← List.flatten_append, ← List.map_append, List.take_append_drop]
  rw [← h, List.length_append]
  omega
set_option maxHeartbeats 8000000 in
set_option maxRecDepth 100000 in
theorem len_call {w : World} {S : Nat → Prop} {g : Nat} {A : Option Addr} {c : Nat} {b : List M} {most : Int} {R : Option Addr} {rc : Nat} {rs : List Rg} (h : LAt w S g A c b most R rc rs) (hm : most ≠ 0) (hr : rs.length ≤ 16384) {n : Nat} (hn : (b ++ (rs.map Rg.l).flatten).length = n) (hl : n ≤ 16384) :
    Calls Try.prog 11 #[.pointer (some ⟨g, 0, none⟩)] w fun e w' => e = .returned (.int .i64 n) ∧ w' = w := by
  have c0 := h.c0
  have c2 := h.c2
  have HNC := hide (none_call hm h.c1)
  have H := hide h
  have HCL := hide (cat_le b rs)
  have HNN := hide hn
  have HL := hide hl
  have hr64 : (rs.length : Int) ≤ 16384 := by omega
  clear h hn
  go_enter Try.func11, Try.ntmps11
  go_wp2_with (go_at_call 20; refine HNC.out.mono ?_; rintro e w1 ⟨rfl, hw1⟩; have hw2 := hw1.symm; subst hw2)
  go_loopw [3, 19] (fun v3 iv wr => wr = w ∧ ∃ k : Nat, k ≤ rs.length ∧ v3 = .int .i64 ((cat b rs k).length : Nat) ∧ iv = .int .i64 k) (fun _ iv _ => rs.length - (intOf iv).toNat)
  case atStart => exact ⟨rfl, 0, Nat.zero_le _, by rw [cat_zero], rfl⟩
  case round =>
    obtain ⟨rfl, k, hk, rfl, rfl⟩ := hrel
    by_cases hlt : k < rs.length
    · have b1 : (k : Int) < (rs.length : Int) := by omega
      obtain ⟨-, -, x, rfl⟩ := own_someR H.out.row (by omega)
      obtain ⟨q0, -⟩ := at_R0 H.out.row hlt rfl
      have HS : Hid ((cat b rs (k + 1)).length = (cat b rs k).length + rs[k].l.length) := hide (by rw [cat_succ b rs hlt, List.length_append])
      have h1 := HCL.out (k + 1)
      have h2 := HS.out
      have h3 := HNN.out
      obtain ⟨p, hp⟩ : ∃ p, (cat b rs k).length = p := ⟨_, rfl⟩
      obtain ⟨r, hr'⟩ : ∃ r, rs[k] = r := ⟨_, rfl⟩
      have hpr : (p : Int) + (r.l.length : Int) ≤ 16384 := by rw [← hp, ← hr']; omega
      rw [hp, hr'] at HS
      rw [hr'] at q0
      rw [hp]
      have wr1 : wrap64 ((p : Int) + (r.l.length : Int)) = (p : Int) + (r.l.length : Int) := IntWalk.wrap64_in _ (by omega)
      clear h1 h2 h3 hp hr'
      go_wp2_with fail
      go_roundw
      case rel => exact ⟨by trivial, k + 1, by omega, by rw [HS.out]; go_num, by go_num⟩
      case measure => simp [intOf]; omega
    · have b1 : ¬ (k : Int) < (rs.length : Int) := by omega
      have e : (cat b rs k).length = n := by rw [cat_all b rs (by omega)]; exact HNN.out
      rw [e]
      go_wp2_with fail
      go_ret
      exact ⟨rfl, rfl⟩
set_option maxHeartbeats 8000000 in
set_option maxRecDepth 100000 in
theorem all_call {w : World} {S : Nat → Prop} {g : Nat} {A : Option Addr} {c : Nat} {b : List M} {most : Int} {R : Option Addr} {rc : Nat} {rs : List Rg} (h : LAt w S g A c b most R rc rs) (hm : most ≠ 0) (hr : rs.length ≤ 16384) (hl : (b ++ (rs.map Rg.l).flatten).length ≤ 16384) :
    Calls Try.prog 16 #[.pointer (some ⟨g, 0, none⟩)] w (Made w (isort befM (b ++ (rs.map Rg.l).flatten))) := by
  have c0 := h.c0
  have c2 := h.c2
  have HNC := hide (none_call hm h.c1)
  have H := hide h
  have HCL := hide (cat_le b rs)
  have HL := hide hl
  have HB : Hid (b.length ≤ 16384) := hide (by rw [List.length_append] at hl; omega)
  have hr64 : (rs.length : Int) ≤ 16384 := by omega
  obtain ⟨Q, hQ⟩ : ∃ Q, Made w (isort befM (b ++ (rs.map Rg.l).flatten)) = Q := ⟨_, rfl⟩
  have HQ := hide hQ
  rw [hQ]
  clear h hQ hl
  go_enter Try.func16, Try.ntmps16
  go_upto_region 4 with (first
    | (go_at_call 20; refine HNC.out.mono ?_; rintro e w1 ⟨rfl, hw1⟩; have hw2 := hw1.symm; subst hw2)
    | ((with_reducible refine gate_builtin (b := .append) (xs := #[.const (.slice none 0 0), .tmp 12]) rfl ?_); at_builtin; refine wpList_plain (by rfl) (fun K hK => ?_); refine wp1_append flatM rfl k25_open (.const (.slice none 0 0)) (.tmp 12) 26 rfl zM 56 Try.underlying26 infoM rfl _ rfl (Own.nil c25 7 tM w w.heap.size) _ _ _ b rfl (own_C H.out.bot) (by omega) (by have := HB.out; simp; omega) (Nat.le_refl _) ?_; intro A1 m1 c1 w2 hm1 ho hg hb; have HO := hide ho; have HM := hide hm1; have HB2 : Hid (Below w.heap.size w w2) := hide ⟨hg.os, hg.tape, hg.output, hg.size, fun i hi => hg.block i hi (fun e => by cases e)⟩; clear ho hg hb hm1; refine hK _ _ ?_))
  have hm1 : m1 = b.length := HM.out.trans (by simp)
  subst hm1
  have c2' : w2.cell? ⟨g, 2, none⟩ = some (.slice R rs.length rc) := (H.out.below HB2.out).c2
  clear c0 c2 HM
  have HO2 : Hid (OwnM w2 w.heap.size (.slice A1 b.length c1) b) := hide HO.out
  clear HO
  go_wp2_with fail
  go_loopw [3, 19] (fun v3 iv wr => ∃ (k : Nat) (A1 : Option Addr) (m1 c1 : Nat), k ≤ rs.length ∧ v3 = .slice A1 m1 c1 ∧ iv = .int .i64 k ∧ Hid (OwnM wr w.heap.size (.slice A1 m1 c1) (cat b rs k)) ∧ Hid (Below w.heap.size w wr)) (fun _ iv _ => rs.length - (intOf iv).toNat)
  case atStart => exact ⟨0, A1, b.length, c1, Nat.zero_le _, rfl, rfl, hide (by rw [cat_zero]; exact HO2.out), HB2⟩
  case round =>
    obtain ⟨k, A2, m2, c2, hk, rfl, rfl, HO, HBW⟩ := hrel
    by_cases hlt : k < rs.length
    · have b1 : (k : Int) < (rs.length : Int) := by omega
      have HLW := hide (H.out.below HBW.out)
      obtain ⟨-, -, x, rfl⟩ := own_someR HLW.out.row (by omega)
      obtain ⟨q0, -⟩ := at_R0 HLW.out.row hlt rfl
      have HCR := hide (own_C (HLW.out.rung rs[k] (List.getElem_mem hlt)))
      have HS : Hid (cat b rs (k + 1) = cat b rs k ++ rs[k].l) := hide (cat_succ b rs hlt)
      have HSL : Hid ((cat b rs k).length + rs[k].l.length ≤ 16384) := hide (by
        have h1 := HCL.out (k + 1)
        have h2 := HL.out
        rw [HS.out, List.length_append] at h1
        omega)
      obtain ⟨r, hr'⟩ : ∃ r, rs[k] = r := ⟨_, rfl⟩
      rw [hr'] at q0 HCR HS HSL
      clear hr'
      go_wp2_with ((with_reducible refine gate_builtin (b := .append) (xs := #[.tmp 23, .tmp 24]) rfl ?_); at_builtin; refine wpList_plain (by rfl) (fun K hK => ?_); refine wp1_append2 flatM rfl k25_open (.tmp 23) (.tmp 24) 26 62 rfl zM 56 Try.underlying26 Try.underlying62 infoM rfl _ rfl HO.out _ _ _ r.l rfl HCR.out (by omega) (by have := HSL.out; omega) HBW.out.size ?_; intro A3 m3 c3 w3 hm3 ho3 hg3 hb3; have HO3 := hide ho3; have HM3 := hide hm3; have HB3 : Hid (Below w.heap.size w w3) := hide ⟨hg3.os.trans HBW.out.os, hg3.tape.trans HBW.out.tape, hg3.output.trans HBW.out.output, Nat.le_trans HBW.out.size hg3.size, fun i hi => (hg3.block i (Nat.lt_of_lt_of_le hi HBW.out.size) (fun e => by have := (HO.out.blk i e.symm).1; omega)).trans (HBW.out.block i hi)⟩; clear ho3 hg3 hb3 hm3; refine hK _ _ ?_)
      go_roundw
      case rel => exact ⟨k + 1, A3, m3, c3, by omega, rfl, by go_num, hide (by rw [HS.out]; exact HO3.out), HB3⟩
      case measure => simp [intOf]; omega
    · have b1 : ¬ (k : Int) < (rs.length : Int) := by omega
      have HOE : Hid (OwnM wr w.heap.size (.slice A2 m2 c2) (b ++ (rs.map Rg.l).flatten)) := hide (by rw [← cat_all b rs (k := k) (by omega)]; exact HO.out)
      obtain ⟨L, hL⟩ : ∃ L, b ++ (rs.map Rg.l).flatten = L := ⟨_, rfl⟩
      rw [hL] at HOE HL HQ
      have hm2 : m2 = L.length := by
        obtain ⟨_, _, hv, _, _⟩ := HOE.out.slice
        cases hv
        rfl
      subst hm2
      have HSD := hide (sorted_call A2 c2 L (by obtain ⟨_, _, hv, hc, _⟩ := HOE.out.slice; cases hv; exact hc) (by have := HL.out; omega) wr (by obtain ⟨_, _, hv, _, hC, _⟩ := HOE.out.reads flatM rfl k25_mk; cases hv; exact hC))
      clear hL HO
      go_wp2_with (go_at_call 13; refine HSD.out.mono ?_; rintro e w3 ⟨v, rfl, ho, hb⟩; have HO3 := hide ho; have HB3 := hide hb; clear ho hb)
      rw [← HQ.out]
      exact ⟨_, rfl, HO3.out.lower HBW.out.size, below_step HBW.out HB3.out⟩
end Go.Proofs.Ytkhdghlgkljdgaa.LQ
