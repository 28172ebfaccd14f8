/- The calendar's find and first. No law is proved here. -/
import Derived.Test.YtmgjnabenemghaaCA
namespace Go.Proofs.Ytmgjnabenemghaa.CQ
open Go.Proofs Go.Shelf Go.RowKit Go.Deep Go.Sort Go.Maps Go.Proofs.Ytmgjnabenemghaa.SortPure Go.Proofs.Ytmgjnabenemghaa.Types Go.Proofs.Ytmgjnabenemghaa.Heap Go.Proofs.Ytmgjnabenemghaa.Row Go.Proofs.Ytmgjnabenemghaa.Ord Go.Proofs.Ytmgjnabenemghaa.Sorted Go.Proofs.YtmgjnabenemghaaW.PrintWords Go.Proofs.YtmgjnabenemghaaW.PrintLast Go.Proofs.YtmgjnabenemghaaW.PrintMore
set_option linter.unusedVariables false
set_option linter.unusedSimpArgs false
theorem grown_below {w w0 w1 : World} {r : Nat} (h : Below w.heap.size w w0) (hg : w0.grownBy w1 (some r)) (hr : w.heap.size ≤ r) : Below w.heap.size w w1 :=
  ⟨hg.os.trans h.os, hg.tape.trans h.tape, hg.output.trans h.output, Nat.le_trans h.size hg.size, fun i hi => (hg.block i (Nat.lt_of_lt_of_le hi h.size) (fun e => by cases e; omega)).trans (h.block i hi)⟩
theorem grown_none_below {w w0 w1 : World} (h : Below w.heap.size w w0) (hg : w0.grownBy w1 none) : Below w.heap.size w w1 :=
  ⟨hg.os.trans h.os, hg.tape.trans h.tape, hg.output.trans h.output, Nat.le_trans h.size hg.size, fun i hi => (hg.block i (Nat.lt_of_lt_of_le hi h.size) (by simp)).trans (h.block i hi)⟩
theorem below_grown {w0 w1 : World} (h : Below w0.heap.size w0 w1) : w0.grownBy w1 none :=
  ⟨h.os, h.tape, h.output, h.size, fun i hi _ => h.block i hi⟩
theorem rs_unique {D : DataW Value} {d : Int} {A A' : Option Addr} {n n' c c' : Nat} {y : DataW Value × List MemPlace} (h1 : RS (.slice A n c) = some y) (h2 : ∀ z, D.atKey (.int .i64 d) z = y.1) (h3 : ∀ z, D.atKey (.int .i64 d) z = .held (.slice A' n' c')) : A = A' ∧ n = n' ∧ c = c' := by
  have e := (h2 (.nil)).symm.trans (h3 .nil)
  simp [RS] at h1
  rw [← h1] at e
  simpa using e
theorem same_day {x d : Int} : (Lit.int .i64 d).sameKey (.int .i64 x) = (d == x) := by
  cases h : (d == x)
  · have : d ≠ x := by simpa using h
    exact Maps.sameKey_ne (by simpa using this)
  · have e : d = x := by simpa using h
    subst e
    simp [Lit.sameKey]
set_option maxHeartbeats 4000000 in
set_option maxRecDepth 100000 in
theorem find_call {w : World} {P : Nat → Prop} {g b : Nat} {wd : Int} {sl : List M} (x y : Int) (h : CAt w P g b wd sl) :
    Calls Try.prog 21 #[.pointer (some ⟨g, 0, none⟩), .int .i64 x, .int .i64 y] w fun e w' => ((e = .returned (.tuple #[.int .i64 0, .int .i64 0, .bool false]) ∧ ∀ m ∈ sl, ¬ isOf x y m) ∨ ∃ d : Int, ∃ k : Nat, ∃ hk : k < (row wd sl d).length, wfI d ∧ e = .returned (.tuple #[.int .i64 d, .int .i64 k, .bool true]) ∧ isOf x y (row wd sl d)[k]) ∧ Below w.heap.size w w' := by
  have H := hide h
  obtain ⟨D, hown, hrep⟩ := h.days
  have HR := hide hrep
  have c1 := h.c1
  clear h hrep
  go_enter Try.func21, Try.ntmps21
  go_wp2_with (first
    | (at_range; refine wpList_range_own _ rfl _ tMap rfl tD tL lawD uMap _ b (Maps.size D) D rfl hown ?_; intro w0 hrg0 hg0 hs0)
    | go_in)
  go_frame
  have HB0 := hide (grown_none_below (Below.refl w.heap.size w) hg0)
  clear hg0 hs0
  go_loopw [9, 10, 11, 12] (fun v9 v10 v11 v12 wr => ∃ (left : Lit → Bool) (cnt : Nat), wr.ranges Try.prog tD RS b w.heap.size (Maps.size D) D left cnt ∧ Hid (∀ d, left (.int .i64 d) = false → ∀ m ∈ row wd sl d, ¬ isOf x y m) ∧ Hid (Below w.heap.size w wr)) (fun _ _ _ _ wr => wr.rangeLeft b w.heap.size)
  case atStart => exact ⟨_, _, hrg0, hide (fun d hd m hm => by
    have := (HR.out d).2 (fun e => by rw [e] at hm; simp at hm)
    rw [this.1] at hd
    cases hd), HB0⟩
  case round =>
    obtain ⟨left, cnt, hrg, HL, HB⟩ := hrel
    clear HB0 hrg0 hown
    have HG := hide hrg
    go_wp2_with (first
      | (at_next; refine wpList_next_ranges _ rfl _ rfl tD lawD RS (fun d : Int => Value.int .i64 d) (fun p : Option Addr × Nat × Nat => Value.slice p.1 p.2.1 p.2.2) (fun key kl hkey => by obtain ⟨q, rfl, _⟩ := Maps.keyOf_int_inv Try.underlying2 hkey; exact ⟨q, rfl⟩) RS_inv b w.heap.size (Maps.size D) D left cnt rfl hrg ?_ ?_)
      | go_in)
    · intro hc0 hl0
      go_wp2_with fail
      refine bodyPost_ret (v := .tuple #[.int .i64 0, .int .i64 0, .bool false]) ?_ rfl ⟨.inl ⟨rfl, fun m hm => HL.out (m.f0.f0 / wd) (hl0 _) m (mem_row.2 ⟨hm, rfl⟩)⟩, HB.out⟩
      exact results_list (rs := [.tmp 6, .tmp 7, .tmp 8]) rfl (by simp) (Vals.tmp (Vals.tmp (Vals.tmp Vals.nil)))
    · intro d A n c kl y1 y2 w1 cnt1 hkey hlk hv hat hrg1 hlt hg1 hs1 hen
      obtain ⟨q, eq1, rfl, hwq⟩ := Maps.keyOf_int_inv Try.underlying2 hkey
      obtain rfl : d = q := by injection eq1
      have hne : row wd sl d ≠ [] := by
        intro e
        have h1 := (HR.out d).1 e
        have h2 := Maps.has_true_of_atKey hat
        rw [h1] at h2
        cases h2
      obtain ⟨_, A', c', hat', hc', hC, hF⟩ := (HR.out d).2 hne
      obtain ⟨rfl, hn, rfl⟩ := rs_unique hv hat hat'
      have HB1 := hide (grown_below HB.out hg1 (Nat.le_refl _))
      have HLT := hide hlt
      have HRG := hide hrg1
      have HWQ := hide hwq
      obtain ⟨l, hl⟩ : ∃ l, row wd sl d = l := ⟨_, rfl⟩
      have HLQ := hide hl
      rw [hl] at hn hC hc'
      subst hn
      have HC := hide (C_below hC HB1.out)
      have hl63 : (l.length : Int) ≤ 16384 := by have h1 := H.out.len; have h2 := row_le wd sl d; rw [hl] at h2; omega
      clear hkey eq1 hwq hat hat' hC hF hne hv hl hc' hlt hg1 hs1 hrg1 hlk HB hrg
      go_wp2_with fail
      go_loopw [11, 12, 25] (fun v11 v12 iv w2 => ∃ k : Nat, k ≤ l.length ∧ iv = .int .i64 k ∧ Hid (∀ m ∈ l.take k, ¬ isOf x y m) ∧ Hid (Below w1.heap.size w1 w2)) (fun _ _ iv _ => l.length - (intOf iv).toNat)
      case atStart => exact ⟨0, Nat.zero_le _, rfl, hide (fun m hm => by simp at hm), hide (Below.refl _ _)⟩
      case round =>
        obtain ⟨k, hk, rfl, HT, HB2⟩ := hrel
        by_cases hlt : k < l.length
        · have b1 : (k : Int) < (l.length : Int) := by omega
          obtain ⟨ad, rfl, q0, q1, q2, q3, q4, q5, q6⟩ := at_S25 (C_below HC.out HB2.out) hlt
          have hstep : ¬ isOf x y l[k] → Hid (∀ m ∈ l.take (k + 1), ¬ isOf x y m) := fun hn => hide (fun m hm => by
            rw [List.take_succ_eq_append_getElem hlt] at hm
            rcases List.mem_append.1 hm with e | e
            · exact HT.out m e
            · rw [List.mem_singleton.1 e]; exact hn)
          have HIS : isOf x y l[k] → Hid (isOf x y l[k]) := hide
          obtain ⟨z, hz⟩ : ∃ z, l[k] = z := ⟨_, rfl⟩
          have HZ := hide hz
          rw [hz] at q0 q1 q2 q3 q4 q5 q6 hstep
          clear hz HIS
          by_cases e1 : z.f0.f1 = x
          · have n1 : (z.f0.f1 == x) = true := by simpa using e1
            by_cases e5 : z.f3 = y
            · have n5 : (z.f3 == y) = true := by simpa using e5
              go_wp2_with fail
              refine bodyPost_ret (v := .tuple #[.int .i64 d, .int .i64 k, .bool true]) ?_ rfl ⟨.inr ⟨d, k, by rw [HLQ.out]; exact hlt, HWQ.out, rfl, ?_⟩, ?_⟩
              · exact results_list (rs := [.tmp 6, .tmp 7, .tmp 8]) rfl (by simp) (Vals.tmp (Vals.tmp (Vals.tmp Vals.nil)))
              · have hq : (row wd sl d)[k]'(by rw [HLQ.out]; exact hlt) = l[k] := by simp only [HLQ.out]
                rw [hq, HZ.out]
                exact ⟨e1, e5⟩
              · exact below_step HB1.out (HB2.out.alloc HB2.out.size _)
            · have n5 : (z.f3 == y) = false := by simpa using e5
              have HS := hstep (fun q => e5 q.2)
              go_wp2_with fail
              go_roundw
              case rel => exact ⟨k + 1, by omega, by go_num, HS, hide (HB2.out.alloc HB2.out.size _)⟩
              case measure => simp [intOf]; omega
          · have n1 : (z.f0.f1 == x) = false := by simpa using e1
            have HS := hstep (fun q => e1 q.1)
            go_wp2_with fail
            go_roundw
            case rel => exact ⟨k + 1, by omega, by go_num, HS, hide (HB2.out.alloc HB2.out.size _)⟩
            case measure => simp [intOf]; omega
        · have b1 : ¬ (k : Int) < (l.length : Int) := by omega
          have hkl : k = l.length := by omega
          go_wp2_with fail
          have hrg2 := HRG.out.kept (below_grown HB2.out) (by simp) (by simp)
          refine ⟨⟨_, cnt1, hrg2, hide (fun d2 hd2 m hm => ?_), hide (below_step HB1.out HB2.out)⟩, ?_⟩
          · rcases Bool.eq_false_or_eq_true (left (.int .i64 d2)) with e | e
            · rw [e, same_day, Bool.true_and] at hd2
              obtain rfl : d2 = d := by simpa using hd2
              rw [HLQ.out] at hm
              exact HT.out m (by rw [hkl, List.take_length]; exact hm)
            · exact HL.out d2 e m hm
          · rw [hrg2.left_eq, HG.out.left_eq]
            exact HLT.out
set_option maxHeartbeats 4000000 in
set_option maxRecDepth 100000 in
theorem first_day_call {w : World} {P : Nat → Prop} {g b : Nat} {wd : Int} {z : M} {s : List M} (h : CAt w P g b wd (z :: s)) :
    Calls Try.prog 28 #[.pointer (some ⟨g, 0, none⟩)] w fun e w' => e = .returned (.int .i64 (z.f0.f0 / wd)) ∧ Below w.heap.size w w' := by
  have H := hide h
  obtain ⟨D, hown, hrep⟩ := h.days
  have HR := hide hrep
  have c1 := h.c1
  clear h hrep
  go_enter Try.func28, Try.ntmps28
  go_wp2_with (first
    | (at_range; refine wpList_range_own _ rfl _ tMap rfl tD tL lawD uMap _ b (Maps.size D) D rfl hown ?_; intro w0 hrg0 hg0 hs0)
    | go_in)
  go_frame
  have HB0 := hide (grown_none_below (Below.refl w.heap.size w) hg0)
  clear hg0 hs0
  go_loopw [3, 4, 5] (fun v3 v4 v5 wr => ∃ (left : Lit → Bool) (cnt : Nat) (t : Int) (q : Bool), v3 = .int .i64 t ∧ v4 = .bool q ∧ wr.ranges Try.prog tD RS b w.heap.size (Maps.size D) D left cnt ∧ Hid (q = false → ∀ d, row wd (z :: s) d ≠ [] → left (.int .i64 d) = true) ∧ Hid (q = true → row wd (z :: s) t ≠ [] ∧ ∀ d, row wd (z :: s) d ≠ [] → left (.int .i64 d) = false → t ≤ d) ∧ Hid (Below w.heap.size w wr)) (fun _ _ _ wr => wr.rangeLeft b w.heap.size)
  case atStart => exact ⟨_, _, 0, false, rfl, rfl, hrg0, hide (fun _ d hd => ((HR.out d).2 hd).1), hide (fun h => by cases h), HB0⟩
  case round =>
    obtain ⟨left, cnt, t, q, rfl, rfl, hrg, HN, HL, HB⟩ := hrel
    clear HB0 hrg0 hown
    have HG := hide hrg
    go_wp2_with (first
      | (at_next; refine wpList_next_ranges _ rfl _ rfl tD lawD RS (fun d : Int => Value.int .i64 d) (fun p : Option Addr × Nat × Nat => Value.slice p.1 p.2.1 p.2.2) (fun key kl hkey => by obtain ⟨q, rfl, _⟩ := Maps.keyOf_int_inv Try.underlying2 hkey; exact ⟨q, rfl⟩) RS_inv b w.heap.size (Maps.size D) D left cnt rfl hrg ?_ ?_)
      | go_in)
    · intro hc0 hl0
      have hz : row wd (z :: s) (z.f0.f0 / wd) ≠ [] := by rw [first_row]; simp
      have hq : q = true := by
        cases q
        · have := HN.out rfl _ hz; rw [hl0] at this; cases this
        · rfl
      have e : t = z.f0.f0 / wd := by
        obtain ⟨h1, h2⟩ := HL.out hq
        have a1 := h2 _ hz (hl0 _)
        have a2 := first_day (by have := H.out.wd1; omega) H.out.srt h1
        omega
      go_wp2_with fail
      go_ret
      exact ⟨by rw [← e]; rfl, HB.out⟩
    · intro d A n c kl y1 y2 w1 cnt1 hkey hlk hv hat hrg1 hlt hg1 hs1 hen
      obtain ⟨q', eq1, rfl, hwq⟩ := Maps.keyOf_int_inv Try.underlying2 hkey
      obtain rfl : d = q' := by injection eq1
      have hne : row wd (z :: s) d ≠ [] := by
        intro e
        have h1 := (HR.out d).1 e
        have h2 := Maps.has_true_of_atKey hat
        rw [h1] at h2
        cases h2
      have HNE := hide hne
      have HB1 := hide (grown_below HB.out hg1 (Nat.le_refl _))
      have HLT := hide hlt
      have HRG := hide hrg1
      have hst : ∀ d2 : Int, (left (.int .i64 d2) && !(Lit.int .i64 d2).sameKey (.int .i64 d)) = false → left (.int .i64 d2) = false ∨ d2 = d := by
        intro d2 hd2
        rcases Bool.eq_false_or_eq_true (left (.int .i64 d2)) with e | e
        · rw [e, same_day, Bool.true_and] at hd2
          exact .inr (by simpa using hd2)
        · exact .inl e
      have HST := hide hst
      clear hkey eq1 hwq hat hne hv hlt hg1 hs1 hrg1 hlk HB hrg hst
      cases q
      · go_wp2_with fail
        refine ⟨⟨_, cnt1, d, true, rfl, rfl, HRG.out, hide (fun h => by cases h), hide (fun _ => ⟨HNE.out, fun d2 h1 h2 => ?_⟩), HB1⟩, ?_⟩
        · rcases HST.out d2 h2 with e | e
          · have := HN.out rfl d2 h1; rw [e] at this; cases this
          · omega
        · rw [HRG.out.left_eq, HG.out.left_eq]; exact HLT.out
      · by_cases hdt : d < t
        · have n1 : decide (d < t) = true := decide_eq_true hdt
          go_wp2_with fail
          refine ⟨⟨_, cnt1, d, true, rfl, rfl, HRG.out, hide (fun h => by cases h), hide (fun _ => ⟨HNE.out, fun d2 h1 h2 => ?_⟩), HB1⟩, ?_⟩
          · rcases HST.out d2 h2 with e | e
            · have := (HL.out rfl).2 d2 h1 e; omega
            · omega
          · rw [HRG.out.left_eq, HG.out.left_eq]; exact HLT.out
        · have n1 : decide (d < t) = false := decide_eq_false hdt
          go_wp2_with fail
          refine ⟨⟨_, cnt1, t, true, rfl, rfl, HRG.out, hide (fun h => by cases h), hide (fun _ => ⟨(HL.out rfl).1, fun d2 h1 h2 => ?_⟩), HB1⟩, ?_⟩
          · rcases HST.out d2 h2 with e | e
            · exact (HL.out rfl).2 d2 h1 e
            · omega
          · rw [HRG.out.left_eq, HG.out.left_eq]; exact HLT.out
end Go.Proofs.Ytmgjnabenemghaa.CQ
