/- The walk of TraceRises. -/
import Derived.Test.YtcfhkapalcfpiaaMerge
import Derived.Test.YtcfhkapalcfpiaaTraceC
import Derived.Test.YtcfhkapalcfpiaaKindsTraceRises
import Derived.Deep.RegionWith
set_option linter.unusedVariables false
set_option linter.unusedSimpArgs false
namespace Go.Proofs.Ytcfhkapalcfpiaa.traceRises
open Go.Proofs Go.RowKit Go.Sort Go.Proofs.Ytcfhkapalcfpiaa.SortPure Go.Proofs.Ytcfhkapalcfpiaa.Heap Go.Proofs.Ytcfhkapalcfpiaa.Types Go.Proofs.Ytcfhkapalcfpiaa.Row Go.Proofs.Ytcfhkapalcfpiaa.Ord Go.Proofs.Ytcfhkapalcfpiaa.Sorted Go.Proofs.Ytcfhkapalcfpiaa.Merge Go.Proofs.YtcfhkapalcfpiaaW.PrintWords Go.Proofs.YtcfhkapalcfpiaaW.PrintLast Go.Proofs.YtcfhkapalcfpiaaW.PrintMore
def tot (l : List (List M)) (k : Nat) : Nat := (l.take k).flatten.length
theorem tot_step {l : List (List M)} {k : Nat} (hk : k < l.length) : tot l (k + 1) = tot l k + (l[k]).length := by unfold tot; rw [flat_take hk, List.length_append]
theorem tot_le (l : List (List M)) (k : Nat) : tot l k ≤ l.flatten.length := flat_le l k
theorem tot_all (l : List (List M)) : tot l l.length = l.flatten.length := by unfold tot; rw [List.take_length]
theorem tot_zero (l : List (List M)) : tot l 0 = 0 := by simp [tot]
set_option maxHeartbeats 8000000 in
set_option maxRecDepth 100000 in
theorem walk (A0 : Option Addr) (c0 : Nat) (l0 : List (List S29)) (hc0 : l0.length ≤ c0) (w0 : ∀ y ∈ l0, (∀ yy ∈ y, I29 yy)) (y0 : l0.length * 24 ≤ 140737488351232) (hup : l0.flatten.length ≤ 1048576) (w : World) (hr0 : Kd.C (Kd.slice 29 k29) w A0 l0.length l0) :
    Calls Try.prog 9 #[.slice A0 l0.length c0] w fun e w' => e = .returned (.bool true) ∧ Below w.heap.size w w' := by
  have HR := hide hr0
  have HUp := hide hup
  have HM := hide (merge_call A0 c0 l0 hc0 (by omega) y0 w hr0)
  have hl2 : (l0.length : Int) ≤ 5864062014634 := by omega
  clear hr0 w0 y0 hup
  go_enter Try.func9, Try.ntmps9
  go_wp2_with fail
  refine HM.out.mono ?_
  rintro e w1 ⟨v, rfl, ho, hb⟩
  have hlen : (isort befD l0.flatten).length = l0.flatten.length := length_isort _
  have HS : Hid (Srt befD (isort befD l0.flatten)) := hide (srt_isort weakM _)
  obtain ⟨s, hs⟩ : ∃ s, isort befD l0.flatten = s := ⟨_, rfl⟩
  rw [hs] at ho HS hlen
  obtain ⟨A1, c1, rfl, hc1, hC1, _⟩ := ho.reads flatM rfl k29_mk
  have HC1 := hide hC1
  have HB1 := hide hb
  have HLen := hide hlen
  clear ho hC1 hb HM hs hlen
  go_wp2_with fail
  go_loopw [4, 5] (fun nv iv wr => ∃ k : Nat, k ≤ l0.length ∧ iv = .int .i64 k ∧ nv = .int .i64 ((tot l0 k : Nat) : Int) ∧ Hid (Below w.heap.size w wr) ∧ Hid (Below w1.heap.size w1 wr)) (fun _ iv _ => l0.length - (intOf iv).toNat)
  case atStart => exact ⟨0, Nat.zero_le _, rfl, by rw [tot_zero]; rfl, HB1, hide (Below.refl _ _)⟩
  case round =>
    obtain ⟨k, hk, rfl, rfl, HBw, HBx⟩ := hrel
    by_cases hlt : k < l0.length
    · have b1 : (k : Int) < (l0.length : Int) := by omega
      obtain ⟨ad, B, c, rfl, q0, _, _⟩ := at_row (Kd.C_below HR.out HBw.out) hlt
      have hlen2 := tot_step hlt
      have hle2 := tot_le l0 (k + 1)
      obtain ⟨z, hz⟩ : ∃ z, (l0[k]).length = z := ⟨_, rfl⟩
      rw [hz] at q0 hlen2
      have hb2 : ((tot l0 k : Nat) : Int) + (z : Int) ≤ 1048576 := by have := HUp.out; omega
      have HL2 : Hid (((tot l0 (k + 1) : Nat) : Int) = ((tot l0 k : Nat) : Int) + (z : Int)) := hide (by omega)
      clear hlen2 hle2 hz
      obtain ⟨t, ht⟩ : ∃ t, tot l0 k = t := ⟨_, rfl⟩
      rw [ht] at HL2 hb2 ⊢
      clear ht
      go_wp2_with fail
      go_roundw
      case rel => exact ⟨k + 1, by omega, by go_num, by first | (rw [HL2.out]; done) | (rw [HL2.out]; go_num), HBw, HBx⟩
      case measure => simp [intOf]; omega
    · have b1 : ¬ (k : Int) < (l0.length : Int) := by omega
      obtain rfl : k = l0.length := by omega
      have e1 : ((tot l0 l0.length : Nat) : Int) = (s.length : Int) := by rw [tot_all, HLen.out]
      rw [e1]
      clear e1
      have hs20 : (s.length : Int) ≤ 1048576 := by have := HLen.out; have := HUp.out; omega
      go_wp2_with fail
      go_loopw [6] (fun iv wr => ∃ i : Nat, 1 ≤ i ∧ (i ≤ s.length ∨ i = 1) ∧ iv = .int .i64 i ∧ Hid (Below w.heap.size w wr) ∧ Hid (Below w1.heap.size w1 wr)) (fun iv _ => s.length + 1 - (intOf iv).toNat)
      case atStart => exact ⟨1, Nat.le_refl _, .inr rfl, rfl, HBw, HBx⟩
      case round =>
        obtain ⟨i, hi1, hi2, rfl, HBw, HB2⟩ := hrel
        by_cases hlt2 : i < s.length
        · have b2 : (i : Int) < (s.length : Int) := by omega
          obtain ⟨j, hj⟩ : ∃ j, i = j + 1 := ⟨i - 1, by omega⟩
          have hjs : j < s.length := by omega
          have HOrd : Hid (ordD s[i] s[j] < 0 → False) := hide (fun h => by
            have h2 := List.pairwise_iff_getElem.1 HS.out j i hjs hlt2 (by omega)
            have h3 : befD s[i] s[j] = true := decide_eq_true h
            rw [h2] at h3
            cases h3)
          obtain ⟨ad, hA, q0, q1, q2, q3, q4⟩ := at_S29 (Kd.C_below HC1.out HB2.out) hlt2
          obtain ⟨ad', hA', p0, p1, p2, p3, p4⟩ := at_S29 (Kd.C_below HC1.out HB2.out) hjs
          cases hA
          cases hA'
          obtain ⟨x, hx⟩ : ∃ x, s[i] = x := ⟨_, rfl⟩
          obtain ⟨y, hy⟩ : ∃ y, s[j] = y := ⟨_, rfl⟩
          rw [hx] at q0 q1 q2 q3 q4 HOrd
          rw [hy] at p0 p1 p2 p3 p4 HOrd
          have hcall := fun W => ck_call x.f0.f0 x.f0.f1 x.f0.f2 y.f0.f0 y.f0.f1 y.f0.f2 W
          obtain ⟨r, hr⟩ : ∃ r, ck x.f0.f0 x.f0.f1 x.f0.f2 y.f0.f0 y.f0.f1 y.f0.f2 = r := ⟨_, rfl⟩
          rw [hr] at hcall
          have hr0 : ¬ r < 0 := fun h => HOrd.out (by unfold ordD; rw [hr]; exact h)
          have HC := hide hcall
          have wr1 : wrap64 ((i : Int) - 1) = (j : Int) := by unfold wrap64; omega
          have wr2 : IntKind.i64.wrap ((i : Int) - 1) = (j : Int) := by rw [i64_w, wr1]
          have b3 : (j : Int) < (s.length : Int) := by omega
          have hk := Try.underlying27
          have hu := Try.underlying29
          have HJ := hide hj
          clear hr hcall hi1 hi2 hj HOrd
          go_wp2_with fail
          rename_i K1 h1
          have HKc := hide h1
          clear h1
          have dq0 : wr.drew.cell? _ = _ := q0
          have dq1 : wr.drew.cell? _ = _ := q1
          have dq2 : wr.drew.cell? _ = _ := q2
          have dp0 : wr.drew.cell? _ = _ := p0
          have dp1 : wr.drew.cell? _ = _ := p1
          have dp2 : wr.drew.cell? _ = _ := p2
          go_region_with (refine (HC.out _).mono ?_; rintro e w3 ⟨rfl, hg⟩)
          all_goals (
            have HB3 := hide (below_step HBw.out (below_undrew hg.below))
            have HX3 := hide (below_step HB2.out (below_undrew hg.below))
            clear hg
            refine HKc.out _ _ ?_
            clear HKc K1 HBw HB2
            go_wp2_with fail
            go_roundw
            case rel => exact ⟨i + 1, by omega, .inl (by omega), by go_num, HB3, HX3⟩
            case measure => simp [intOf]; omega)
        · have b2 : ¬ (i : Int) < (s.length : Int) := by omega
          go_wp2_with (go_at_call 13; refine (Trace.awake_call _).mono ?_; rintro e w5 ⟨rfl, hb5⟩)
          go_ret
          exact ⟨rfl, below_step HBw.out hb5⟩
end Go.Proofs.Ytcfhkapalcfpiaa.traceRises
