/- The contract of trace.Rising, and the plain law of TraceWhole. No law is proved here. -/
import Derived.Test.YtcfhkapalcfpiaaMerge
import Derived.Deep.RegionWith
set_option linter.unusedVariables false
set_option linter.unusedSimpArgs false
namespace Go.Proofs.Ytcfhkapalcfpiaa.Whole
open Go.Proofs Go.RowKit Go.Sort Go.Proofs.Ytcfhkapalcfpiaa.SortPure Go.Proofs.Ytcfhkapalcfpiaa.Heap Go.Proofs.Ytcfhkapalcfpiaa.Types Go.Proofs.Ytcfhkapalcfpiaa.Row Go.Proofs.Ytcfhkapalcfpiaa.Ord Go.Proofs.Ytcfhkapalcfpiaa.Sorted Go.Proofs.Ytcfhkapalcfpiaa.Merge Go.Proofs.YtcfhkapalcfpiaaW.PrintWords Go.Proofs.YtcfhkapalcfpiaaW.PrintLast Go.Proofs.YtcfhkapalcfpiaaW.PrintMore
theorem uniq {bef : M → M → Bool} : ∀ (o s : List M), o.Pairwise (fun a b => bef a b = true) → s.Perm o → s.Pairwise (fun a b => bef b a = false) → s = o := by
  intro o
  induction o with
  | nil => intro s _ hp _; exact List.Perm.eq_nil hp
  | cons a o ih =>
    intro s ho hp hs
    rw [List.pairwise_cons] at ho
    cases s with
    | nil => exact absurd hp.length_eq (by simp)
    | cons b s =>
      rw [List.pairwise_cons] at hs
      have hb : b ∈ a :: o := hp.mem_iff.1 (List.mem_cons_self)
      have ha : a ∈ b :: s := hp.mem_iff.2 (List.mem_cons_self)
      have e : b = a := by
        rcases List.mem_cons.1 hb with h | h
        · exact h
        · rcases List.mem_cons.1 ha with g | g
          · exact g.symm
          · have h1 := ho.1 b h
            have h2 := hs.1 a g
            rw [h1] at h2
            cases h2
      subst e
      rw [ih s ho.2 (List.Perm.cons_inv hp) hs.2]
theorem lanes (f : M → Int) (l : List M) (N : Nat) : (((List.range N).map (fun j : Nat => l.filter (fun d => f d == (j : Int)))).flatten).Perm (l.filter (fun d => decide (0 ≤ f d ∧ f d < (N : Int)))) := by
  induction N with
  | zero =>
    have : l.filter (fun d => decide (0 ≤ f d ∧ f d < ((0 : Nat) : Int))) = [] := by
      rw [List.filter_eq_nil_iff]
      intro a _
      first | (simp; done) | (simp; omega)
    rw [this]
    simp
  | succ N ih =>
    rw [List.range_succ, List.map_append, List.flatten_append]
    have h1 := List.filter_append_perm (fun d => decide (f d < (N : Int))) (l.filter (fun d => decide (0 ≤ f d ∧ f d < ((N + 1 : Nat) : Int))))
    refine List.Perm.trans ?_ h1
    refine List.Perm.append ?_ ?_
    · refine ih.trans ?_
      rw [List.filter_filter]
      have : (fun d => decide (f d < (N : Int)) && decide (0 ≤ f d ∧ f d < ((N + 1 : Nat) : Int))) = (fun d => decide (0 ≤ f d ∧ f d < (N : Int))) := by
        funext d
        by_cases a : 0 ≤ f d <;> by_cases b : f d < (N : Int) <;> simp [a, b] <;> omega
      rw [this]
    · rw [List.filter_filter]
      have : (fun d => !decide (f d < (N : Int)) && decide (0 ≤ f d ∧ f d < ((N + 1 : Nat) : Int))) = (fun d => f d == (N : Int)) := by
        funext d
        by_cases a : f d = (N : Int)
        · simp [a]; omega
        · have : (f d == (N : Int)) = false := by simpa using a
          rw [this]
          by_cases b : f d < (N : Int) <;> simp [b] <;> omega
      rw [this]
      simp
def Rise (l : List M) : Prop := ∀ i (h : i + 1 < l.length), ordD l[i] l[i + 1] < 0
theorem befD_trans {a b c : M} (h1 : befD a b = true) (h2 : befD b c = true) : befD a c = true := by
  rw [befD_iff] at h1 h2 ⊢
  omega
theorem rise_pairwise {l : List M} (h : Rise l) : l.Pairwise (fun a b => befD a b = true) := by
  rw [List.pairwise_iff_getElem]
  intro i j hi hj hij
  obtain ⟨d, rfl⟩ : ∃ d, j = i + 1 + d := ⟨j - i - 1, by omega⟩
  clear hij
  induction d with
  | zero => exact decide_eq_true (h i hj)
  | succ d ih => exact befD_trans (ih (by omega)) (decide_eq_true (h (i + 1 + d) hj))
def norm (x : M) : M := { x with f1 := ((x.f1.tmod 8) + 8).tmod 8 }
theorem norm_range (x : M) : 0 ≤ (norm x).f1 ∧ (norm x).f1 < 8 := by
  show 0 ≤ ((x.f1.tmod 8) + 8).tmod 8 ∧ ((x.f1.tmod 8) + 8).tmod 8 < 8
  have h1 : x.f1.tmod 8 < 8 := Int.tmod_lt_of_pos _ (by omega)
  have h2 : -8 < x.f1.tmod 8 := by
    rcases Int.le_total 0 x.f1 with h | h
    · have := Int.tmod_nonneg 8 h
      omega
    · obtain ⟨k, hk⟩ : ∃ k, x.f1 = -k := ⟨-x.f1, by omega⟩
      rw [hk, Int.neg_tmod]
      have := Int.tmod_lt_of_pos k (show (0 : Int) < 8 by omega)
      omega
  have h3 := Int.tmod_nonneg 8 (show 0 ≤ x.f1.tmod 8 + 8 by omega)
  have h4 := Int.tmod_lt_of_pos (x.f1.tmod 8 + 8) (show (0 : Int) < 8 by omega)
  exact ⟨h3, h4⟩
theorem rise_norm {l : List M} (h : Rise l) : Rise (l.map norm) := by
  intro i hi
  rw [List.length_map] at hi
  rw [List.getElem_map, List.getElem_map]
  exact h i hi
def lane (l : List M) (n : Nat) : List M := l.filter (fun d => d.f1 == (n : Int))
theorem whole {l : List M} (h : Rise l) : isort befD ((List.range 8).map (fun n => lane (l.map norm) n)).flatten = l.map norm := by
  refine uniq _ _ (rise_pairwise (rise_norm h)) ((perm_isort _).trans ((lanes (fun d => d.f1) (l.map norm) 8).trans ?_)) (srt_isort weakM _)
  rw [List.filter_eq_self.2]
  intro a ha
  obtain ⟨x, _, rfl⟩ := List.mem_map.1 ha
  have := norm_range x
  exact decide_eq_true ⟨this.1, this.2⟩
theorem lanes_len (l : List M) : ((List.range 8).map (fun n => lane (l.map norm) n)).flatten.length = l.length := by
  have h := (lanes (fun d => d.f1) (l.map norm) 8).length_eq
  rw [List.filter_eq_self.2 (fun a ha => by
    obtain ⟨x, _, rfl⟩ := List.mem_map.1 ha
    have := norm_range x
    exact decide_eq_true ⟨this.1, this.2⟩), List.length_map] at h
  exact h
set_option maxHeartbeats 8000000 in
set_option maxRecDepth 100000 in
theorem rising_call (A : Option Addr) (n c : Nat) (l : List M) (hn : n = l.length) (y : l.length * 40 ≤ 140737488351232) (w : World) (hr : Kd.C k29 w A n l) :
    Calls Try.prog 19 #[.slice A n c] w fun e w' => (∃ v, e = .returned (.bool v) ∧ (v = true ↔ Rise l)) ∧ Below w.heap.size w w' := by
  subst hn
  have HR := hide hr
  have hl : (l.length : Int) ≤ 5864062014634 := by omega
  have hw : wrap64 ((l.length : Int) - 1) = (l.length : Int) - 1 := by unfold wrap64; omega
  clear hr y
  go_enter Try.func19, Try.ntmps19
  go_wp2_with fail
  go_loopw [7] (fun iv wr => ∃ k : Nat, (k ≤ l.length) ∧ iv = .int .i64 k ∧ Hid (∀ i, i < k → ∀ (h : i + 1 < l.length), ordD l[i] l[i + 1] < 0) ∧ Hid (Below w.heap.size w wr)) (fun iv _ => l.length - (intOf iv).toNat)
  case atStart => exact ⟨0, Nat.zero_le _, rfl, hide (fun i h => absurd h (by omega)), hide (Below.refl _ _)⟩
  case round =>
    obtain ⟨k, hk, rfl, HP, HB⟩ := hrel
    by_cases hlt : k + 1 < l.length
    · have b1 : (k : Int) < (l.length : Int) - 1 := by omega
      have hks : k < l.length := by omega
      obtain ⟨ad, hA, q0, q1, q2, q3, q4⟩ := at_S29 (Kd.C_below HR.out HB.out) hks
      obtain ⟨ad', hA', p0, p1, p2, p3, p4⟩ := at_S29 (Kd.C_below HR.out HB.out) hlt
      cases hA
      cases hA'
      have HOk : Hid (∀ r, ordD l[k] l[k + 1] = r → r < 0 → ∀ i, i < k + 1 → ∀ (h : i + 1 < l.length), ordD l[i] l[i + 1] < 0) := hide (fun r hr h i hi hl => by
        rcases Nat.lt_or_ge i k with g | g
        · exact HP.out i g hl
        · obtain rfl : i = k := by omega
          rw [hr]
          exact h)
      have HNo : Hid (∀ r, ordD l[k] l[k + 1] = r → ¬ r < 0 → ¬ Rise l) := hide (fun r hr h hR => h (by rw [← hr]; exact hR k hlt))
      obtain ⟨x, hx⟩ : ∃ x, l[k] = x := ⟨_, rfl⟩
      obtain ⟨y, hy⟩ : ∃ y, l[k + 1] = y := ⟨_, rfl⟩
      rw [hx] at q0 q1 q2 q3 q4 HOk HNo
      rw [hy] at p0 p1 p2 p3 p4 HOk HNo
      have hcall := fun W => ck_call x.f0.f0 x.f0.f1 x.f0.f2 y.f0.f0 y.f0.f1 y.f0.f2 W
      obtain ⟨r, hr⟩ : ∃ r, ck x.f0.f0 x.f0.f1 x.f0.f2 y.f0.f0 y.f0.f1 y.f0.f2 = r := ⟨_, rfl⟩
      rw [hr] at hcall
      have HC := hide hcall
      have HOk2 := hide (HOk.out r hr)
      have HNo2 := hide (HNo.out r hr)
      have wr1 : wrap64 ((k : Int) + 1) = ((k + 1 : Nat) : Int) := by unfold wrap64; omega
      have wr2 : IntKind.i64.wrap ((k : Int) + 1) = ((k + 1 : Nat) : Int) := by rw [i64_w, wr1]
      obtain ⟨k1, hk1⟩ : ∃ k1, k + 1 = k1 := ⟨_, rfl⟩
      rw [hk1] at wr1 wr2 p0 p1 p2 p3 p4
      have b3 : (k : Int) < (l.length : Int) := by omega
      have b4 : (k1 : Int) < (l.length : Int) := by omega
      have hk' := Try.underlying27
      have hu := Try.underlying29
      clear hcall HOk HNo hr
      go_wp2_with fail
      rename_i K1 h1
      have HKc := hide h1
      clear h1
      have dq0 : wr.drew.cell? _ = _ := q0
      have dq1 : wr.drew.cell? _ = _ := q1
      have dq2 : wr.drew.cell? _ = _ := q2
      have dp0 : wr.drew.cell? _ = _ := p0
      have dp1 : wr.drew.cell? _ = _ := p1
      have dp2 : wr.drew.cell? _ = _ := p2
      go_region_with (refine (HC.out _).mono ?_; rintro e w3 ⟨rfl, hg⟩)
      all_goals (
        have HB3 := hide (below_step HB.out (below_undrew hg.below))
        clear hg
        refine HKc.out _ _ ?_
        clear HKc K1 HB
        by_cases h0 : r < 0
        · have hge : ¬ (0 : Int) ≤ r := by omega
          have HP2 := hide (HOk2.out h0)
          clear h0
          go_wp2_with fail
          go_roundw
          case rel => exact ⟨k + 1, by omega, by go_num, HP2, HB3⟩
          case measure => simp [intOf]; omega
        · have hge : (0 : Int) ≤ r := by omega
          have HF := hide (HNo2.out (by omega))
          clear h0
          go_wp2_with fail
          go_ret
          first | exact ⟨⟨false, rfl, ⟨fun h => (by cases h), fun h => absurd h HF.out⟩⟩, HB3.out⟩ | exact ⟨.inl ⟨rfl, HF.out⟩, HB3.out⟩)
    · have b1 : ¬ (k : Int) < (l.length : Int) - 1 := by omega
      go_wp2_with fail
      go_ret
      exact ⟨.inr ⟨rfl, fun i h => HP.out i (by omega) h⟩, HB.out⟩
end Go.Proofs.Ytcfhkapalcfpiaa.Whole
