/- The heap in plain lists: up and down keep what is in it, and put it in order. No law is proved here. -/
import Derived.Test.YtipgigbnfdgfmaaHU
namespace Go.Proofs.Ytipgigbnfdgfmaa.HU
open Go.Proofs Go.Sort Go.Proofs.Ytipgigbnfdgfmaa.SortPure
set_option linter.unusedVariables false
set_option linter.unusedSimpArgs false
variable {α : Type} [Inhabited α]
theorem swp_perm (d : Array α) {i j : Nat} (hi : i < d.size) (hj : j < d.size) : (swp d i j).toList.Perm d.toList := by
  have h := (swp_permIn d 0 d.size i j (Nat.zero_le _) hi (Nat.zero_le _) hj (Nat.le_refl _)).2.2
  have e1 : (swp d i j).extract 0 d.size = swp d i j := by
    rw [← size_swp d i j]
    exact Array.extract_size
  have e2 : d.extract 0 d.size = d := Array.extract_size
  rwa [e1, e2] at h
/-- In a heap no one is ahead of the one above it. -/
def Hp (lt : α → α → Bool) (d : Array α) : Prop := ∀ k, 0 < k → k < d.size → lt d[k]! d[(k - 1) / 2]! = false
theorem up_heap {lt : α → α → Bool} (hW : Weak lt) (i : Nat) : ∀ (d : Array α), i < d.size → (∀ k, 0 < k → k < d.size → k ≠ i → lt d[k]! d[(k - 1) / 2]! = false) → (∀ k, 0 < k → k < d.size → (k - 1) / 2 = i → 0 < i → lt d[k]! d[(i - 1) / 2]! = false) → Hp lt (upA lt d i) := by
  induction i using Nat.strongRecOn with
  | ind i ih =>
    intro d hi h1 h2
    rw [upA]
    by_cases h0 : 0 < i
    · rw [dif_pos h0]
      cases hc : lt d[i]! d[(i - 1) / 2]!
      · rw [if_neg (by simp)]
        intro k hk hks
        by_cases e : k = i
        · rw [e]; exact hc
        · exact h1 k hk hks e
      · rw [if_pos rfl]
        obtain ⟨p, hp⟩ : ∃ p, (i - 1) / 2 = p := ⟨_, rfl⟩
        rw [hp] at hc h2 ⊢
        have hpi : p < i := by omega
        have hps : p < d.size := by omega
        have ei : (swp d i p)[i]! = d[p]! := swp_left d i p hi (by omega)
        have ep : (swp d i p)[p]! = d[i]! := swp_right d i p hps
        have eo : ∀ k, k ≠ i → k ≠ p → (swp d i p)[k]! = d[k]! := fun k a b => swp_other d i p k a b
        have hpi2 := hW.asym _ _ hc
        refine ih p hpi _ (by rw [size_swp]; exact hps) (fun k hk hks hne => ?_) (fun k hk hks hkp hp0 => ?_)
        · rw [size_swp] at hks
          by_cases e : k = i
          · rw [e, hp, ei, ep]; exact hpi2
          · rw [eo k e hne]
            by_cases e1 : (k - 1) / 2 = i
            · rw [e1, ei]; exact h2 k hk hks e1 h0
            · by_cases e2 : (k - 1) / 2 = p
              · rw [e2, ep]
                have q1 := h1 k hk hks e
                rw [e2] at q1
                exact hW.tr _ _ _ q1 hpi2
              · rw [eo _ e1 e2]
                exact h1 k hk hks e
        · rw [size_swp] at hks
          rw [eo ((p - 1) / 2) (by omega) (by omega)]
          have q := h1 p hp0 hps (by omega)
          by_cases e : k = i
          · rw [e, ei]; exact q
          · rw [eo k e (by omega)]
            have q1 := h1 k hk hks e
            rw [hkp] at q1
            exact hW.tr _ _ _ q1 q
    · rw [dif_neg h0]
      intro k hk hks
      exact h1 k hk hks (by omega)
theorem up_perm (lt : α → α → Bool) (i : Nat) : ∀ (d : Array α), i < d.size → (upA lt d i).toList.Perm d.toList := by
  induction i using Nat.strongRecOn with
  | ind i ih =>
    intro d hi
    rw [upA]
    split
    · split
      · exact (ih _ (by omega) _ (by rw [size_swp]; omega)).trans (swp_perm d hi (by omega))
      · exact List.Perm.refl _
    · exact List.Perm.refl _
theorem down_perm (lt : α → α → Bool) (n : Nat) : ∀ (i : Nat) (d : Array α), d.size - i = n → i < d.size → (downA lt d i).toList.Perm d.toList := by
  induction n using Nat.strongRecOn with
  | ind n ih =>
    intro i d hn hi
    rw [downA]
    split
    · rename_i h
      obtain ⟨c, hc⟩ : ∃ c, (if 2 * i + 2 < d.size ∧ lt d[2 * i + 2]! d[2 * i + 1]! = true then 2 * i + 2 else 2 * i + 1) = c := ⟨_, rfl⟩
      have hc2 : i < c ∧ c < d.size := by rw [← hc]; split <;> omega
      rw [hc]
      split
      · exact (ih (d.size - c) (by omega) c (swp d i c) (by rw [size_swp]) (by rw [size_swp]; exact hc2.2)).trans (swp_perm d hi hc2.2)
      · exact List.Perm.refl _
    · exact List.Perm.refl _
/-- Down from j, where the place i above it may be wrong against what is above it. -/
theorem down_heap {lt : α → α → Bool} (hW : Weak lt) (i n : Nat) : ∀ (j : Nat) (d : Array α), d.size - j = n → j < d.size → i ≤ j →
    (∀ k, 0 < k → k < d.size → k ≠ i → (k - 1) / 2 ≠ j → lt d[k]! d[(k - 1) / 2]! = false) →
    (j ≠ i → ∀ k, 0 < k → k < d.size → (k - 1) / 2 = j → lt d[k]! d[(j - 1) / 2]! = false) →
    (0 < i → ∀ k, 0 < k → k < d.size → (k - 1) / 2 = i → lt d[k]! d[(i - 1) / 2]! = false) →
    (j ≠ i → 0 < i → lt d[i]! d[(i - 1) / 2]! = false) →
    (∀ k, 0 < k → k < (downA lt d j).size → k ≠ i → lt (downA lt d j)[k]! (downA lt d j)[(k - 1) / 2]! = false) ∧
    (0 < i → ∀ k, 0 < k → k < (downA lt d j).size → (k - 1) / 2 = i → lt (downA lt d j)[k]! (downA lt d j)[(i - 1) / 2]! = false) := by
  induction n using Nat.strongRecOn with
  | ind n ih =>
    intro j d hn hj hij h1 h2 h3 h4
    rw [downA]
    by_cases h0 : 2 * j + 1 < d.size
    · rw [dif_pos h0]
      obtain ⟨c, hc⟩ : ∃ c, (if 2 * j + 2 < d.size ∧ lt d[2 * j + 2]! d[2 * j + 1]! = true then 2 * j + 2 else 2 * j + 1) = c := ⟨_, rfl⟩
      have hc2 : j < c ∧ c < d.size ∧ (c - 1) / 2 = j := by rw [← hc]; split <;> omega
      obtain ⟨hjc, hcs, hcp⟩ := hc2
      have hmin : ∀ k, 0 < k → k < d.size → (k - 1) / 2 = j → lt d[k]! d[c]! = false := by
        intro k hk hks hkj
        by_cases hq : 2 * j + 2 < d.size ∧ lt d[2 * j + 2]! d[2 * j + 1]! = true
        · rw [if_pos hq] at hc
          rw [← hc]
          have : k = 2 * j + 1 ∨ k = 2 * j + 2 := by omega
          rcases this with e | e
          · rw [e]; exact hW.asym _ _ hq.2
          · rw [e]; cases hb : lt d[2 * j + 2]! d[2 * j + 2]!
            · rfl
            · have := hW.asym _ _ hb; rw [hb] at this; cases this
        · rw [if_neg hq] at hc
          rw [← hc]
          have : k = 2 * j + 1 ∨ k = 2 * j + 2 := by omega
          rcases this with e | e
          · rw [e]; cases hb : lt d[2 * j + 1]! d[2 * j + 1]!
            · rfl
            · have := hW.asym _ _ hb; rw [hb] at this; cases this
          · rw [e]
            cases hb : lt d[2 * j + 2]! d[2 * j + 1]!
            · rfl
            · exact absurd ⟨by omega, hb⟩ hq
      rw [hc]
      cases hl : lt d[c]! d[j]!
      · rw [if_neg (by simp)]
        refine ⟨fun k hk hks hki => ?_, h3⟩
        by_cases e : (k - 1) / 2 = j
        · rw [e]
          exact hW.tr _ _ _ (hmin k hk hks e) hl
        · exact h1 k hk hks hki e
      · rw [if_pos rfl]
        have ej : (swp d j c)[j]! = d[c]! := swp_left d j c hj (by omega)
        have ec : (swp d j c)[c]! = d[j]! := swp_right d j c hcs
        have eo : ∀ k, k ≠ j → k ≠ c → (swp d j c)[k]! = d[k]! := fun k a b => swp_other d j c k a b
        have hjc2 := hW.asym _ _ hl
        refine ih (d.size - c) (by omega) c (swp d j c) (by rw [size_swp]) (by rw [size_swp]; exact hcs) (by omega) (fun k hk hks hki hkc => ?_) (fun _ k hk hks hkc => ?_) (fun hi0 k hk hks hki => ?_) (fun _ hi0 => ?_)
        · rw [size_swp] at hks
          by_cases e1 : (k - 1) / 2 = j
          · rw [e1, ej]
            by_cases e2 : k = c
            · rw [e2, ec]; exact hjc2
            · rw [eo k (by omega) e2]; exact hmin k hk hks e1
          · by_cases e2 : k = j
            · subst e2
              rw [ej, eo ((k - 1) / 2) (by omega) (by omega)]
              exact h2 hki c (by omega) hcs hcp
            · rw [eo k e2 (fun q => e1 (by rw [q]; exact hcp)), eo _ e1 hkc]
              exact h1 k hk hks hki e1
        · rw [size_swp] at hks
          rw [hcp, ej, eo k (by omega) (by omega)]
          have := h1 k hk hks (by omega) (by omega)
          rwa [hkc] at this
        · rw [size_swp] at hks
          rw [eo ((i - 1) / 2) (by omega) (by omega)]
          by_cases e : j = i
          · subst e
            by_cases e2 : k = c
            · rw [e2, ec]
              exact hW.tr _ _ _ hjc2 (h3 hi0 c (by omega) hcs hcp)
            · rw [eo k (by omega) e2]
              exact h3 hi0 k hk hks hki
          · by_cases e2 : k = j
            · subst e2
              rw [ej]
              have q1 := h2 e c (by omega) hcs hcp
              rw [hki] at q1
              exact hW.tr _ _ _ q1 (h4 e hi0)
            · rw [eo k e2 (by intro q; rw [q, hcp] at hki; exact e hki)]
              exact h3 hi0 k hk hks hki
        · rw [eo ((i - 1) / 2) (by omega) (by omega)]
          by_cases e : j = i
          · subst e
            rw [ej]
            exact h3 hi0 c (by omega) hcs hcp
          · rw [eo i (fun q => e q.symm) (by omega)]
            exact h4 e hi0
    · rw [dif_neg h0]
      exact ⟨fun k hk hks hki => h1 k hk hks hki (by omega), h3⟩
/-- The first of a heap is ahead of none. -/
theorem heap_first {lt : α → α → Bool} (hW : Weak lt) {d : Array α} (h : Hp lt d) (k : Nat) : k < d.size → lt d[k]! d[0]! = false := by
  induction k using Nat.strongRecOn with
  | ind k ih =>
    intro hk
    rcases Nat.eq_zero_or_pos k with e | e
    · rw [e]
      cases hb : lt d[0]! d[0]!
      · rfl
      · have := hW.asym _ _ hb; rw [hb] at this; cases this
    · exact hW.tr _ _ _ (h k e hk) (ih ((k - 1) / 2) (by omega) (by omega))
end Go.Proofs.Ytipgigbnfdgfmaa.HU
