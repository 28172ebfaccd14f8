/- A cheap check that the lexical order of a region's operations serves every order. No law is proved here. -/
import Derived.BigQuiet
namespace Go.Proofs.Ytkhdghlgkljdgaa.Lex
open Go
def lexL (ops : Array Oper) : List Oper → Nat → Bool
  | [], _ => true
  | o :: l, k => o.after.all (fun e => !Region.binds .any e || Nat.blt e.on k) && l.all (fun oj => oj.after.any (fun e => Region.binds .any e && e.on == k) || o.apart ops oj) && lexL ops l (k + 1)
theorem lexFrom_of (ops : Array Oper) : ∀ (l : List Oper) (k : Nat) (listed : Array Bool), k + l.length = ops.size → (∀ j, l[j]? = ops[k + j]?) → (∀ j, j < k → ∀ d, listed.getD j d = true) → (∀ j, k ≤ j → j < ops.size → ∀ d, listed.getD j d = false) → listed.size = ops.size → lexL ops l k = true → Region.lexFrom .any ops l.length k listed = true
  | [], k, listed, hk, hl, h1, h2, hs, h => by
    simp only [List.length_nil, Nat.add_zero] at hk
    simp only [List.length_nil, Region.lexFrom, List.isEmpty_iff]
    unfold Region.ready
    rw [List.filter_eq_nil_iff]
    intro i hi
    have := h1 i (by rw [hk]; exact List.mem_range.1 hi) true
    rw [this]
    simp
  | o :: l, k, listed, hk, hl, h1, h2, hs, h => by
    simp only [List.length_cons] at hk
    have h0 : ops[k]? = some o := by have := hl 0; simpa using this.symm
    have hlt : k < ops.size := by omega
    simp only [lexL, Bool.and_eq_true] at h
    obtain ⟨⟨ha, hb⟩, hc⟩ := h
    simp only [List.length_cons, Region.lexFrom, Bool.and_eq_true]
    refine ⟨⟨?_, ?_⟩, ?_⟩
    · rw [List.contains_iff_mem]
      unfold Region.ready
      rw [List.mem_filter]
      refine ⟨List.mem_range.2 hlt, ?_⟩
      rw [h2 k (Nat.le_refl _) hlt true, h0]
      simp only [Bool.not_false, Option.map_some, Option.getD_some, Bool.true_and]
      rw [Array.all_eq_true_iff_forall_mem] at ha ⊢
      intro e he
      have := ha e he
      rw [Bool.or_eq_true] at this ⊢
      rcases this with q | q
      · exact .inl q
      · exact .inr (h1 _ (by simpa [Nat.blt_eq] using q) false)
    · unfold Region.free
      rw [h0]
      simp only [List.all_eq_true, List.mem_range]
      intro j hj
      rcases Nat.lt_trichotomy j k with q | q | q
      · rw [h1 j q true]; simp
      · simp [q]
      · have hj2 : ops[j]? = l[j - k - 1]? := by
          have := hl (j - k)
          rw [show j - k = (j - k - 1) + 1 from by omega, List.getElem?_cons_succ] at this
          rw [this]
          congr 1
          omega
        have hlj : j - k - 1 < l.length := by omega
        rw [hj2, List.getElem?_eq_getElem hlj]
        have := (List.all_eq_true.1 hb) _ (List.getElem_mem hlj)
        rw [Bool.or_eq_true]
        exact .inr this
    · refine lexFrom_of ops l (k + 1) _ (by omega) (fun j => ?_) (fun j hj d => ?_) (fun j hj hj2 d => ?_) (by simpa using hs) hc
      · have := hl (j + 1)
        rw [List.getElem?_cons_succ] at this
        rw [this]
        congr 1
        omega
      · by_cases e : j = k
        · subst e
          unfold Array.getD
          simp [hs, hlt]
        · rw [getD_set_ne d (fun q => e q.symm)]
          exact h1 j (by omega) d
      · rw [getD_set_ne d (by omega)]
        exact h2 j (by omega) hj2 d
theorem lexB_of (l : List Oper) (hn : Region.noSelect l.toArray = true) (h : lexL l.toArray l 0 = true) : Region.lexB .any l.toArray = true := by
  simp only [Region.lexB, Bool.and_eq_true]
  refine ⟨hn, ?_⟩
  have := lexFrom_of l.toArray l 0 (Array.replicate l.toArray.size false) (by simp) (fun j => by simp) (fun j hj => by omega) (fun j _ hj d => by unfold Array.getD; simp at hj; simp [hj]) (by simp) h
  simpa using this
end Go.Proofs.Ytkhdghlgkljdgaa.Lex
