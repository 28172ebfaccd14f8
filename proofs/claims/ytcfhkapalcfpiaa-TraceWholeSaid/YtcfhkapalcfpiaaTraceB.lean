/- The contracts of the law's 'same', and of trace.Begins. No law is proved here. -/
import Derived.Test.YtcfhkapalcfpiaaTrace
import Derived.Deep.RegionHeld3
namespace Go.Proofs.Ytcfhkapalcfpiaa.Trace
open Go.RowKit Go.Proofs.Ytcfhkapalcfpiaa.Types Go.Proofs.Ytcfhkapalcfpiaa.Heap Go.Proofs.YtcfhkapalcfpiaaW.PrintWords Go.Proofs.YtcfhkapalcfpiaaW.PrintLast Go.Proofs.YtcfhkapalcfpiaaW.PrintMore
set_option linter.unusedVariables false
set_option linter.unusedSimpArgs false
attribute [local go_sem high] PTraceDiffers.eqA29 PTraceDiffers.eqA27

theorem eq_bool (x : S29) : ((!(x.f0.f0 == x.f0.f0) || (!(x.f0.f1 == x.f0.f1) || !(x.f0.f2 == x.f0.f2))) || (!(x.f1 == x.f1) || !(x.f2 == x.f2))) = false := by simp

set_option maxHeartbeats 8000000 in
set_option maxRecDepth 100000 in
theorem same_call (A : Option Addr) (na c : Nat) (a : List S29) (B : Option Addr) (nb d : Nat) (b : List S29) (hna : na = a.length) (hnb : nb = b.length) (ya : a.length * 40 ≤ 140737488351232) (v : Bool) (hv : v = true ↔ a = b) (w : World)
    (ha : Kd.C k29 w A na a) (hb : Kd.C k29 w B nb b) :
    Calls Try.prog 12 #[.slice A na c, .slice B nb d] w fun e w' => e = .returned (.bool v) ∧ Below w.heap.size w w' := by
  subst hna hnb
  have HA := hide ha
  have HBb := hide hb
  have HV := hide hv
  clear ha hb hv
  by_cases hl : a.length = b.length
  · have e1 : ((a.length : Int) != (b.length : Int)) = false := by rw [hl]; simp
    have e2 : (a.length != b.length) = false := by rw [hl]; simp
    go_enter Try.func12, Try.ntmps12
    go_wp2
    go_loopw [5] (fun i wr => ∃ k : Nat, k ≤ a.length ∧ i = .int .i64 k ∧ Hid (a.take k = b.take k) ∧ Hid (Below w.heap.size w wr)) (fun i _ => a.length - (intOf i).toNat)
    case atStart => exact ⟨0, Nat.zero_le _, rfl, hide rfl, hide (Below.refl _ _)⟩
    case round =>
      obtain ⟨k, hk, rfl, HT, HB⟩ := hrel
      by_cases hlt : k < a.length
      · obtain ⟨ad, rfl, q0, q1, q2, q3, q4⟩ := at_S29 (HA.out.imp_ HB.out (fun _ _ h => k29.K_below HB.out h)) hlt
        have b1 : (k : Int) < (a.length : Int) := by omega
        have hlb : k < b.length := by omega
        obtain ⟨bd, rfl, p0, p1, p2, p3, p4⟩ := at_S29 (HBb.out.imp_ HB.out (fun _ _ h => k29.K_below HB.out h)) hlb
        have b2 : (k : Int) < (b.length : Int) := by omega
        by_cases he : a[k] = b[k]
        · have HT1 := hide (take_snoc_eq hlt hlb HT.out he)
          obtain ⟨x, hx⟩ : ∃ x, a[k] = x := ⟨_, rfl⟩
          rw [← he, hx] at p0 p1 p2 p3 p4
          rw [hx] at q0 q1 q2 q3 q4
          clear hx he
          have n1 := eq_bool x
          go_wp2_with fail
          go_quiet (fail)
          go_wp2_with fail
          go_roundw
          case rel => exact ⟨k + 1, by omega, by go_num, HT1, hide (below_drewN HB.out _)⟩
          case measure => simp [intOf]; omega
        · have HE : Hid (v = false) := hide (by
            cases hvv : v
            · rfl
            · exact absurd (by have := HV.out.1 hvv; subst this; rfl) he)
          obtain ⟨x, hx⟩ : ∃ x, a[k] = x := ⟨_, rfl⟩
          obtain ⟨y, hy⟩ : ∃ y, b[k] = y := ⟨_, rfl⟩
          rw [hx] at q0 q1 q2 q3 q4 he
          rw [hy] at p0 p1 p2 p3 p4 he
          obtain ⟨n1, n2⟩ := ne_bool x y he
          clear hx hy he
          go_wp2_with fail
          go_quiet (fail)
          go_wp2_with fail
          go_ret
          exact ⟨by rw [HE.out]; rfl, below_drewN HB.out _⟩
      · have : k = a.length := by omega
        subst this
        have b1 : ¬ (a.length : Int) < (a.length : Int) := by omega
        have HE : Hid (v = true) := hide (HV.out.2 (by have := HT.out; rw [List.take_length, hl, List.take_length] at this; exact this))
        go_wp2
        go_ret
        exact ⟨by rw [HE.out]; rfl, HB.out⟩
  · have HE : Hid (v = false) := hide (by
      cases hvv : v
      · rfl
      · exact absurd (by have := HV.out.1 hvv; subst this; rfl) hl)
    have e1 : ((a.length : Int) != (b.length : Int)) = true := by simp; omega
    have e2 : (a.length != b.length) = true := by simpa using hl
    go_enter Try.func12, Try.ntmps12
    go_wp2
    go_ret
    exact ⟨by rw [HE.out]; rfl, Below.refl _ _⟩

def begins (l a : List S29) : Prop := l.take a.length = a
theorem begins_of {l a : List S29} {r : Int} (h : Dif l a r) : begins l a ↔ (a.length ≤ l.length ∧ (r < 0 ∨ r = a.length)) := by
  unfold begins
  rcases h with ⟨rfl, rfl⟩ | ⟨n, rfl, h1, h2, ht, hne⟩
  · simp
  · constructor
    · intro h
      have hl : a.length ≤ l.length := by
        have : (l.take a.length).length = a.length := by rw [h]
        rw [List.length_take] at this
        omega
      refine ⟨hl, .inr ?_⟩
      rcases Nat.lt_or_ge n a.length with g | g
      · exfalso
        apply hne
        conv => rhs; rw [← h]
        rw [List.getElem?_take_of_lt g]
      · omega
    · rintro ⟨hl, h | h⟩
      · omega
      · have : n = a.length := by omega
        subst this
        rw [ht, List.take_length]

set_option maxHeartbeats 8000000 in
set_option maxRecDepth 100000 in
theorem begins_call (A : Option Addr) (na c : Nat) (a : List S29) (B : Option Addr) (nb d : Nat) (b : List S29) (hna : na = a.length) (hnb : nb = b.length) (hc : a.length ≤ c) (hd : b.length ≤ d) (ya : a.length * 40 ≤ 140737488351232) (yb : b.length * 40 ≤ 140737488351232) (v : Bool) (hv : v = true ↔ begins a b) (w : World)
    (ha : Kd.C k29 w A na a) (hb : Kd.C k29 w B nb b) :
    Calls Try.prog 16 #[.slice A na c, .slice B nb d] w fun e w' => e = .returned (.bool v) ∧ Below w.heap.size w w' := by
  subst hna hnb
  obtain ⟨r, hr⟩ := dif_ex a b
  have H := hide (differ_call A c a B d b hc hd ya yb r hr w ha hb)
  have hv1 := hv.trans (begins_of hr)
  clear ha hb hv hr
  by_cases hl : b.length ≤ a.length
  · by_cases h0 : r < 0
    · have HE : Hid (v = true) := hide (hv1.2 ⟨hl, .inl h0⟩)
      clear hv1
      have l1 : (b.length : Int) ≤ (a.length : Int) := by omega
      have l2 : decide ((b.length : Int) ≤ (a.length : Int)) = true := decide_eq_true l1
      have l3 : decide (r < 0) = true := decide_eq_true h0
      have l4 : decide (b.length ≤ a.length) = true := decide_eq_true hl
      go_enter Try.func16, Try.ntmps16
      go_wp2_with (go_at_call 11; refine (unhide H).mono ?_; rintro e w1 ⟨rfl, hb1⟩; have HB1 := hide hb1; clear hb1)
      go_ret
      exact ⟨by rw [HE.out]; rfl, HB1.out⟩
    · have l1 : (b.length : Int) ≤ (a.length : Int) := by omega
      have l2 : decide ((b.length : Int) ≤ (a.length : Int)) = true := decide_eq_true l1
      have l3 : decide (r < 0) = false := decide_eq_false h0
      have l4 : decide (b.length ≤ a.length) = true := decide_eq_true hl
      by_cases h1 : r = b.length
      · have HE : Hid (v = true) := hide (hv1.2 ⟨hl, .inr h1⟩)
        clear hv1
        have l5 : (r == (b.length : Int)) = true := by simpa using h1
        clear h1 h0
        go_enter Try.func16, Try.ntmps16
        go_wp2_with (go_at_call 11; refine (unhide H).mono ?_; rintro e w1 ⟨rfl, hb1⟩; have HB1 := hide hb1; clear hb1)
        go_ret
        exact ⟨by rw [HE.out]; rfl, HB1.out⟩
      · have HE : Hid (v = false) := hide (by
          cases hvv : v
          · rfl
          · exfalso; have := hv1.1 hvv; omega)
        clear hv1
        have l5 : (r == (b.length : Int)) = false := by simpa using h1
        clear h1 h0
        go_enter Try.func16, Try.ntmps16
        go_wp2_with (go_at_call 11; refine (unhide H).mono ?_; rintro e w1 ⟨rfl, hb1⟩; have HB1 := hide hb1; clear hb1)
        go_ret
        exact ⟨by rw [HE.out]; rfl, HB1.out⟩
  · have HE : Hid (v = false) := hide (by
      cases hvv : v
      · rfl
      · exfalso; have := hv1.1 hvv; omega)
    clear hv1
    have l1 : ¬ (b.length : Int) ≤ (a.length : Int) := by omega
    have l2 : decide ((b.length : Int) ≤ (a.length : Int)) = false := decide_eq_false l1
    have l4 : decide (b.length ≤ a.length) = false := decide_eq_false hl
    go_enter Try.func16, Try.ntmps16
    go_wp2_with (go_at_call 11; refine (unhide H).mono ?_; rintro e w1 ⟨rfl, hb1⟩; have HB1 := hide hb1; clear hb1)
    go_ret
    exact ⟨by rw [HE.out]; rfl, HB1.out⟩
end Go.Proofs.Ytcfhkapalcfpiaa.Trace
