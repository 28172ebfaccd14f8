/- The contracts of trace.Differ, trace.Begins, and of the law's own 'same' and 'awake'. No law is proved here. -/
import Derived.Test.YtcfhkapalcfpiaaProg
import Derived.Test.YtcfhkapalcfpiaaTypes
import Derived.Test.YtcfhkapalcfpiaaHeap
import Derived.Test.YtcfhkapalcfpiaaPTraceDiffersx1
import Derived.StillTailTactics
import Derived.Deep.QuietTactic
import Derived.BigQuiet
namespace Go.Proofs.Ytcfhkapalcfpiaa.Trace
open Go.RowKit Go.Proofs.Ytcfhkapalcfpiaa.Types Go.Proofs.Ytcfhkapalcfpiaa.Heap Go.Proofs.YtcfhkapalcfpiaaW.PrintWords Go.Proofs.YtcfhkapalcfpiaaW.PrintLast Go.Proofs.YtcfhkapalcfpiaaW.PrintMore
set_option linter.unusedVariables false
set_option linter.unusedSimpArgs false
attribute [local go_sem high] PTraceDiffers.eqA29 PTraceDiffers.eqA27
theorem unhide {p : Prop} (h : Hid p) : p := h
def Dif (a b : List S29) (r : Int) : Prop := (r = -1 ∧ a = b) ∨ ∃ n : Nat, r = n ∧ n ≤ a.length ∧ n ≤ b.length ∧ a.take n = b.take n ∧ a[n]? ≠ b[n]?

theorem take_get {a b : List S29} {n m : Nat} (h : a.take m = b.take m) (hn : n < m) : a[n]? = b[n]? := by
  have : (a.take m)[n]? = (b.take m)[n]? := by rw [h]
  rwa [List.getElem?_take_of_lt hn, List.getElem?_take_of_lt hn] at this

theorem Dif.uniq {a b : List S29} {r s : Int} (h : Dif a b r) (g : Dif a b s) : r = s := by
  rcases h with ⟨rfl, rfl⟩ | ⟨n, rfl, _, _, ht, hne⟩
  · rcases g with ⟨rfl, _⟩ | ⟨m, _, _, _, _, hne⟩
    · rfl
    · exact absurd rfl hne
  · rcases g with ⟨_, rfl⟩ | ⟨m, rfl, _, _, ht', hne'⟩
    · exact absurd rfl hne
    · rcases Nat.lt_trichotomy n m with h | h | h
      · exact absurd (take_get ht' h) hne
      · rw [h]
      · exact absurd (take_get ht h) hne'

theorem Dif.symm {a b : List S29} {r : Int} (h : Dif a b r) : Dif b a r := by
  rcases h with ⟨h, rfl⟩ | ⟨n, h, h1, h2, ht, hne⟩
  · exact .inl ⟨h, rfl⟩
  · exact .inr ⟨n, h, h2, h1, ht.symm, fun e => hne e.symm⟩

theorem take_snoc_eq {a b : List S29} {i : Nat} (ha : i < a.length) (hb : i < b.length) (h : a.take i = b.take i) (e : a[i] = b[i]) : a.take (i + 1) = b.take (i + 1) := by
  rw [List.take_succ_eq_append_getElem ha, List.take_succ_eq_append_getElem hb, h, e]


theorem dif_ex (a b : List S29) : ∃ r, Dif a b r := by
  classical
  by_cases h : a = b
  · exact ⟨_, .inl ⟨rfl, h⟩⟩
  · have key : ∀ (a b : List S29), a ≠ b → ∃ n : Nat, n ≤ a.length ∧ n ≤ b.length ∧ a.take n = b.take n ∧ a[n]? ≠ b[n]? := by
      intro a
      induction a with
      | nil =>
        intro b hb
        cases b with
        | nil => exact absurd rfl hb
        | cons y b => exact ⟨0, by simp, by simp, rfl, by simp⟩
      | cons x a ih =>
        intro b hb
        cases b with
        | nil => exact ⟨0, by simp, by simp, rfl, by simp⟩
        | cons y b =>
          by_cases hxy : x = y
          · subst hxy
            obtain ⟨n, h1, h2, h3, h4⟩ := ih b (fun e => hb (by rw [e]))
            exact ⟨n + 1, by simpa using h1, by simpa using h2, by simpa using h3, by simpa using h4⟩
          · exact ⟨0, by simp, by simp, rfl, by simpa using hxy⟩
    obtain ⟨n, h1, h2, h3, h4⟩ := key a b h
    exact ⟨n, .inr ⟨n, rfl, h1, h2, h3, h4⟩⟩
theorem ne_bool (x y : S29) (h : x ≠ y) : ((!(x.f0.f0 == y.f0.f0) || (!(x.f0.f1 == y.f0.f1) || !(x.f0.f2 == y.f0.f2))) || (!(x.f1 == y.f1) || !(x.f2 == y.f2))) = true ∧ ((x.f0.f0 == y.f0.f0 && (x.f0.f1 == y.f0.f1 && (x.f0.f2 == y.f0.f2))) && (x.f1 == y.f1 && (x.f2 == y.f2))) = false := by
  obtain ⟨⟨a, b, c⟩, d, e⟩ := x
  obtain ⟨⟨a', b', c'⟩, d', e'⟩ := y
  by_cases h1 : a = a' <;> by_cases h2 : b = b' <;> by_cases h3 : c = c' <;> by_cases h4 : d = d' <;> by_cases h5 : e = e' <;> simp [h1, h2, h3, h4, h5]
  exact h (by rw [h1, h2, h3, h4, h5])

set_option maxHeartbeats 8000000 in
set_option maxRecDepth 100000 in
theorem differ_call (A : Option Addr) (c : Nat) (a : List S29) (B : Option Addr) (d : Nat) (b : List S29) (hc : a.length ≤ c) (hd : b.length ≤ d) (ya : a.length * 40 ≤ 140737488351232) (yb : b.length * 40 ≤ 140737488351232) (r : Int) (hr : Dif a b r) (w : World)
    (ha : Kd.C k29 w A a.length a) (hb : Kd.C k29 w B b.length b) :
    Calls Try.prog 11 #[.slice A a.length c, .slice B b.length d] w fun e w' => e = .returned (.int .i64 r) ∧ Below w.heap.size w w' := by
  have HA := hide ha
  have HBb := hide hb
  have HD := hide hr
  clear ha hb hr
  go_enter Try.func11, Try.ntmps11
  go_wp2
  go_loopw [9] (fun i wr => ∃ k : Nat, k ≤ a.length ∧ k ≤ b.length ∧ i = .int .i64 k ∧ Hid (a.take k = b.take k) ∧ Hid (Below w.heap.size w wr)) (fun i _ => a.length - (intOf i).toNat)
  case atStart => exact ⟨0, Nat.zero_le _, Nat.zero_le _, rfl, hide rfl, hide (Below.refl _ _)⟩
  case round =>
    obtain ⟨k, hk, hkb, rfl, HT, HB⟩ := hrel
    by_cases hlt : k < a.length
    · obtain ⟨ad, rfl, q0, q1, q2, q3, q4⟩ := at_S29 (HA.out.imp_ HB.out (fun _ _ h => k29.K_below HB.out h)) hlt
      have b1 : (k : Int) < (a.length : Int) := by omega
      by_cases hlb : k < b.length
      · have HB1 := hide (HB.out.alloc HB.out.size (.cells #[.int .i64 a[k].f0.f0, .int .i64 a[k].f0.f1, .int .i64 a[k].f0.f2, .int .i64 a[k].f1, .int .i64 a[k].f2] 29))
        obtain ⟨bd, rfl, p0, p1, p2, p3, p4⟩ := at_S29 (HBb.out.imp_ HB1.out (fun _ _ h => k29.K_below HB1.out h)) hlb
        have b2 : (k : Int) < (b.length : Int) := by omega
        have b3 : decide ((b.length : Int) ≤ (k : Int)) = false := decide_eq_false (by omega)
        have b4 : decide (b.length ≤ k) = false := decide_eq_false (by omega)
        by_cases he : a[k] = b[k]
        · have HT1 := hide (take_snoc_eq hlt hlb HT.out he)
          obtain ⟨x, hx⟩ : ∃ x, a[k] = x := ⟨_, rfl⟩
          rw [← he, hx] at p0 p1 p2 p3 p4
          rw [hx] at q0 q1 q2 q3 q4 HB1
          clear hx he
          go_wp2_with fail
          go_quiet (fail)
          go_wp2_with fail
          go_roundw
          case rel => exact ⟨k + 1, by omega, by omega, by go_num, HT1, hide (below_drewN HB1.out _)⟩
          case measure => simp [intOf]; omega
        · have HE : Hid (r = k) := hide (HD.out.uniq (.inr ⟨k, rfl, hk, hkb, HT.out, by rw [List.getElem?_eq_getElem hlt, List.getElem?_eq_getElem hlb]; simpa using he⟩))
          obtain ⟨x, hx⟩ : ∃ x, a[k] = x := ⟨_, rfl⟩
          obtain ⟨y, hy⟩ : ∃ y, b[k] = y := ⟨_, rfl⟩
          rw [hx] at q0 q1 q2 q3 q4 HB1 he
          rw [hy] at p0 p1 p2 p3 p4 he
          rw [hx] at p0 p1 p2 p3 p4
          obtain ⟨n1, n2⟩ := ne_bool x y he
          clear hx hy he
          go_wp2_with fail
          go_quiet (fail)
          go_wp2_with fail
          go_ret
          exact ⟨by rw [HE.out]; rfl, below_drewN HB1.out _⟩
      · have HB1 := hide (HB.out.alloc HB.out.size (.cells #[.int .i64 a[k].f0.f0, .int .i64 a[k].f0.f1, .int .i64 a[k].f0.f2, .int .i64 a[k].f1, .int .i64 a[k].f2] 29))
        have b3 : decide ((b.length : Int) ≤ (k : Int)) = true := decide_eq_true (by omega)
        have b4 : decide (b.length ≤ k) = true := decide_eq_true (by omega)
        have HE : Hid (r = k) := hide (HD.out.uniq (.inr ⟨k, rfl, hk, hkb, HT.out, by rw [List.getElem?_eq_getElem hlt, List.getElem?_eq_none (by omega)]; simp⟩))
        obtain ⟨x, hx⟩ : ∃ x, a[k] = x := ⟨_, rfl⟩
        rw [hx] at q0 q1 q2 q3 q4 HB1
        clear hx
        go_wp2_with fail
        go_quiet (fail)
        go_wp2_with fail
        go_ret
        exact ⟨by rw [HE.out]; rfl, below_drewN HB1.out _⟩
    · have : k = a.length := by omega
      subst this
      have b1 : ¬ (a.length : Int) < (a.length : Int) := by omega
      by_cases hab : a.length < b.length
      · have HE : Hid (r = a.length) := hide (HD.out.uniq (.inr ⟨a.length, rfl, Nat.le_refl _, by omega, HT.out, by rw [List.getElem?_eq_none (Nat.le_refl _), List.getElem?_eq_getElem hab]; simp⟩))
        have b2 : (a.length : Int) < (b.length : Int) := by omega
        go_wp2
        go_ret
        exact ⟨by rw [HE.out]; rfl, HB.out⟩
      · have HE : Hid (r = -1) := hide (HD.out.uniq (.inl ⟨rfl, by have := HT.out; rw [List.take_length] at this; rw [this, List.take_of_length_le (by omega)]⟩))
        have b2 : ¬ (a.length : Int) < (b.length : Int) := by omega
        go_wp2
        go_ret
        exact ⟨by rw [HE.out]; rfl, HB.out⟩
end Go.Proofs.Ytcfhkapalcfpiaa.Trace
