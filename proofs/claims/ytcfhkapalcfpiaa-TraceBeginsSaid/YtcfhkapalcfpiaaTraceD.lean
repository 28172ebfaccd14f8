/- The contracts of trace.Rising and of the reference's Begins, Differ, Rising. No law is proved here. -/
import Derived.Test.YtcfhkapalcfpiaaTracePure
import Derived.Test.YtcfhkapalcfpiaaTraceC
namespace Go.Proofs.Ytcfhkapalcfpiaa.Trace
open Go.RowKit Go.Proofs.Ytcfhkapalcfpiaa.Types Go.Proofs.Ytcfhkapalcfpiaa.Heap Go.Proofs.YtcfhkapalcfpiaaW.PrintWords Go.Proofs.YtcfhkapalcfpiaaW.PrintLast Go.Proofs.YtcfhkapalcfpiaaW.PrintMore
set_option linter.unusedVariables false
set_option linter.unusedSimpArgs false
def cv (x : S29) : PTracePairs.S29 := ⟨⟨x.f0.f0, x.f0.f1, x.f0.f2⟩, x.f1, x.f2⟩
theorem cv_inj {x y : S29} (h : cv x = cv y) : x = y := by
  obtain ⟨⟨a, b, c⟩, d, e⟩ := x
  obtain ⟨⟨a', b', c'⟩, d', e'⟩ := y
  simp only [cv, PTracePairs.S29.mk.injEq, PTracePairs.S27.mk.injEq] at h
  obtain ⟨⟨rfl, rfl, rfl⟩, rfl, rfl⟩ := h
  rfl
theorem map_inj {a b : List S29} (h : a.map cv = b.map cv) : a = b := by
  induction a generalizing b with
  | nil => cases b with
    | nil => rfl
    | cons y b => simp at h
  | cons x a ih => cases b with
    | nil => simp at h
    | cons y b =>
      simp only [List.map_cons, List.cons.injEq] at h
      rw [cv_inj h.1, ih h.2]
theorem cv_C {w : World} {A : Option Addr} {n : Nat} {xs : List S29} (h : Kd.C k29 w A n xs) : Kd.C PTracePairs.k29 w A (xs.map cv).length (xs.map cv) := by
  refine ⟨rfl, by rw [List.length_map, h.1]; exact h.2.1, fun h0 => ?_⟩
  obtain ⟨ad, e, hc⟩ := h.2.2 (by rw [List.length_map, h.1] at h0; exact h0)
  refine ⟨ad, e, fun j p hj => ?_⟩
  rw [List.getElem?_map] at hj
  cases hx : xs[j]? with
  | none => rw [hx] at hj; cases hj
  | some x =>
    rw [hx] at hj
    injection hj with hj
    subst hj
    obtain ⟨c, hl, hK, hcell⟩ := hc j x hx
    obtain rfl := k29_open hK
    exact ⟨_, hl, PTracePairs.k29_mk w (cv x), hcell⟩
theorem cv_dif {a b : List S29} {r : Int} (h : Dif a b r) : Pure.Dif (a.map cv) (b.map cv) r := by
  rcases h with ⟨rfl, rfl⟩ | ⟨n, rfl, h1, h2, ht, hne⟩
  · exact .inl ⟨rfl, rfl⟩
  · refine .inr ⟨n, rfl, by simpa using h1, by simpa using h2, by rw [← List.map_take, ← List.map_take, ht], ?_⟩
    rw [List.getElem?_map, List.getElem?_map]
    intro h
    apply hne
    cases ha : a[n]? with
    | none => rw [ha] at h; cases hb : b[n]? with
      | none => rfl
      | some y => rw [hb] at h; cases h
    | some x => rw [ha] at h; cases hb : b[n]? with
      | none => rw [hb] at h; cases h
      | some y =>
        rw [hb] at h
        injection h with h
        rw [cv_inj h]
def Rise (l : List S29) : Prop := Pure.Rise (l.map cv)
theorem rise_take {l : List S29} (h : Rise l) (n : Nat) : Rise (l.take n) := by
  unfold Rise at h ⊢
  rw [List.map_take]
  exact Pure.rise_take h n
theorem both_iff (a b : List S29) (h : begins a b) (g : begins b a) : a = b := by
  unfold begins at h g
  have l1 : (a.take b.length).length = b.length := by rw [h]
  have l2 : (b.take a.length).length = a.length := by rw [g]
  rw [List.length_take] at l1 l2
  rw [← g, List.take_of_length_le (by omega)]
theorem begins_self (a : List S29) : begins a a := by unfold begins; rw [List.take_length]
theorem rising_call (A : Option Addr) (n c : Nat) (l : List S29) (hn : n = l.length) (hc : l.length ≤ c) (y : l.length * 40 ≤ 140737488351232) (v : Bool) (hv : v = true ↔ Rise l) (w : World) (h : Kd.C k29 w A n l) :
    Calls Try.prog 19 #[.slice A n c] w fun e w' => e = .returned (.bool v) ∧ Below w.heap.size w w' := by
  subst hn
  obtain ⟨r, hr, hR⟩ := Pure.rising_eq (l.map cv) (by simpa using y) (l.length + 5) (by simp)
  have : r = v := by
    have := hR.trans hv.symm
    cases r <;> cases v <;> simp_all
  subst this
  have := PTracePairs.trace_Rising.calls (l.length + 5) A c (l.map cv) r w (cv_C h) (by simpa using hc) hr
  simpa using this
theorem rrising_call (A : Option Addr) (n c : Nat) (l : List S29) (hn : n = l.length) (hc : l.length ≤ c) (y : l.length * 40 ≤ 140737488351232) (v : Bool) (hv : v = true ↔ Rise l) (w : World) (h : Kd.C k29 w A n l) :
    Calls Try.prog 20 #[.slice A n c] w fun e w' => e = .returned (.bool v) ∧ Below w.heap.size w w' := by
  subst hn
  obtain ⟨r, hr, hR⟩ := Pure.rrising_eq (l.map cv) (by simpa using y) (l.length + 5) (by simp)
  have : r = v := by
    have := hR.trans hv.symm
    cases r <;> cases v <;> simp_all
  subst this
  have := PTracePairs.isochronref20_Rising.calls (l.length + 5) A c (l.map cv) r w (cv_C h) (by simpa using hc) hr
  simpa using this
theorem rbegins_call (A : Option Addr) (c : Nat) (a : List S29) (B : Option Addr) (d : Nat) (b : List S29) (hc : a.length ≤ c) (hd : b.length ≤ d) (ya : a.length * 40 ≤ 140737488351232) (v : Bool) (hv : v = true ↔ begins a b) (w : World) (ha : Kd.C k29 w A a.length a) (hb : Kd.C k29 w B b.length b) :
    Calls Try.prog 17 #[.slice A a.length c, .slice B b.length d] w fun e w' => e = .returned (.bool v) ∧ Below w.heap.size w w' := by
  obtain ⟨r, hr, hR⟩ := Pure.rbegins_eq (a.map cv) (b.map cv) (by simpa using ya) (a.length + b.length + 1) (by simp)
  have hR2 : r = true ↔ begins a b := by
    rw [hR]
    unfold begins
    rw [List.length_map, ← List.map_take]
    exact ⟨fun h => map_inj h, fun h => by rw [h]⟩
  have : r = v := by
    have := hR2.trans hv.symm
    cases r <;> cases v <;> simp_all
  subst this
  have := PTracePairs.isochronref20_Begins.calls (a.length + b.length + 1) A c (a.map cv) B d (b.map cv) r w (cv_C ha) (by simpa using hc) (cv_C hb) (by simpa using hd) hr
  have t2 : Calls Try.prog 17 #[.slice A a.length c, .slice B b.length d] w fun e w' => e = .returned (.bool r) ∧ Drawn0 w w' := by simpa using this
  exact t2.mono fun e w' h => ⟨h.1, h.2.below⟩
theorem rdiffer_call (A : Option Addr) (c : Nat) (a : List S29) (B : Option Addr) (d : Nat) (b : List S29) (hc : a.length ≤ c) (hd : b.length ≤ d) (ya : a.length * 40 ≤ 140737488351232) (r : Int) (hr : Dif a b r) (w : World) (ha : Kd.C k29 w A a.length a) (hb : Kd.C k29 w B b.length b) :
    Calls Try.prog 18 #[.slice A a.length c, .slice B b.length d] w fun e w' => e = .returned (.int .i64 r) ∧ Below w.heap.size w w' := by
  obtain ⟨s, hs, hS⟩ := Pure.rdiffer_eq (a.map cv) (b.map cv) (by simpa using ya) (a.length + a.length + 2) (by simp)
  have : s = r := hS.uniq (cv_dif hr)
  subst this
  have := PTracePairs.isochronref20_Differ.calls (a.length + a.length + 2) A c (a.map cv) B d (b.map cv) s w (cv_C ha) (by simpa using hc) (cv_C hb) (by simpa using hd) hs
  simpa using this
end Go.Proofs.Ytcfhkapalcfpiaa.Trace
