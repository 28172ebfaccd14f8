/- What trace.Rising and the reference answer, without Go and memory. -/
import Derived.Test.YtcfhkapalcfpiaaCmp1
import Derived.Test.YtcfhkapalcfpiaaCmp2
import Derived.Test.YtcfhkapalcfpiaaCmp3
namespace Go.Proofs.Ytcfhkapalcfpiaa.Pure
open Go.RowKit Go.Proofs.Ytcfhkapalcfpiaa.PTracePairs Go.Proofs.YtcfhkapalcfpiaaW.PrintWords Go.Proofs.YtcfhkapalcfpiaaW.PrintLast Go.Proofs.YtcfhkapalcfpiaaW.PrintMore
set_option linter.unusedVariables false
set_option linter.unusedSimpArgs false

theorem rd_get {l : List S29} {i : Nat} (h : i < l.length) : rd_T29 l (i : Int) = l[i] := by
  simp [rd_T29, h]

theorem ne_iff (x y : S29) : (((!(((x).f0.f0) == ((y).f0.f0)) || (!(((x).f0.f1) == ((y).f0.f1)) || (!(((x).f0.f2) == ((y).f0.f2))))) || (!(((x).f1) == ((y).f1)) || (!(((x).f2) == ((y).f2))))) = true) ↔ x ≠ y := by
  obtain ⟨⟨a, b, c⟩, d, e⟩ := x
  obtain ⟨⟨a', b', c'⟩, d', e'⟩ := y
  by_cases h1 : a = a' <;> by_cases h2 : b = b' <;> by_cases h3 : c = c' <;> by_cases h4 : d = d' <;> by_cases h5 : e = e' <;> simp [h1, h2, h3, h4, h5]

theorem wrap_succ {i n : Nat} (h : i ≤ n) (hn : n * 40 ≤ 140737488351232) : wrap64 ((i : Int) + 1) = ((i + 1 : Nat) : Int) := by unfold wrap64; omega

def Dif (a b : List S29) (r : Int) : Prop := (r = -1 ∧ a = b) ∨ ∃ n : Nat, r = n ∧ n ≤ a.length ∧ n ≤ b.length ∧ a.take n = b.take n ∧ a[n]? ≠ b[n]?

theorem take_get {a b : List S29} {n m : Nat} (h : a.take m = b.take m) (hn : n < m) : a[n]? = b[n]? := by
  have : (a.take m)[n]? = (b.take m)[n]? := by rw [h]
  rwa [List.getElem?_take_of_lt hn, List.getElem?_take_of_lt hn] at this

theorem Dif.uniq {a b : List S29} {r s : Int} (h : Dif a b r) (g : Dif a b s) : r = s := by
  rcases h with ⟨rfl, rfl⟩ | ⟨n, rfl, _, _, ht, hne⟩
  · rcases g with ⟨rfl, _⟩ | ⟨m, _, _, _, _, hne⟩
    · rfl
    · exact absurd rfl hne
  · rcases g with ⟨_, rfl⟩ | ⟨m, rfl, _, _, ht', hne'⟩
    · exact absurd rfl hne
    · rcases Nat.lt_trichotomy n m with h | h | h
      · exact absurd (take_get ht' h) hne
      · rw [h]
      · exact absurd (take_get ht h) hne'

theorem Dif.symm {a b : List S29} {r : Int} (h : Dif a b r) : Dif b a r := by
  rcases h with ⟨h, rfl⟩ | ⟨n, h, h1, h2, ht, hne⟩
  · exact .inl ⟨h, rfl⟩
  · exact .inr ⟨n, h, h2, h1, ht.symm, fun e => hne e.symm⟩

theorem take_snoc_eq {a b : List S29} {i : Nat} (ha : i < a.length) (hb : i < b.length) (h : a.take i = b.take i) (e : a[i] = b[i]) : a.take (i + 1) = b.take (i + 1) := by
  rw [List.take_succ_eq_append_getElem ha, List.take_succ_eq_append_getElem hb, h, e]

def sg (a b : Int) : Int := if a < b then -1 else if a > b then 1 else 0
def ck (a b c x y z : Int) : Int := if a = x then (if b = y then sg c z else sg b y) else sg a x

theorem cmp64_eq (a b : Int) : cmp_Compare_int64.f a b = some (sg a b) := by
  unfold cmp_Compare_int64.f cmp_isNaN_int64.f sg
  simp
  repeat' split
  all_goals rfl

theorem cmpi_eq (a b : Int) : cmp_Compare_int.f a b = some (sg a b) := by
  unfold cmp_Compare_int.f cmp_isNaN_int.f sg
  simp
  repeat' split
  all_goals rfl

theorem or3_eq (k : Nat) (x y z : Int) : cmp_Or_int.f (k + 4) [x, y, z] = some (if x = 0 then (if y = 0 then z else y) else x) := by
  have w1 : wrap64 1 = 1 := by unfold wrap64; omega
  have w2 : wrap64 2 = 2 := by unfold wrap64; omega
  have w3 : wrap64 3 = 3 := by unfold wrap64; omega
  have r0 : rd [x, y, z] 0 = x := rfl
  have r1 : rd [x, y, z] 1 = y := rfl
  have r2 : rd [x, y, z] 2 = z := rfl
  unfold cmp_Or_int.f
  by_cases hx : x = 0
  · by_cases hy : y = 0
    · by_cases hz : z = 0
      · subst hx hy hz
        simp [cmp_Or_int.l0, w1, w2, w3, r0, r1, r2]
      · subst hx hy
        simp [cmp_Or_int.l0, w1, w2, r0, r1, r2, hz]
    · subst hx
      simp [cmp_Or_int.l0, w1, r0, r1, hy]
  · simp [cmp_Or_int.l0, r0, hx]

theorem sg_zero (a b : Int) : sg a b = 0 ↔ a = b := by unfold sg; repeat' split
                                                       all_goals omega

theorem cmpk_eq (k : Nat) (a b c x y z : Int) : event_Compare.f (k + 4) a b c x y z = some (ck a b c x y z) := by
  unfold event_Compare.f
  rw [cmp64_eq, cmpi_eq, cmpi_eq]
  simp only [Option.bind_some]
  rw [or3_eq]
  unfold ck
  by_cases h1 : a = x
  · by_cases h2 : b = y
    · by_cases h3 : c = z
      · subst h1 h2 h3
        simp [sg]
      · have e1 := (sg_zero a x).2 h1
        have e2 := (sg_zero b y).2 h2
        simp [h1, h2, h3] at *
        simp [e1, e2]
    · have e1 := (sg_zero a x).2 h1
      have e2 : ¬ sg b y = 0 := fun h => h2 ((sg_zero b y).1 h)
      simp [h1, h2] at *
      simp [e1, e2]
  · have e1 : ¬ sg a x = 0 := fun h => h1 ((sg_zero a x).1 h)
    simp [h1, e1]


/-- The keys rise. -/
def Rise (l : List S29) : Prop := ∀ i x y, l[i]? = some x → l[i + 1]? = some y → ck x.f0.f0 x.f0.f1 x.f0.f2 y.f0.f0 y.f0.f1 y.f0.f2 < 0

theorem rising_loop (l : List S29) (hn : l.length * 40 ≤ 140737488351232) (d : Nat) : ∀ (k i : Nat), i + d + 1 = l.length → (∀ j x y, j < i → l[j]? = some x → l[j + 1]? = some y → ck x.f0.f0 x.f0.f1 x.f0.f2 y.f0.f0 y.f0.f1 y.f0.f2 < 0) → d + 4 < k →
    ∃ r, trace_Rising.l0 k l ((l.length : Int) - 1) (i : Int) = some r ∧ (r = true ↔ Rise l) := by
  induction d with
  | zero =>
    intro k i hi h hk
    obtain ⟨k, rfl⟩ : ∃ m, k = m + 1 := ⟨k - 1, by omega⟩
    simp only [trace_Rising.l0]
    rw [if_neg (by omega)]
    refine ⟨_, rfl, fun _ => ?_, fun _ => rfl⟩
    intro j x y hx hy
    have : j + 1 < l.length := (List.getElem?_eq_some_iff.1 hy).1
    exact h j x y (by omega) hx hy
  | succ d ih =>
    intro k i hi h hk
    obtain ⟨k, rfl⟩ : ∃ m, k = m + 1 := ⟨k - 1, by omega⟩
    have hlt : i < l.length := by omega
    have hlt1 : i + 1 < l.length := by omega
    have q0 : (i : Int) < (l.length : Int) - 1 := by omega
    have q1 : (0 : Int) ≤ (i : Int) := by omega
    have q2 : (i : Int) < (l.length : Int) := by omega
    have q3 : (0 : Int) ≤ ((i + 1 : Nat) : Int) := by omega
    have q4 : ((i + 1 : Nat) : Int) < (l.length : Int) := by omega
    simp only [trace_Rising.l0, wrap_succ (Nat.le_of_lt hlt) hn]
    rw [if_pos q0, if_pos q1, if_pos q2, if_pos q3, if_pos q4, rd_get hlt, rd_get hlt1]
    obtain ⟨k', rfl⟩ : ∃ m, k = m + 4 := ⟨k - 4, by omega⟩
    rw [cmpk_eq]
    simp only [Option.bind_some]
    by_cases hc : ck l[i].f0.f0 l[i].f0.f1 l[i].f0.f2 l[i + 1].f0.f0 l[i + 1].f0.f1 l[i + 1].f0.f2 < 0
    · rw [if_neg (by omega)]
      refine ih (k' + 4) (i + 1) (by omega) (fun j x y hj hx hy => ?_) (by omega)
      rcases Nat.lt_or_ge j i with g | g
      · exact h j x y g hx hy
      · have : j = i := by omega
        subst this
        rw [List.getElem?_eq_getElem hlt] at hx
        rw [List.getElem?_eq_getElem hlt1] at hy
        cases hx; cases hy
        exact hc
    · rw [if_pos (by omega)]
      refine ⟨_, rfl, ?_⟩
      constructor
      · intro h; cases h
      · intro h
        exact absurd (h i _ _ (List.getElem?_eq_getElem hlt) (List.getElem?_eq_getElem hlt1)) hc

theorem rising_eq (l : List S29) (hn : l.length * 40 ≤ 140737488351232) (k : Nat) (hk : l.length + 4 < k) : ∃ r, trace_Rising.f k l = some r ∧ (r = true ↔ Rise l) := by
  have e1 : wrap64 ((l.length : Int) - 1) = (l.length : Int) - 1 := by unfold wrap64; omega
  unfold trace_Rising.f
  rw [e1]
  rcases Nat.eq_zero_or_pos l.length with h0 | h0
  · obtain ⟨k, rfl⟩ : ∃ m, k = m + 1 := ⟨k - 1, by omega⟩
    simp only [trace_Rising.l0]
    rw [if_neg (by omega)]
    refine ⟨_, rfl, fun _ => ?_, fun _ => rfl⟩
    intro j x y hx hy
    have : j + 1 < l.length := (List.getElem?_eq_some_iff.1 hy).1
    omega
  · exact rising_loop l hn (l.length - 1) k 0 (by omega) (fun j x y hj => absurd hj (Nat.not_lt_zero _)) (by omega)

theorem rsign_eq (a b : Int) : isochronref02_sign.f a b = some (sg a b) := by
  unfold isochronref02_sign.f sg
  repeat' split
  all_goals rfl

theorem rcmpk_eq (a b c x y z : Int) : isochronref02_Compare.f a b c x y z = some (ck a b c x y z) := by
  unfold isochronref02_Compare.f ck
  simp only [rsign_eq, Option.bind_some]
  repeat' split
  all_goals rfl

theorem rdiffer_loop (a b : List S29) (hn : a.length * 40 ≤ 140737488351232) (d : Nat) : ∀ (k i : Nat), i + d = a.length → i ≤ b.length → a.take i = b.take i → d + d + 1 < k →
    ∃ r, isochronref20_Differ.l0 k a b (i : Int) = some r ∧ Dif a b r := by
  induction d with
  | zero =>
    intro k i hi hb ht hk
    obtain ⟨k, rfl⟩ : ∃ m, k = m + 2 := ⟨k - 2, by omega⟩
    have hi : i = a.length := by omega
    subst hi
    simp only [isochronref20_Differ.l0, isochronref20_Differ.j1]
    rw [if_neg (by omega), if_neg (by simp)]
    by_cases hlt : a.length = b.length
    · rw [if_pos (by omega)]
      refine ⟨_, rfl, .inl ⟨rfl, ?_⟩⟩
      rw [List.take_length] at ht
      rw [ht, List.take_of_length_le (by omega)]
    · rw [if_neg (by omega)]
      refine ⟨_, rfl, .inr ⟨a.length, by unfold mn; rw [if_neg (by omega)], Nat.le_refl _, by omega, ht, ?_⟩⟩
      rw [List.getElem?_eq_none (Nat.le_refl _), List.getElem?_eq_getElem (show a.length < b.length by omega)]
      simp
  | succ d ih =>
    intro k i hi hb ht hk
    obtain ⟨k, rfl⟩ : ∃ m, k = m + 2 := ⟨k - 2, by omega⟩
    have hlt : i < a.length := by omega
    simp only [isochronref20_Differ.l0, isochronref20_Differ.j1]
    rw [if_pos (by omega)]
    by_cases hbl : i < b.length
    · have q : (i : Int) < (b.length : Int) := by omega
      rw [if_pos (decide_eq_true q), if_pos (by omega), if_pos (by omega), if_pos (by omega), rd_get hlt, rd_get hbl]
      by_cases he : a[i] = b[i]
      · rw [if_neg (fun h => (ne_iff _ _).1 h he), wrap_succ (Nat.le_of_lt hlt) hn]
        exact ih k (i + 1) (by omega) hbl (take_snoc_eq hlt hbl ht he) (by omega)
      · rw [if_pos ((ne_iff _ _).2 he)]
        refine ⟨_, rfl, .inr ⟨i, rfl, by omega, by omega, ht, ?_⟩⟩
        rw [List.getElem?_eq_getElem hlt, List.getElem?_eq_getElem hbl]
        simpa using he
    · have q : ¬ (i : Int) < (b.length : Int) := by omega
      rw [if_neg (by rw [decide_eq_false q]; simp), if_neg (by omega)]
      refine ⟨_, rfl, .inr ⟨b.length, by unfold mn; split <;> omega, by omega, Nat.le_refl _, by rw [show b.length = i by omega]; exact ht, ?_⟩⟩
      rw [List.getElem?_eq_getElem (show b.length < a.length by omega), List.getElem?_eq_none (Nat.le_refl _)]
      simp

theorem rbegins_loop (l a : List S29) (hla : a.length ≤ l.length) (hn : l.length * 40 ≤ 140737488351232) (d : Nat) : ∀ (k i : Nat), i + d = a.length → l.take i = a.take i → d < k →
    ∃ r, isochronref20_Begins.l0 k l a (i : Int) = some r ∧ (r = true ↔ l.take a.length = a) := by
  induction d with
  | zero =>
    intro k i hi ht hk
    obtain ⟨k, rfl⟩ : ∃ m, k = m + 1 := ⟨k - 1, by omega⟩
    have hi : i = a.length := by omega
    subst hi
    simp only [isochronref20_Begins.l0]
    rw [if_neg (by omega)]
    rw [List.take_length] at ht
    exact ⟨_, rfl, fun _ => ht, fun _ => rfl⟩
  | succ d ih =>
    intro k i hi ht hk
    obtain ⟨k, rfl⟩ : ∃ m, k = m + 1 := ⟨k - 1, by omega⟩
    have hal : i < a.length := by omega
    have hll : i < l.length := by omega
    simp only [isochronref20_Begins.l0]
    rw [if_pos (by omega), if_pos (by omega), if_pos (by omega), rd_get hal, rd_get hll]
    by_cases he : l[i] = a[i]
    · rw [if_neg (fun h => (ne_iff _ _).1 h he), wrap_succ (Nat.le_of_lt hll) hn]
      exact ih k (i + 1) (by omega) (take_snoc_eq hll hal ht he) (by omega)
    · rw [if_pos ((ne_iff _ _).2 he)]
      refine ⟨_, rfl, ?_⟩
      constructor
      · intro h; cases h
      · intro h
        exfalso
        apply he
        have : (l.take a.length)[i]? = a[i]? := by rw [h]
        rw [List.getElem?_take_of_lt hal, List.getElem?_eq_getElem hll, List.getElem?_eq_getElem hal] at this
        exact Option.some.inj this

theorem rrising_loop (l : List S29) (hn : l.length * 40 ≤ 140737488351232) (d : Nat) : ∀ (k i : Nat), i + d = l.length → 1 ≤ i → (∀ j x y, j + 1 < i → l[j]? = some x → l[j + 1]? = some y → ck x.f0.f0 x.f0.f1 x.f0.f2 y.f0.f0 y.f0.f1 y.f0.f2 < 0) → d < k →
    ∃ r, isochronref20_Rising.l0 k l (i : Int) = some r ∧ (r = true ↔ Rise l) := by
  induction d with
  | zero =>
    intro k i hi h1 h hk
    obtain ⟨k, rfl⟩ : ∃ m, k = m + 1 := ⟨k - 1, by omega⟩
    simp only [isochronref20_Rising.l0]
    rw [if_neg (by omega)]
    refine ⟨_, rfl, fun _ => ?_, fun _ => rfl⟩
    intro j x y hx hy
    have : j + 1 < l.length := (List.getElem?_eq_some_iff.1 hy).1
    exact h j x y (by omega) hx hy
  | succ d ih =>
    intro k i hi h1 h hk
    obtain ⟨k, rfl⟩ : ∃ m, k = m + 1 := ⟨k - 1, by omega⟩
    obtain ⟨i, rfl⟩ : ∃ m, i = m + 1 := ⟨i - 1, by omega⟩
    have hlt : i < l.length := by omega
    have hlt1 : i + 1 < l.length := by omega
    have e0 : wrap64 (((i + 1 : Nat) : Int) - 1) = (i : Int) := by unfold wrap64; omega
    have q1 : (0 : Int) ≤ (i : Int) := by omega
    have q2 : (i : Int) < (l.length : Int) := by omega
    have q3 : (0 : Int) ≤ ((i + 1 : Nat) : Int) := by omega
    have q4 : ((i + 1 : Nat) : Int) < (l.length : Int) := by omega
    simp only [isochronref20_Rising.l0, e0]
    rw [if_pos q4, if_pos q1, if_pos q2, if_pos q3, rd_get hlt, rd_get hlt1, rcmpk_eq]
    simp only [Option.bind_some]
    by_cases hc : ck l[i].f0.f0 l[i].f0.f1 l[i].f0.f2 l[i + 1].f0.f0 l[i + 1].f0.f1 l[i + 1].f0.f2 < 0
    · rw [if_neg (by omega), wrap_succ (Nat.le_of_lt hlt1) hn]
      refine ih k (i + 1 + 1) (by omega) (by omega) (fun j x y hj hx hy => ?_) (by omega)
      rcases Nat.lt_or_ge j i with g | g
      · exact h j x y (by omega) hx hy
      · have : j = i := by omega
        subst this
        rw [List.getElem?_eq_getElem hlt] at hx
        rw [List.getElem?_eq_getElem hlt1] at hy
        cases hx; cases hy
        exact hc
    · rw [if_pos (by omega)]
      refine ⟨_, rfl, ?_⟩
      constructor
      · intro h; cases h
      · intro h
        exact absurd (h i _ _ (List.getElem?_eq_getElem hlt) (List.getElem?_eq_getElem hlt1)) hc

theorem rrising_eq (l : List S29) (hn : l.length * 40 ≤ 140737488351232) (k : Nat) (hk : l.length < k) : ∃ r, isochronref20_Rising.f k l = some r ∧ (r = true ↔ Rise l) := by
  unfold isochronref20_Rising.f
  rcases Nat.eq_zero_or_pos l.length with h0 | h0
  · obtain ⟨k, rfl⟩ : ∃ m, k = m + 1 := ⟨k - 1, by omega⟩
    simp only [isochronref20_Rising.l0]
    rw [if_neg (by omega)]
    refine ⟨_, rfl, fun _ => ?_, fun _ => rfl⟩
    intro j x y hx hy
    have : j + 1 < l.length := (List.getElem?_eq_some_iff.1 hy).1
    omega
  · exact rrising_loop l hn (l.length - 1) k 1 (by omega) (by omega) (fun j x y hj => by omega) (by omega)

theorem rise_take {l : List S29} (h : Rise l) (n : Nat) : Rise (l.take n) := by
  intro i x y hx hy
  have hi : i + 1 < n := by
    have := (List.getElem?_eq_some_iff.1 hy).1
    rw [List.length_take] at this
    omega
  rw [List.getElem?_take_of_lt (by omega)] at hx
  rw [List.getElem?_take_of_lt (by omega)] at hy
  exact h i x y hx hy

theorem rdiffer_eq (a b : List S29) (ha : a.length * 40 ≤ 140737488351232) (k : Nat) (hk : a.length + a.length + 1 < k) : ∃ r, isochronref20_Differ.f k a b = some r ∧ Dif a b r := by
  unfold isochronref20_Differ.f
  exact rdiffer_loop a b ha a.length k 0 (by omega) (Nat.zero_le _) rfl (by omega)
theorem rbegins_eq (a b : List S29) (ha : a.length * 40 ≤ 140737488351232) (k : Nat) (hk : a.length + b.length < k) : ∃ r, isochronref20_Begins.f k a b = some r ∧ (r = true ↔ a.take b.length = b) := by
  unfold isochronref20_Begins.f
  by_cases hl : b.length ≤ a.length
  · rw [if_neg (by omega)]
    exact rbegins_loop a b hl ha b.length k 0 (by omega) rfl (by omega)
  · rw [if_pos (by omega)]
    refine ⟨false, rfl, ?_⟩
    constructor
    · intro h; cases h
    · intro h
      exfalso
      have : (a.take b.length).length = b.length := by rw [h]
      rw [List.length_take] at this
      omega
end Go.Proofs.Ytcfhkapalcfpiaa.Pure
