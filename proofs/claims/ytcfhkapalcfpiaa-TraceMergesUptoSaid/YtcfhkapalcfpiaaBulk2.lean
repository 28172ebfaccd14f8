/- What the bound of a second form gives for a slice of slices: how long they are together. No law is proved here. -/
import Derived.Test.YtcfhkapalcfpiaaBulk
set_option linter.unusedVariables false
namespace Go.Proofs.Ytcfhkapalcfpiaa.Bulk
open Go.ChangeShapes Go.WideShapes Go.Deep Go.RowKit Go.Proofs.Ytcfhkapalcfpiaa.Open Go.Proofs.YtcfhkapalcfpiaaW.PrintWords
theorem bulk_map {H : Type} (D : Nat → DataW H) {α : Type} (l : List (List α)) (h : ∀ i (hi : i < l.length), (l[i]).length ≤ Rows.uptoBulk (D i)) : l.flatten.length ≤ Rows.uptoBulkAll ((List.range l.length).map D) := by
  induction l generalizing D with
  | nil => simp
  | cons x r ih =>
    rw [List.flatten_cons, List.length_append, List.length_cons, List.range_succ_eq_map, List.map_cons, List.map_map]
    have h0 := h 0 (by simp)
    have h1 := ih (fun i => D (i + 1)) (fun i hi => h (i + 1) (by simpa using hi))
    have h2 : (List.range r.length).map (D ∘ Nat.succ) = (List.range r.length).map (fun i => D (i + 1)) := rfl
    rw [h2]
    simp only [Rows.uptoBulkAll]
    have h3 : (x :: r)[0] = x := rfl
    rw [h3] at h0
    omega
theorem flat_bulk {H : Type} {enc : TypeId × Value → H} {P : Program} {W : World} {base : Nat} {spare : Nat → Bool} {held : Bool} {t e e2 : TypeId} {a : Option Addr} {len cap : Nat} {d : DataW H} {ps : List MemPlace} {α : Type} {k : Kd α} {l : List (List α)}
    (hu : P.underlying t = some (.slice e)) (hc : P.cellsOf e = 1) (he : P.underlying e = some (.slice e2)) (h : DataW.Trod enc P W base spare held t (.slice a len cap) d ps) (hr : Kd.C (Kd.slice e2 k) W a len l) : l.flatten.length ≤ Rows.uptoBulk d := by
  obtain ⟨fuel, hf⟩ := h
  have hll := hr.1
  rcases open_slice1 hu hc hf with ⟨hcs, _⟩ | ⟨x, l', c, m, n, V, D, Pl, hcs, _, hl, _, hm, hx, hi⟩
  · simp [Value.cells] at hcs
    obtain ⟨rfl, rfl, rfl⟩ := hcs
    obtain rfl : l = [] := List.eq_nil_of_length_eq_zero hll
    simp
  · simp [Value.cells] at hcs
    obtain ⟨rfl, rfl, rfl⟩ := hcs
    obtain ⟨hx, _⟩ := Prod.mk.inj hx
    subst hx
    have hlm : len ≤ m := by rw [hm]; split <;> omega
    subst hll
    have h1 := bulk_map D l (fun i hil => by
      obtain ⟨hv, ht⟩ := hi i (by omega)
      obtain ⟨ad, e', hcell⟩ := hr.2.2 (by omega)
      cases e'
      obtain ⟨cs, _, hK, hc0⟩ := hcell i _ (List.getElem?_eq_getElem hil)
      obtain ⟨A, c2, rfl, _, _⟩ := hK
      have h2 := hc0 0 _ rfl
      have h3 : i * (Kd.slice e2 k).sz + 0 = i := by show i * 1 + 0 = i; omega
      rw [h3, hv] at h2
      injection h2 with h2
      rw [h2] at ht
      exact len_bulk he ⟨n, ht⟩)
    simp only [Rows.uptoBulk]
    omega
end Go.Proofs.Ytcfhkapalcfpiaa.Bulk
