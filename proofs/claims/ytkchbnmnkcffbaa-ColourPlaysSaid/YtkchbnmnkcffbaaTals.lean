/- A row of tallies: their blocks and what they hold. No law is proved here. -/
import Derived.Test.YtkchbnmnkcffbaaToken
import Derived.Test.YtkchbnmnkcffbaaRow
namespace Go.Proofs.Ytkchbnmnkcffbaa.Colour
open Go.RowKit Go.Sort Go.Proofs.Ytkchbnmnkcffbaa.GrK Go.Proofs.Ytkchbnmnkcffbaa.Types Go.Proofs.Ytkchbnmnkcffbaa.Heap Go.Proofs.Ytkchbnmnkcffbaa.Row Go.Proofs.YtkchbnmnkcffbaaW.PrintWords Go.Proofs.YtkchbnmnkcffbaaW.PrintLast Go.Proofs.YtkchbnmnkcffbaaW.PrintMore
set_option linter.unusedVariables false
set_option linter.unusedSimpArgs false
def encP (p : Nat) : List Value := [.pointer (some ⟨p, 0, none⟩)]
def kP : Kd Nat where
  sz := 1
  E := []
  K := fun _ p cs => cs = encP p
  M := fun _ _ _ _ _ => False
  K_len := fun h => by rw [h]; rfl
  K_one := fun h u hu => by rw [h] at hu; unfold encP at hu; simp only [List.mem_singleton] at hu; subst hu; rfl
  K_below := fun _ h => h
  K_of_M := fun h => h.elim
  M_mono := fun _ h => h
  M_bound := fun h => h.elim
  M_move := fun _ h => h
  M_lower := fun _ h => h
theorem kP_mk (w : World) (p : Nat) : kP.K w p (encP p) := rfl
theorem kP_open {w : World} {p : Nat} {cs : List Value} (h : kP.K w p cs) : cs = encP p := h
theorem flatP : Flat encP 1 := ⟨fun _ => rfl, fun p u hu => by unfold encP at hu; simp only [List.mem_singleton] at hu; subst hu; rfl, by omega⟩
theorem infoP : (Try.prog.info? 23).map (fun i => (i.zero, i.size, i.bytes)) = some (some (.pointer none), 1, 8) := by kernel_rfl
abbrev OwnP (w : World) (base : Nat) (v : Value) (l : List Nat) : Prop := Own encP 1 23 w base v l
structure TS where
  c : Int
  n0 : Int
  n1 : Int
  m : Int
abbrev ts0 : TS := ⟨0, 0, 0, NV⟩
def TlS (w : World) (p : Nat) (s : TS) : Prop := Tl w p s.c s.n0 s.n1 s.m
/-- Tallies at the blocks ps, which hold ss. -/
structure TalsAt (w : World) (base : Nat) (v : Value) (ps : List Nat) (ss : List TS) : Prop where
  own : OwnP w base v ps
  len : ss.length = ps.length
  nd : ps.Nodup
  at_ : ∀ (j p : Nat) (s : TS), ps[j]? = some p → ss[j]? = some s → TlS w p s
section
variable {w w' : World} {base : Nat} {v : Value} {ps : List Nat} {ss : List TS}
theorem TalsAt.below (h : TalsAt w base v ps ss) (hb : Below w.heap.size w w') : TalsAt w' base v ps ss :=
  ⟨h.own.below hb, h.len, h.nd, fun j p s hp hs => Blk.below' (h.at_ j p s hp hs) hb⟩
theorem TalsAt.ex (h : TalsAt w base v ps ss) {j p : Nat} (hp : ps[j]? = some p) : ∃ s, ss[j]? = some s ∧ TlS w p s := by
  have hj : j < ps.length := (List.getElem?_eq_some_iff.1 hp).1
  have hj2 : j < ss.length := by rw [h.len]; exact hj
  exact ⟨ss[j], List.getElem?_eq_getElem hj2, h.at_ j p ss[j] hp (List.getElem?_eq_getElem hj2)⟩
theorem TalsAt.own_ne (h : TalsAt w base v ps ss) {j p : Nat} (hp : ps[j]? = some p) : v.ownBlock ≠ some p := by
  obtain ⟨s, _, ht⟩ := h.ex hp
  exact own_blk_ne h.own ht (by decide)
/-- Behind a call that writes the tally of j, and a block q that is none of them. -/
theorem TalsAt.set_ (h : TalsAt w base v ps ss) {q j p : Nat} (hp : ps[j]? = some p) (hO : Only w w' (fun b => b = q ∨ b = p)) (hq : ∀ (i p' : Nat), ps[i]? = some p' → p' ≠ q) (hv : v.ownBlock ≠ some q) {s : TS} (ht : TlS w' p s) : TalsAt w' base v ps (ss.set j s) := by
  refine ⟨h.own.only hO (fun b hb e => ?_), by rw [List.length_set]; exact h.len, h.nd, fun i p' s' hi hs => ?_⟩
  · rcases e with e | e
    · exact hv (e ▸ hb)
    · exact h.own_ne hp (e ▸ hb)
  · by_cases e : i = j
    · subst e
      rw [hp] at hi
      injection hi with hi
      subst hi
      obtain ⟨s0, h0, _⟩ := h.ex hp
      have hlt : i < ss.length := (List.getElem?_eq_some_iff.1 h0).1
      rw [List.getElem?_set_self hlt] at hs
      injection hs with hs
      subst hs
      exact ht
    · rw [List.getElem?_set_ne (fun q => e q.symm)] at hs
      refine Blk.only (h.at_ i p' s' hi hs) hO (fun q2 => ?_)
      rcases q2 with q2 | q2
      · exact hq i p' hi q2
      · subst q2
        obtain ⟨hi1, hi2⟩ := List.getElem?_eq_some_iff.1 hi
        obtain ⟨hj1, hj2⟩ := List.getElem?_eq_some_iff.1 hp
        have hpw := List.pairwise_iff_getElem.1 h.nd
        rcases Nat.lt_trichotomy i j with g | g | g
        · exact hpw i j hi1 hj1 g (hi2.trans hj2.symm)
        · exact e g
        · exact hpw j i hj1 hi1 g (hj2.trans hi2.symm)
theorem TalsAt.nil (w : World) (base : Nat) : TalsAt w base (.slice none 0 0) [] [] := ⟨Own.nil _ _ _ _ _, rfl, List.nodup_nil, fun j p s hp => by simp at hp⟩
/-- Behind an append of a new tally. -/
theorem TalsAt.snoc {p : Nat} {s : TS} {v' : Value} (h : TalsAt w base v ps ss) (ho : OwnP w' base v' (ps ++ [p])) (hO : ∀ (j p' : Nat) (s' : TS), ps[j]? = some p' → ss[j]? = some s' → TlS w' p' s') (ht : TlS w' p s) (hn : ∀ (j p' : Nat), ps[j]? = some p' → p' ≠ p) : TalsAt w' base v' (ps ++ [p]) (ss ++ [s]) := by
  refine ⟨ho, by simp [h.len], ?_, fun j p' s' hp hs => ?_⟩
  · rw [List.nodup_append]
    refine ⟨h.nd, by simp, fun a ha b hb => ?_⟩
    obtain ⟨j, hj, rfl⟩ := List.getElem_of_mem ha
    simp only [List.mem_singleton] at hb
    subst hb
    exact hn j _ (List.getElem?_eq_getElem hj)
  · rcases Nat.lt_or_ge j ps.length with g | g
    · rw [List.getElem?_append_left g] at hp
      rw [List.getElem?_append_left (by rw [h.len]; exact g)] at hs
      exact hO j p' s' hp hs
    · rw [List.getElem?_append_right g] at hp
      rw [List.getElem?_append_right (by rw [h.len]; exact g), h.len] at hs
      obtain ⟨k, hk⟩ : ∃ k, j - ps.length = k := ⟨_, rfl⟩
      rw [hk] at hp hs
      cases k with
      | zero => simp at hp hs; subst hp hs; exact ht
      | succ k => simp at hp
end
theorem at_P {w : World} {base : Nat} {A : Option Addr} {c : Nat} {ps : List Nat} (h : OwnP w base (.slice A ps.length c) ps) {j p : Nat} (hp : ps[j]? = some p) : ∃ g, A = some ⟨g, 0, none⟩ ∧ w.cell? ⟨g, j, none⟩ = some (.pointer (some ⟨p, 0, none⟩)) := by
  have hj : j < ps.length := (List.getElem?_eq_some_iff.1 hp).1
  obtain ⟨A', c', hv, _, h3⟩ := h.slice
  cases hv
  obtain ⟨g, rfl⟩ := h3 (by omega)
  refine ⟨g, rfl, ?_⟩
  have := World.ownsRow.cells h (g := g) rfl j (.pointer (some ⟨p, 0, none⟩)) (by
    have h4 := get_flat_at (enc := encP) (k := 1) flatP ps (i := j) (j := 0) hj (by omega)
    rw [Nat.mul_one, Nat.add_zero] at h4
    rw [h4]
    obtain ⟨_, h5⟩ := List.getElem?_eq_some_iff.1 hp
    rw [h5]
    rfl)
  have hadd : (⟨g, 0, none⟩ : Addr).add j = ⟨g, j, none⟩ := by unfold Addr.add; split <;> simp_all
  rwa [hadd] at this
theorem at_int {w : World} {A : Option Addr} {n : Nat} {xs : List Int} (h : Kd.C (Kd.int .i64) w A n xs) {i : Nat} (hi : i < xs.length) : ∃ ad, A = some ad ∧ w.cell? (ad.add i) = some (.int .i64 xs[i]) := by
  obtain ⟨ad, e, hcell⟩ := h.2.2 (by have := h.1; omega)
  obtain ⟨c, _, hK, hc0⟩ := hcell i _ (List.getElem?_eq_getElem hi)
  have hK' : c = [.int .i64 xs[i]] := hK
  subst hK'
  have := hc0 0 (.int .i64 xs[i]) rfl
  have h2 : i * (Kd.int .i64).sz + 0 = i := by show i * 1 + 0 = i; omega
  rw [h2] at this
  exact ⟨ad, e, this⟩
end Go.Proofs.Ytkchbnmnkcffbaa.Colour
