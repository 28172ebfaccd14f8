/- The calendar's state; none, New, day, Len. No law is proved here. -/
import Derived.Test.YtmgjnabenemghaaCPure
import Derived.Test.YtmgjnabenemghaaGrK
import Derived.Test.YtmgjnabenemghaaLex
import Derived.Maps.RangeWalk
import Derived.StillTailTactics
import Derived.Deep.RegionHeld3
import Derived.Deep.QuietTactic
import Derived.Deep.RegionLaw
import Derived.Deep.RegionWith
import Derived.BigQuiet
import Derived.WalkSpells
namespace Go.Proofs.Ytmgjnabenemghaa.CQ
open Go.Proofs Go.Shelf Go.RowKit Go.Deep Go.Sort Go.Maps Go.WideShapes Go.Proofs.Ytmgjnabenemghaa.SortPure Go.Proofs.Ytmgjnabenemghaa.Types Go.Proofs.Ytmgjnabenemghaa.Heap Go.Proofs.Ytmgjnabenemghaa.Row Go.Proofs.Ytmgjnabenemghaa.Ord Go.Proofs.Ytmgjnabenemghaa.Sorted Go.Proofs.YtmgjnabenemghaaW.PrintWords Go.Proofs.YtmgjnabenemghaaW.PrintLast Go.Proofs.YtmgjnabenemghaaW.PrintMore
set_option linter.unusedVariables false
set_option linter.unusedSimpArgs false
abbrev cM (x : M) : List Value := c25 x
abbrev kM := k25
abbrev tC : TypeId := 45
abbrev tMap : TypeId := 43
abbrev tD : TypeId := 2
abbrev tL : TypeId := 26
/-- A row of messages is read as before where its block has not turned. -/
theorem C_only {w w' : World} {A : Option Addr} {n : Nat} {l : List M} {S : Nat → Prop} (h : Kd.C kM w A n l) (hO : Only w w' S) (hA : ∀ ad, A = some ad → 0 < n → ¬ S ad.block) : Kd.C kM w' A n l :=
  ⟨h.1, h.2.1, fun hn => by
    obtain ⟨ad, e, hc⟩ := h.2.2 hn
    refine ⟨ad, e, fun j p hj => ?_⟩
    obtain ⟨c, hs, hr, hcell⟩ := hc j p hj
    have hr' : c = c25 p := k25_open hr
    refine ⟨c, hs, by rw [hr']; exact k25_mk _ _, fun i u hu => ?_⟩
    have h1 := hcell i u hu
    have hb : (ad.add (j * kM.sz + i)).block = ad.block := by unfold Addr.add; split <;> rfl
    rw [hO.cell (block_lt_of_cell h1) (by rw [hb]; exact hA ad e hn)]
    exact h1⟩
/-- An element of the days reads as the slice that it is. -/
def RS : Value → Option (DataW Value × List MemPlace)
  | .slice A n c => some (.held (.slice A n c), [])
  | _ => none
theorem RS_mk (A : Option Addr) (n c : Nat) : RS (.slice A n c) = some (.held (.slice A n c), []) := rfl
theorem RS_inv (v : Value) (y : DataW Value × List MemPlace) (h : RS v = some y) : ∃ p : Option Addr × Nat × Nat, v = .slice p.1 p.2.1 p.2.2 := by
  cases v <;> simp [RS] at h
  exact ⟨(_, _, _), rfl⟩
theorem RS_held {v : Value} {d : Value} {ps : List MemPlace} (h : RS v = some (.held d, ps)) : v = d := by
  cases v <;> simp [RS] at h
  exact h.1
theorem lawD : Keyed Try.prog tD := int_keyed Try.underlying2
theorem uMap : Try.prog.underlying tMap = some (.map tD tL) := Try.underlying43
def wfI (d : Int) : Prop := (Lit.int .i64 d).wf = true
theorem wfI_iff {d : Int} : wfI d ↔ -9223372036854775808 ≤ d ∧ d ≤ 9223372036854775807 := by
  have e1 : IntKind.i64.min = -9223372036854775808 := by decide
  have e2 : IntKind.i64.max = 9223372036854775807 := by decide
  simp [wfI, Lit.wf, e1, e2]
theorem wfI_day {wd : Int} (hw : 1 ≤ wd) {t : Int} (h : wfI t) : wfI (t / wd) := by
  rw [wfI_iff] at h ⊢
  obtain ⟨h1, h2⟩ := h
  constructor
  · rcases Int.lt_or_le t 0 with q | q
    · have : t ≤ t / wd := by
        rw [Int.le_ediv_iff_mul_le (by omega)]
        have := Int.mul_le_mul_of_nonpos_left (a := t) (Int.le_of_lt q) hw
        simpa using this
      omega
    · have := Int.ediv_nonneg q (show 0 ≤ wd by omega); omega
  · rcases Int.lt_or_le t 0 with q | q
    · have := Int.ediv_neg_of_neg_of_pos q (show 0 < wd by omega); omega
    · have := Int.ediv_le_self wd q; omega
/-- What the map of days says of the list. -/
def Rep (w : World) (P : Nat → Prop) (wd : Int) (sl : List M) (D : DataW Value) : Prop := ∀ d : Int, (row wd sl d = [] → Maps.has D (.int .i64 d) = false) ∧
  (row wd sl d ≠ [] → Maps.has D (.int .i64 d) = true ∧ ∃ (A : Option Addr) (c : Nat), (∀ z, D.atKey (.int .i64 d) z = .held (.slice A (row wd sl d).length c)) ∧ (row wd sl d).length ≤ c ∧ Kd.C kM w A (row wd sl d).length (row wd sl d) ∧ ∀ ad, A = some ad → P ad.block)
/-- A calendar at g, its map in block b; it holds sl. -/
structure CAt (w : World) (P : Nat → Prop) (g b : Nat) (wd : Int) (sl : List M) : Prop where
  blk : Blk w g tC #[.int .i64 wd, .map (some b), .int .i64 (sl.length : Nat)]
  days : ∃ D : DataW Value, w.ownsMap Try.prog tD RS b (Maps.size D) D ∧ Rep w P wd sl D
  lt : ¬ P b ∧ ¬ P g ∧ b ≠ g
  wd1 : 1 ≤ wd
  wfw : wfI wd
  tm : ∀ m ∈ sl, wfI m.f0.f0
  srt : Srt befM sl
  uq : Uq sl
  len : sl.length ≤ 16384
theorem owns_size {w : World} {b n : Nat} {D : DataW Value} (h : w.ownsMap Try.prog tD RS b n D) : w.ownsMap Try.prog tD RS b (Maps.size D) D := by
  obtain ⟨es, clock, hb, F, hs, rfl⟩ := h
  exact ⟨es, clock, hb, F, by simp [Maps.size, length_sorted], rfl⟩
theorem owns_only {w w' : World} {b n : Nat} {D : DataW Value} {S : Nat → Prop} (h : w.ownsMap Try.prog tD RS b n D) (hO : Only w w' S) (hb : ¬ S b) : w'.ownsMap Try.prog tD RS b n D := by
  have hlt := h.lt
  obtain ⟨es, clock, hb', F, hs, hD⟩ := h
  exact ⟨es, clock, (hO.block b hlt hb).trans hb', F, hs, hD⟩
theorem owns_below {w w' : World} {b n : Nat} {D : DataW Value} (h : w.ownsMap Try.prog tD RS b n D) (hB : Below w.heap.size w w') : w'.ownsMap Try.prog tD RS b n D := by
  have hlt := h.lt
  obtain ⟨es, clock, hb', F, hs, hD⟩ := h
  exact ⟨es, clock, (hB.block b hlt).trans hb', F, hs, hD⟩
theorem nodup_le {α : Type} : ∀ {l l' : List α}, l.Pairwise (fun a b => a ≠ b) → (∀ x ∈ l, x ∈ l') → l.length ≤ l'.length
  | [], _, _, _ => Nat.zero_le _
  | x :: l, l', hp, hs => by
    obtain ⟨a, b, rfl⟩ := List.append_of_mem (hs x List.mem_cons_self)
    obtain ⟨h1, h2⟩ := List.pairwise_cons.1 hp
    have := nodup_le (l' := a ++ b) h2 (fun y hy => by
      rcases List.mem_append.1 (hs y (List.mem_cons_of_mem _ hy)) with q | q
      · exact List.mem_append.2 (.inl q)
      · rcases List.mem_cons.1 q with q | q
        · exact absurd q.symm (h1 y hy)
        · exact List.mem_append.2 (.inr q))
    simp at this ⊢
    omega
theorem owns_keys {w : World} {b n : Nat} {D : DataW Value} (h : w.ownsMap Try.prog tD RS b n D) : ∃ es : List (Lit × DataW Value), D = .map es ∧ es.Pairwise (fun p q => p.1 ≠ q.1) ∧ ∀ p ∈ es, ∃ d, p.1 = .int .i64 d ∧ wfI d := by
  obtain ⟨es, clock, _, F, _, rfl⟩ := h
  refine ⟨_, rfl, ((sorted_perm _).pairwise_iff (fun {_ _} hne => Ne.symm hne)).2 (Maps.fit_apart lawD F), fun p hp => ?_⟩
  obtain ⟨x, hx, rfl⟩ := List.mem_map.1 (mem_sorted.1 hp)
  obtain ⟨y, hy⟩ := F.reads x hx
  rw [WideElems.rg_of hy]
  obtain ⟨q, _, e, hw⟩ := Maps.keyOf_int_inv Try.underlying2 (WideElems.rd_key hy)
  exact ⟨q, e, hw⟩
theorem rep_size {w : World} {b n : Nat} {P : Nat → Prop} {wd : Int} {sl : List M} {D : DataW Value} (h : w.ownsMap Try.prog tD RS b n D) (hR : Rep w P wd sl D) : Maps.size D ≤ sl.length := by
  obtain ⟨es, rfl, hp, hk⟩ := owns_keys h
  have := nodup_le (l := es.map (·.1)) (l' := sl.map (fun m => Lit.int .i64 (m.f0.f0 / wd))) (by rw [List.pairwise_map]; exact hp) (fun x hx => by
    obtain ⟨p, hp, rfl⟩ := List.mem_map.1 hx
    obtain ⟨d, e, hw⟩ := hk p hp
    have hh : Maps.has (.map es) (.int .i64 d) = true := List.any_eq_true.2 ⟨p, hp, by rw [e]; exact WideAt.sameKey_self (lawD.key (v := .int .i64 d) (keyOf_int_mk Try.underlying2 hw))⟩
    have hn : row wd sl d ≠ [] := fun q => by rw [(hR d).1 q] at hh; cases hh
    obtain ⟨m, hm⟩ := List.exists_mem_of_ne_nil _ hn
    obtain ⟨h1, h2⟩ := mem_row.1 hm
    exact List.mem_map.2 ⟨m, h1, by rw [h2, e]⟩)
  simpa [Maps.size] using this
section
variable {w w' : World} {g b : Nat} {wd : Int} {sl : List M} {P : Nat → Prop}
theorem Rep.only {S : Nat → Prop} {D : DataW Value} (h : Rep w P wd sl D) (hO : Only w w' S) (hS : ∀ x, P x → ¬ S x) : Rep w' P wd sl D := fun d => ⟨(h d).1, fun hn => by
  obtain ⟨h1, A, c, h2, h3, h4, h5⟩ := (h d).2 hn
  exact ⟨h1, A, c, h2, h3, C_only h4 hO (fun ad e _ => hS _ (h5 ad e)), h5⟩⟩
theorem Rep.below {D : DataW Value} (h : Rep w P wd sl D) (hB : Below w.heap.size w w') : Rep w' P wd sl D := fun d => ⟨(h d).1, fun hn => by
  obtain ⟨h1, A, c, h2, h3, h4, h5⟩ := (h d).2 hn
  exact ⟨h1, A, c, h2, h3, C_below h4 hB, h5⟩⟩
theorem CAt.only {S : Nat → Prop} (h : CAt w P g b wd sl) (hO : Only w w' S) (hg : ¬ S g) (hb : ¬ S b) (hS : ∀ x, P x → ¬ S x) : CAt w' P g b wd sl := by
  obtain ⟨D, h1, h2⟩ := h.days
  exact ⟨h.blk.only hO hg, ⟨D, owns_only h1 hO hb, h2.only hO hS⟩, h.lt, h.wd1, h.wfw, h.tm, h.srt, h.uq, h.len⟩
theorem CAt.below (h : CAt w P g b wd sl) (hB : Below w.heap.size w w') : CAt w' P g b wd sl := by
  obtain ⟨D, h1, h2⟩ := h.days
  exact ⟨h.blk.below' hB, ⟨D, owns_below h1 hB, h2.below hB⟩, h.lt, h.wd1, h.wfw, h.tm, h.srt, h.uq, h.len⟩
theorem CAt.c0 (h : CAt w P g b wd sl) : w.cell? ⟨g, 0, none⟩ = some (.int .i64 wd) := h.blk.cell 0
theorem CAt.c1 (h : CAt w P g b wd sl) : w.cell? ⟨g, 1, none⟩ = some (.map (some b)) := h.blk.cell 1
theorem CAt.c2 (h : CAt w P g b wd sl) : w.cell? ⟨g, 2, none⟩ = some (.int .i64 (sl.length : Nat)) := h.blk.cell 2
end
/-- What a calendar that is there answers to none. -/
theorem none_call {w : World} {g b : Nat} (c1 : w.cell? ⟨g, 1, none⟩ = some (.map (some b))) : Calls Try.prog 20 #[.pointer (some ⟨g, 0, none⟩)] w fun e w' => e = .returned (.bool false) ∧ w' = w := by
  have qF : ∀ w, (binOp .eql tMap (.map (some b)) (.map none)).run Try.prog w = .ok (.bool false) w := fun w => run_eql_map_nil w _ _ _ (some b) uMap
  go_enter Try.func20, Try.ntmps20
  go_wp2
  go_ret
  exact ⟨rfl, rfl⟩
theorem len_call {w : World} {g b : Nat} {n : Int} (c1 : w.cell? ⟨g, 1, none⟩ = some (.map (some b))) (c2 : w.cell? ⟨g, 2, none⟩ = some (.int .i64 n)) : Calls Try.prog 11 #[.pointer (some ⟨g, 0, none⟩)] w fun e w' => e = .returned (.int .i64 n) ∧ w' = w := by
  have H := hide (none_call c1)
  go_enter Try.func11, Try.ntmps11
  go_wp2_with (go_at_call 20; refine H.out.mono ?_; rintro e w1 ⟨rfl, rfl⟩; clear H)
  go_ret
  exact ⟨rfl, rfl⟩
/-- Go's division, and its rest, against the day. -/
theorem day_parts (t wd : Int) (hw : 0 < wd) : (Int.tmod t wd < 0 → Int.tdiv t wd - 1 = t / wd) ∧ (¬ Int.tmod t wd < 0 → Int.tdiv t wd = t / wd) := by
  have h1 := Int.mul_tdiv_add_tmod t wd
  have h2 := Int.mul_ediv_add_emod t wd
  have h3 := Int.emod_nonneg t (show wd ≠ 0 by omega)
  have h4 := Int.emod_lt_of_pos t hw
  have h5 : -wd < Int.tmod t wd := Int.lt_tmod_of_pos t hw
  have h6 : Int.tmod t wd < wd := Int.tmod_lt_of_pos t hw
  have e : wd * (Int.tdiv t wd - t / wd) = t % wd - Int.tmod t wd := by rw [Int.mul_sub]; omega
  constructor
  · intro q
    have a1 : 0 < wd * (Int.tdiv t wd - t / wd) := by omega
    have a2 : wd * (Int.tdiv t wd - t / wd) < wd * 2 := by omega
    have b1 := Int.lt_of_mul_lt_mul_left (a := wd) (b := 0) (by simpa using a1) (Int.le_of_lt hw)
    have b2 := Int.lt_of_mul_lt_mul_left a2 (Int.le_of_lt hw)
    omega
  · intro q
    have a1 : wd * (-1) < wd * (Int.tdiv t wd - t / wd) := by omega
    have a2 : wd * (Int.tdiv t wd - t / wd) < wd * 1 := by omega
    have b1 := Int.lt_of_mul_lt_mul_left a1 (Int.le_of_lt hw)
    have b2 := Int.lt_of_mul_lt_mul_left a2 (Int.le_of_lt hw)
    omega
theorem day_call {w : World} {g : Nat} {wd t : Int} (hw : 1 ≤ wd) (ht : wfI t) (c0 : w.cell? ⟨g, 0, none⟩ = some (.int .i64 wd)) : Calls Try.prog 22 #[.pointer (some ⟨g, 0, none⟩), .int .i64 t] w fun e w' => e = .returned (.int .i64 (t / wd)) ∧ w' = w := by
  obtain ⟨p1, p2⟩ := day_parts t wd (by omega)
  have hd := wfI_iff.1 (wfI_day hw ht)
  have hn : wd ≠ 0 := by omega
  have hn1 : (wd == 0) = false := by simpa using hn
  by_cases q : Int.tmod t wd < 0
  · have e1 := p1 q
    have ht0 : t < 0 := by
      rcases Int.lt_or_le t 0 with h | h
      · exact h
      · have := Int.tmod_nonneg wd h; omega
    have hn0 := Int.ediv_neg_of_neg_of_pos ht0 (show 0 < wd by omega)
    have q1 : wrap64 (Int.tdiv t wd) = t / wd + 1 := by rw [IntWalk.wrap64_in _ (by omega)]; omega
    have q3 : wrap64 (t / wd) = t / wd := IntWalk.wrap64_in _ hd
    have q2 : wrap64 (t / wd + 1 - 1) = t / wd := by rw [IntWalk.wrap64_in _ (by omega)]; omega
    have q4 : wrap64 (wrap64 (Int.tdiv t wd) - 1) = t / wd := by rw [q1, q2]
    clear p1 p2 e1 hd hn0
    go_enter Try.func22, Try.ntmps22
    go_wp2
    go_ret
    refine ⟨?_, rfl⟩
    first
      | rfl
      | (show Ending.returned (.int .i64 (wrap64 (t / wd))) = _; rw [q3])
      | (show Ending.returned (.int .i64 (wrap64 (wrap64 (Int.tdiv t wd) - 1))) = _; rw [q4])
  · have q1 : wrap64 (Int.tdiv t wd) = t / wd := by rw [p2 q]; exact IntWalk.wrap64_in _ hd
    clear p1 p2 hd
    go_enter Try.func22, Try.ntmps22
    go_wp2
    go_ret
    refine ⟨?_, rfl⟩
    first
      | rfl
      | (show Ending.returned (.int .i64 (wrap64 (Int.tdiv t wd))) = _; rw [q1])
end Go.Proofs.Ytmgjnabenemghaa.CQ
