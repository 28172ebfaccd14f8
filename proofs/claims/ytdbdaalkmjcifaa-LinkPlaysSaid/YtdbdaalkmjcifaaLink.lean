/- The contracts of package link's ways: what each call does to a way that New made. No law is proved here. -/
import Derived.Test.YtdbdaalkmjcifaaTypes
import Derived.Test.YtdbdaalkmjcifaaRow
import Derived.Deep.RegionLaw
import Derived.Deep.RegionHeld3
import Derived.StillTailTactics
import Derived.Deep.QuietTactic
import Derived.BigQuiet
import Derived.Test.YtdbdaalkmjcifaaPLinkRoomx1
set_option linter.unusedVariables false
set_option linter.unusedSimpArgs false
namespace Go.Proofs.Ytdbdaalkmjcifaa.Link
open Go.Proofs Go.RowKit Go.Sort Go.Proofs.Ytdbdaalkmjcifaa.Types Go.Proofs.Ytdbdaalkmjcifaa.Heap Go.Proofs.Ytdbdaalkmjcifaa.Row Go.Proofs.YtdbdaalkmjcifaaW.PrintWords Go.Proofs.YtdbdaalkmjcifaaW.PrintLast Go.Proofs.YtdbdaalkmjcifaaW.PrintMore
attribute [local go_sem] max2_int min2_int max_two min_two max_three min_three max_four min_four
theorem unhide {p : Prop} (h : Hid p) : p := h
abbrev Pc := S35
abbrev Lk := S28
theorem flatP : Flat c35 8 := ⟨fun _ => rfl, fun x v hv => by
  unfold c35 at hv
  simp only [List.mem_cons, List.not_mem_nil, or_false] at hv
  rcases hv with rfl | rfl | rfl | rfl | rfl | rfl | rfl | rfl <;> rfl, by omega⟩
def zP : Value := .agg #[.int .i64 0, .int .i64 0, .int .i64 0, .int .i64 0, .int .i64 0, .int .i64 0, .bool false, .int .i64 0]
theorem infoP : (Try.prog.info? 35).map (fun i => (i.zero, i.size, i.bytes)) = some (some zP, 8, 64) := by kernel_rfl
abbrev OwnP (w : World) (base : Nat) (v : Value) (l : List Pc) : Prop := Own c35 8 35 w base v l
/-- A way's cells. -/
def cellsW (L : Lk) (most : Int) (v : Value) : Array Value := #[.int .i64 L.f0, .int .i64 L.f1, .int .i64 L.f2, .bool L.f3, .int .i64 most, v]
/-- A way at block p (struct type t), of link L, of at most 'most', with l on it; its row's value is v. -/
structure WayAt (t : Nat) (w : World) (base p : Nat) (L : Lk) (most : Int) (v : Value) (l : List Pc) : Prop where
  blk : Blk w p t (cellsW L most v)
  own : OwnP w base v l
  ne : ∀ b, v.ownBlock = some b → b ≠ p
section
variable {t : Nat} {w w' : World} {base p : Nat} {L : Lk} {most : Int} {v : Value} {l : List Pc}
theorem WayAt.c0 (h : WayAt t w base p L most v l) : w.cell? ⟨p, 0, none⟩ = some (.int .i64 L.f0) := h.blk.cell 0
theorem WayAt.c1 (h : WayAt t w base p L most v l) : w.cell? ⟨p, 1, none⟩ = some (.int .i64 L.f1) := h.blk.cell 1
theorem WayAt.c3 (h : WayAt t w base p L most v l) : w.cell? ⟨p, 3, none⟩ = some (.bool L.f3) := h.blk.cell 3
theorem WayAt.c4 (h : WayAt t w base p L most v l) : w.cell? ⟨p, 4, none⟩ = some (.int .i64 most) := h.blk.cell 4
theorem WayAt.c5 (h : WayAt t w base p L most v l) : w.cell? ⟨p, 5, none⟩ = some v := h.blk.cell 5
theorem WayAt.below (h : WayAt t w base p L most v l) (hb : Below w.heap.size w w') : WayAt t w' base p L most v l := ⟨h.blk.below' hb, h.own.below hb, h.ne⟩
theorem WayAt.only {S : Nat → Prop} (h : WayAt t w base p L most v l) (hb : Only w w' S) (hp : ¬ S p) (hv : ∀ b, v.ownBlock = some b → ¬ S b) : WayAt t w' base p L most v l := ⟨h.blk.only hb hp, h.own.only hb hv, h.ne⟩
theorem WayAt.drew (h : WayAt t w base p L most v l) : WayAt t w.drew base p L most v l := ⟨h.blk, h.own, h.ne⟩
theorem WayAt.drewN (h : WayAt t w base p L most v l) (n : Nat) : WayAt t (w.drewN n) base p L most v l := ⟨h.blk, h.own, h.ne⟩
theorem WayAt.alloc (h : WayAt t w base p L most v l) (o : Obj) : WayAt t (w.alloc o) base p L most v l := ⟨h.blk.alloc o, h.own.alloc o, h.ne⟩
end
abbrev tW : Nat := 52
theorem none_call (w : World) (base p : Nat) (L : Lk) (most : Int) (v : Value) (l : List Pc) (h : WayAt tW w base p L most v l) (hm : most ≠ 0) :
    Calls Try.prog 27 #[.pointer (some ⟨p, 0, none⟩)] w fun e w' => e = .returned (.bool false) ∧ w = w' := by
  have c4 := h.c4
  have hm2 : (most == 0) = false := by simpa using hm
  clear h hm
  go_enter Try.func27, Try.ntmps27
  go_wp2
  go_ret
  exact ⟨rfl, rfl⟩
theorem len_call (w : World) (base p : Nat) (L : Lk) (most : Int) (A : Option Addr) (c : Nat) (l : List Pc) (h : WayAt tW w base p L most (.slice A l.length c) l) (hm : most ≠ 0) :
    Calls Try.prog 11 #[.pointer (some ⟨p, 0, none⟩)] w fun e w' => e = .returned (.int .i64 (l.length : Nat)) ∧ w = w' := by
  have c5 := h.c5
  have H := hide (none_call w base p L most _ l h hm)
  clear h
  go_enter Try.func11, Try.ntmps11
  go_wp2_with (go_at_call 27; refine (unhide H).mono ?_; rintro e w' ⟨rfl, rfl⟩)
  go_ret
  exact ⟨rfl, rfl⟩
def room (most : Int) (n : Nat) : Int := if (n : Int) < most then most - n else 0
theorem room_call (w : World) (base p : Nat) (L : Lk) (most : Int) (A : Option Addr) (c : Nat) (l : List Pc) (h : WayAt tW w base p L most (.slice A l.length c) l) (hm : 1 ≤ most) (hm2 : most ≤ 1024) (hl : l.length < 4611686018427387904) :
    Calls Try.prog 12 #[.pointer (some ⟨p, 0, none⟩)] w fun e w' => e = .returned (.int .i64 (room most l.length)) ∧ ∃ n, w' = w.drewN n := by
  have c5 := h.c5
  have c4 := h.c4
  have H := hide (none_call w base p L most _ l h (by omega))
  unfold room
  clear h
  by_cases hc : (l.length : Int) < most
  · rw [if_pos hc]
    go_enter Try.func12, Try.ntmps12
    go_wp2_with (go_at_call 27; refine (unhide H).mono ?_; rintro e w' ⟨rfl, rfl⟩)
    go_quiet (fail)
    go_wp2
    go_ret
    exact ⟨rfl, _, rfl⟩
  · rw [if_neg hc]
    go_enter Try.func12, Try.ntmps12
    go_wp2_with (go_at_call 27; refine (unhide H).mono ?_; rintro e w' ⟨rfl, rfl⟩)
    go_quiet (fail)
    go_wp2
    go_ret
    exact ⟨rfl, _, rfl⟩
theorem lane_call (n : Int) (w : World) : Calls Try.prog 26 #[.int .i64 n] w fun e w' => e = .returned (.bool (decide (0 ≤ n ∧ n < 16))) ∧ w = w' := by
  by_cases h : 0 ≤ n
  · by_cases h2 : n < 16
    · rw [decide_eq_true (And.intro h h2)]
      go_enter Try.func26, Try.ntmps26
      go_wp2
      go_ret
      exact ⟨rfl, rfl⟩
    · rw [decide_eq_false (fun q => h2 q.2)]
      go_enter Try.func26, Try.ntmps26
      go_wp2
      go_ret
      exact ⟨rfl, rfl⟩
  · rw [decide_eq_false (fun q => h q.1)]
    go_enter Try.func26, Try.ntmps26
    go_wp2
    go_ret
    exact ⟨rfl, rfl⟩
/-- May a message be? -/
def may (m : S33) : Bool := decide (0 ≤ m.f0.f0 ∧ m.f0.f0 ≤ 4611686018427387903 ∧ (m.f0.f1 = -1 ∨ (0 ≤ m.f0.f1 ∧ m.f0.f1 < 16)) ∧ 0 ≤ m.f1 ∧ m.f1 < 16 ∧ 0 ≤ m.f0.f2 ∧ 0 ≤ m.f3)
theorem check_call (m : S33) (w : World) : Calls Try.prog 15 #[.agg (c33 m).toArray] w fun e w' => e = .returned (.int .i64 (if may m = true then 0 else 1)) ∧ Below w.heap.size w w' := by
  refine PLinkRoom.event_Check.calls m.f0.f0 m.f0.f1 m.f0.f2 m.f1 m.f2 m.f3 m.f4 _ w ?_
  unfold PLinkRoom.event_Check.f PLinkRoom.vtime_Valid.f PLinkRoom.event_lane.f may mn
  by_cases a1 : 0 ≤ m.f0.f0 <;> by_cases a2 : m.f0.f0 ≤ 4611686018427387903 <;> by_cases a3 : 0 ≤ m.f0.f1 <;> by_cases a4 : m.f0.f1 < 16 <;> by_cases a5 : m.f0.f1 = -1 <;> by_cases a6 : 0 ≤ m.f1 <;> by_cases a7 : m.f1 < 16 <;> by_cases a8 : 0 ≤ m.f0.f2 <;> by_cases a9 : 0 ≤ m.f3 <;> first | omega | (simp [a1, a2, a3, a4, a5, a6, a7, a8, a9] <;> (try split) <;> (try omega)) 
end Go.Proofs.Ytdbdaalkmjcifaa.Link
