/- Messages with their places for numbers; what a calendar's blocks are behind a step elsewhere. No law is proved here. -/
import Derived.Test.YtmgjnabenemghaaCI
namespace Go.Proofs.Ytmgjnabenemghaa.CQ
open Go.Proofs Go.Shelf Go.RowKit Go.Deep Go.Sort Go.Maps Go.Proofs.Ytmgjnabenemghaa.SortPure Go.Proofs.Ytmgjnabenemghaa.Types Go.Proofs.Ytmgjnabenemghaa.Heap Go.Proofs.Ytmgjnabenemghaa.Row Go.Proofs.Ytmgjnabenemghaa.Ord Go.Proofs.Ytmgjnabenemghaa.Sorted Go.Proofs.YtmgjnabenemghaaW.PrintWords Go.Proofs.YtmgjnabenemghaaW.PrintLast Go.Proofs.YtmgjnabenemghaaW.PrintMore
set_option linter.unusedVariables false
set_option linter.unusedSimpArgs false
def retag (i : Nat) (m : M) : M := ⟨m.f0, m.f1, m.f2, (i : Int), m.f4⟩
/-- The messages with their places for numbers. -/
def tag (l : List M) : List M := l.mapIdx retag
theorem tag_take (l : List M) (k : Nat) (hk : k < l.length) : (tag l).take (k + 1) = (tag l).take k ++ [retag k l[k]] := by
  have h : k < (tag l).length := by simpa [tag] using hk
  rw [List.take_succ_eq_append_getElem h]
  simp [tag]
theorem tag_get (l : List M) (k : Nat) (h : k < (tag l).length) : ((tag l)[k]).f3 = (k : Int) := by
  simp [tag, retag]
theorem Cs.less {X Y : Nat → Prop} {w0 w : World} {g b : Nat} {wd : Int} {sl : List M} (h : Cs X w0 w g b wd sl) (hY : ∀ x, Y x → X x) : Cs Y w0 w g b wd sl :=
  ⟨h.at_.to (fun x hx => ⟨hx.1, fun q => hx.2.1 (hY x q), hx.2.2⟩) (fun q => q.2.2.2 rfl) (fun q => q.2.2.1 rfl), h.bel, h.fs, fun x hx => h.xs x (hY x hx), h.lt⟩
/-- A step that writes into blocks of X and lays new ones; X' are some of those. -/
theorem Cs.grow {X X' S : Nat → Prop} {w0 w w' : World} {g b : Nat} {wd : Int} {sl : List M} (h : Cs X w0 w g b wd sl) (hO : Only w w' S) (hS : ∀ x, S x → X x) (h0 : ∀ x, S x → w0.heap.size ≤ x) (hX : ∀ x, X' x → x < w'.heap.size ∧ (X x ∨ w.heap.size ≤ x)) : Cs X' w0 w' g b wd sl := by
  have hold : CAt w (fun x => (w0.heap.size ≤ x ∧ ¬ X x ∧ x ≠ g ∧ x ≠ b) ∧ x < w.heap.size) g b wd sl := ⟨h.at_.blk, Days.old h.at_.days, ⟨fun q => q.1.2.2.2 rfl, fun q => q.1.2.2.1 rfl, h.at_.lt.2.2⟩, h.at_.wd1, h.at_.wfw, h.at_.tm, h.at_.srt, h.at_.uq, h.at_.len⟩
  have h' := h.far hO hS h0
  refine ⟨(hold.only hO (fun q => (h.xs g (hS g q)).2.1 rfl) (fun q => (h.xs b (hS b q)).2.2 rfl) (fun x hx q => hx.1.2.1 (hS x q))).to (fun x hx => ⟨hx.1.1, fun q => ?_, hx.1.2.2⟩) (fun q => q.2.2.2 rfl) (fun q => q.2.2.1 rfl), h'.bel, h.fs, fun x hx => ?_, h'.lt⟩
  · rcases (hX x q).2 with e | e
    · exact hx.1.2.1 e
    · have := hx.2; omega
  · refine ⟨(hX x hx).1, ?_⟩
    rcases (hX x hx).2 with e | e
    · exact (h.xs x e).2
    · have := h.lt
      exact ⟨by omega, by omega⟩
end Go.Proofs.Ytmgjnabenemghaa.CQ
