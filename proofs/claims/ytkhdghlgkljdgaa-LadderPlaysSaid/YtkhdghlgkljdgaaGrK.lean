/- Worlds that have only drawn and laid blocks: the calls that leave such a world. No law is proved here. -/
import Derived.Test.YtkhdghlgkljdgaaTypes
import Derived.Test.YtkhdghlgkljdgaaHeap
import Derived.Sort.Grow
import Derived.StillTailTactics
import Derived.Deep.RegionHeld3
import Derived.Deep.QuietTactic
import Derived.BigQuiet
import Derived.Shelf.SlSortCmp.QuietGrown
import Derived.Lib.Hide
namespace Go.Proofs.Ytkhdghlgkljdgaa.GrK
open Go.RowKit Go.Sort Go.Proofs.Ytkhdghlgkljdgaa.Types Go.Proofs.Ytkhdghlgkljdgaa.Heap
set_option linter.unusedVariables false
set_option linter.unusedSimpArgs false
theorem unhide {p : Prop} (h : Hid p) : p := h
/-- The world has drawn, and bears new blocks; nothing else. -/
def Gr (w w' : World) : Prop := ∃ q os, w' = grow (w.drewN q) os
theorem Gr.refl (w : World) : Gr w w := ⟨0, #[], by rw [grow_empty]; rfl⟩
theorem Gr.trans {a b c : World} (h : Gr a b) (k : Gr b c) : Gr a c := by
  obtain ⟨q, os, rfl⟩ := h
  obtain ⟨r, os', rfl⟩ := k
  exact ⟨q + r, os ++ os', by show grow (grow ((a.drewN q).drewN r) os) os' = _; rw [grow_grow, World.drewN_drewN]⟩
theorem Gr.alloc {a b : World} (h : Gr a b) (o : Obj) : Gr a (b.alloc o) := h.trans ⟨0, #[o], by rw [alloc_eq_grow]; rfl⟩
theorem Gr.drew {a b : World} (h : Gr a b) : Gr a b.drew := h.trans ⟨1, #[], by rw [grow_empty]; rfl⟩
theorem Gr.drewN {a b : World} (h : Gr a b) (n : Nat) : Gr a (b.drewN n) := h.trans ⟨n, #[], by rw [grow_empty]⟩
theorem Gr.below {a b : World} (h : Gr a b) : Below a.heap.size a b := by
  obtain ⟨q, os, rfl⟩ := h
  exact ⟨rfl, rfl, rfl, by show a.heap.size ≤ (a.heap ++ os).size; simp, fun i hi => by show (a.heap ++ os)[i]? = _; rw [Array.getElem?_append_left hi]⟩

/-- A cell of an old block in every world of the class. -/
theorem cg {w : World} {a : Addr} {v : Value} (h : w.cell? a = some v) : ∀ n os, (grow (w.drewN n) os).cell? a = some v := cell_grown (World.block_lt_of_cell? w a h) h
theorem gr_call {P : Program} {f : FuncId} {args : Array Value} {v : Value} (h : ∀ w, Calls P f args w fun e w' => e = .returned v ∧ Gr w w') (w : World) (n : Nat) (os : Array Obj) : Calls P f args (grow (w.drewN n) os) fun e w'' => e = .returned v ∧ ∃ p : GrownBy, w'' = grow (w.drewN p.n) p.os :=
  Calls.grown_of (h _)
theorem Gr.of {w : World} (n : Nat) (os : Array Obj) : Gr w (grow (w.drewN n) os) := ⟨n, os, rfl⟩
/-- A call under a condition Z, in every world grown from one where Z stands. -/
theorem gr_call_of {P : Program} {f : FuncId} {args : Array Value} {v : Value} {Z : World → Prop} {w : World} (hz : ∀ W, Gr w W → Z W) (h : ∀ W, Z W → Calls P f args W fun e w' => e = .returned v ∧ Gr W w') (n : Nat) (os : Array Obj) :
    Calls P f args (grow (w.drewN n) os) fun e w'' => e = .returned v ∧ ∃ p : GrownBy, w'' = grow (w.drewN p.n) p.os := by
  refine (h _ (hz _ (Gr.of n os))).mono ?_
  rintro e w' ⟨rfl, hg⟩
  obtain ⟨q, os', rfl⟩ := (Gr.of (w := w) n os).trans hg
  exact ⟨rfl, ⟨q, os'⟩, rfl⟩
end Go.Proofs.Ytkhdghlgkljdgaa.GrK
