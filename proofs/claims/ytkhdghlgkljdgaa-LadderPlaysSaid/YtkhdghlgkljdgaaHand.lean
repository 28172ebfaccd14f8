/- A region that draws its order, walked by hand: single steps. No law is proved here. -/
import Derived.StillTailTactics
import Derived.Deep.RegionHeld3
import Derived.Deep.QuietTactic
import Derived.Deep.RegionLaw
import Derived.Lib.QuietBelow
import Derived.Lib.Hide
import Derived.Test.YtkhdghlgkljdgaaHeap
namespace Go.Proofs.Ytkhdghlgkljdgaa.Hand
open Go Go.RowKit Go.Proofs.Ytkhdghlgkljdgaa.Heap
set_option linter.unusedVariables false
theorem takeA {P : Program} {md : Region.Mode} {ops : Array Oper} {Q : Exit → Act → World → Prop} {i d : Nat} {oi : Oper} {v : Value} {fuel : Nat} {listed : Array Bool} {tmps : Array Value} {df : List Deferred} {w : World} (hi : ops[i]? = some oi)
    (hs : Region.noSelect ops = true) (hf : Region.free md ops listed i = true) (hr : (Region.ready md ops listed).contains i = true)
    (hQ : ∀ c a w, Q (.panic c) (a.put oi.dst v) w → Q (.panic c) a w) (hy : Yields P ops oi v ⟨tmps, df⟩) (hd : oi.dst = some d)
    (h : wpAny P md ops Q fuel (listed.setIfInBounds i true) ⟨tmps.setIfInBounds d v, df⟩ w) : wpAny P md ops Q (fuel + 1) listed ⟨tmps, df⟩ w :=
  wpAny_take hi hs hf hr hQ hy (by rw [hd]; exact h)
theorem takeH {P : Program} {md : Region.Mode} {ops : Array Oper} {Q : Exit → Act → World → Prop} {S : World → Prop} {i d : Nat} {oi : Oper} {v : Value} {fuel : Nat} {listed : Array Bool} {tmps : Array Value} {df : List Deferred} {w : World} (hi : ops[i]? = some oi)
    (hs : Region.noSelect ops = true) (hf : Region.free md ops listed i = true) (hr : (Region.ready md ops listed).contains i = true)
    (hQ : ∀ c a w, Q (.panic c) (a.put oi.dst v) w → Q (.panic c) a w) (hy : YieldsIf P ops S oi v ⟨tmps, df⟩) (hS : S w) (hd : oi.dst = some d)
    (h : wpAnyH P md ops Q S fuel (listed.setIfInBounds i true) ⟨tmps.setIfInBounds d v, df⟩ w) : wpAnyH P md ops Q S (fuel + 1) listed ⟨tmps, df⟩ w :=
  wpAnyH_take hi hs hf hr hQ hy hS (by rw [hd]; exact h)
theorem anyQ_drop {P : Program} {md : Region.Mode} {ops : Array Oper} {C : World → Prop} {Q : Act → Prop} {fuel : Nat} {listed : Array Bool} {a : Act} (k : Nat) (hs : Region.noSelect ops = true) (hf : fuel = (ops.toList.drop k).length)
    (hB : Region.lexFrom md ops (ops.toList.drop k).length k listed = true) (h : wpQuiet P ops C Q (ops.toList.drop k) a) : wpAnyQ P md ops C Q fuel listed a := by
  subst hf
  exact wpAnyQ_lex hs _ k listed a (fun j => by simp) hB h
theorem wpAny_abs {P : Program} {md : Region.Mode} {ops : Array Oper} {Q : Exit → Act → World → Prop} {fuel : Nat} {listed : Array Bool} {a : Act} {w : World} (hp : ∀ c a i v w, Q (.panic c) (Act.put a i v) w → Q (.panic c) a w)
    (h : ∀ Q' : Exit → Act → World → Prop, Hid (∀ c a i v w, Q' (.panic c) (Act.put a i v) w → Q' (.panic c) a w) → Hid (∀ a w, Q .normal a w → Q' .normal a w) → wpAny P md ops Q' fuel listed a w) : wpAny P md ops Q fuel listed a w := h Q (hide hp) (hide fun _ _ h => h)
end Go.Proofs.Ytkhdghlgkljdgaa.Hand
