/- The kinds of the arguments of isochronlaw15.ClockPlays. -/
import Derived.Test.YtcccigdlmljalaaOpen
import Derived.Test.YtcccigdlmljalaaChecked
namespace Go.Proofs.Ytcccigdlmljalaa.clockPlays
open Go.Proofs.Ytcccigdlmljalaa.Open Go.Proofs.YtcccigdlmljalaaW.PrintWords Go.Proofs.YtcccigdlmljalaaW.PrintLast Go.Proofs.YtcccigdlmljalaaW.PrintMore Go.RowKit
set_option linter.unusedVariables false
structure S31 where
  f0 : Int
  f1 : Int
def k31 : Kd S31 := Kd.iso (Kd.pair (Kd.int .i64) (Kd.int .i64)) (fun x : S31 => (x.f0, x.f1))
theorem k31_open {w : World} {x : S31} {cs : List Value} (h : k31.K w x cs) : cs = [.int .i64 x.f0, .int .i64 x.f1] := by
  obtain ⟨_, _, rfl, rfl, rfl⟩ := h

  exact rfl
def I31 (x : S31) : Prop := (Lit.int .i64 x.f0).wf = true ∧ (Lit.int .i64 x.f1).wf = true
theorem opS31 : Opens Try.prog 31 k31 I31 :=
  opens_iso (opens_struct Try.underlying31 (opensAt_cons (opens_int Try.underlying3) rfl (by kernel_rfl) (opensAt_one (opens_int Try.underlying2) rfl (by kernel_rfl))) (by kernel_rfl)) (fun x : S31 => (x.f0, x.f1)) (fun p => ⟨p.1, p.2⟩) (fun _ => rfl) (fun _ h => h)
theorem at_S31 {w : World} {A : Option Addr} {n : Nat} {xs : List S31} (h : Kd.C k31 w A n xs) {i : Nat} (hi : i < xs.length) : ∃ ad, A = some ad ∧ w.cell? (ad.add (i * 2)) = some (.int .i64 xs[i].f0) ∧ w.cell? ⟨(ad.add (i * 2)).block, (ad.add (i * 2)).off + 1, none⟩ = some (.int .i64 xs[i].f1) := by
  obtain ⟨ad, e, hcell⟩ := h.2.2 (by have := h.1; omega)
  obtain ⟨c, _, hK, hc0⟩ := hcell i _ (List.getElem?_eq_getElem hi)
  obtain rfl := k31_open hK
  have hc : ∀ j u, _ → w.cell? (ad.add (i * 2 + j)) = some u := hc0
  exact ⟨ad, e, hc 0 _ rfl, by rw [← add_field _ _ 1 (by omega)]; exact hc 1 _ rfl⟩
/-- What the walk has to show. -/
def Walks : Prop := ∀ (a0 : Int) (w0 : (Lit.int .i64 a0).wf = true) (A1 : Option Addr) (c1 : Nat) (l1 : List (S31)) (hc1 : l1.length ≤ c1) (w1 : ∀ y ∈ l1, I31 y) (y1 : l1.length * 16 ≤ 140737488351232) (w : World) (hr1 : Kd.C k31 w A1 l1.length l1), Calls Try.prog 3 #[.int .i64 a0, .slice A1 l1.length c1] w fun e w' => e = .returned (.bool true) ∧ Below w.heap.size w w'
end Go.Proofs.Ytcccigdlmljalaa.clockPlays
