/- The law's own 'awake'. No law is proved here. -/
import Derived.Test.YtcfhkapalcfpiaaTraceB
namespace Go.Proofs.Ytcfhkapalcfpiaa.Trace
open Go.RowKit Go.Proofs.Ytcfhkapalcfpiaa.Types Go.Proofs.Ytcfhkapalcfpiaa.Heap Go.Proofs.YtcfhkapalcfpiaaW.PrintWords Go.Proofs.YtcfhkapalcfpiaaW.PrintLast Go.Proofs.YtcfhkapalcfpiaaW.PrintMore
set_option linter.unusedVariables false
set_option linter.unusedSimpArgs false
def z : S29 := ⟨⟨0, 0, 0⟩, 0, 0⟩
theorem nil_C (w : World) : Kd.C k29 w none 0 [] := ⟨rfl, by omega, fun h => absurd h (by omega)⟩
theorem blk_C {w : World} {g : Nat} (h : Blk w g 29 #[.int .i64 0, .int .i64 0, .int .i64 0, .int .i64 0, .int .i64 0]) : Kd.C k29 w (some ⟨g, 0, none⟩) 1 [z] := by
  refine ⟨rfl, by omega, fun _ => ⟨_, rfl, ?_⟩⟩
  intro j p hj
  cases j with
  | zero =>
    injection hj with hj
    subst hj
    refine ⟨_, rfl, k29_mk w z, ?_⟩
    intro i u hu
    rw [show (Addr.add ⟨g, 0, none⟩ (0 * k29.sz + i)) = ⟨g, i, none⟩ from by simp [Addr.add]; try omega, h.cell i]
    rw [← hu]
    rcases i with _ | _ | _ | _ | _ | i <;> rfl
  | succ j => simp at hj
theorem lit_step {P : Program} {ops : Array Oper} {Q : Exit → Act → World → Prop} {rest : List Oper} {o : Oper} {a : Act} {W : World} (hgd : o.guard = none)
    (hrun : (execOp a.eval o).run P W = .ok (.value (.slice (some ⟨W.heap.size, 0, none⟩) 1 1)) (W.alloc (.cells #[.int .i64 0, .int .i64 0, .int .i64 0, .int .i64 0, .int .i64 0] 29)))
    (h : wpList P ops Q rest (a.put o.dst (.slice (some ⟨W.heap.size, 0, none⟩) 1 1)) (W.alloc (.cells #[.int .i64 0, .int .i64 0, .int .i64 0, .int .i64 0, .int .i64 0] 29))) : wpList P ops Q (o :: rest) a W := Kd.event_run hgd hrun h
set_option maxHeartbeats 8000000 in
set_option maxRecDepth 100000 in
theorem awake_call (w : World) : Calls Try.prog 13 #[] w fun e w' => e = .returned (.bool true) ∧ Below w.heap.size w w' := by
  have D0 : ∀ (W : World) (g : Nat), Blk W g 29 #[.int .i64 0, .int .i64 0, .int .i64 0, .int .i64 0, .int .i64 0] → Calls Try.prog 11 #[.slice (some ⟨g, 0, none⟩) 1 1, .slice none 0 0] W fun e w' => e = .returned (.int .i64 0) ∧ Below W.heap.size W w' :=
    fun W g h => differ_call _ 1 [z] _ 0 [] (by simp) (by simp) (by simp) (by simp) 0 (.inr ⟨0, rfl, by simp, by simp, rfl, by simp⟩) W (blk_C h) (nil_C W)
  have B1 : ∀ (W : World) (g : Nat), Blk W g 29 #[.int .i64 0, .int .i64 0, .int .i64 0, .int .i64 0, .int .i64 0] → Calls Try.prog 16 #[.slice (some ⟨g, 0, none⟩) 1 1, .slice none 0 0] W fun e w' => e = .returned (.bool true) ∧ Below W.heap.size W w' :=
    fun W g h => begins_call _ 1 1 [z] _ 0 0 [] rfl rfl (by simp) (by simp) (by simp) (by simp) true (by simp [begins]) W (blk_C h) (nil_C W)
  have B2 : ∀ (W : World) (g : Nat), Blk W g 29 #[.int .i64 0, .int .i64 0, .int .i64 0, .int .i64 0, .int .i64 0] → Calls Try.prog 16 #[.slice none 0 0, .slice (some ⟨g, 0, none⟩) 1 1] W fun e w' => e = .returned (.bool false) ∧ Below W.heap.size W w' :=
    fun W g h => begins_call _ 0 0 [] _ 1 1 [z] rfl rfl (by simp) (by simp) (by simp) (by simp) false (by simp [begins]) W (nil_C W) (blk_C h)
  have HB := hide (Below.refl w.heap.size w)
  have hu29 := Try.underlying29
  have hu27 := Try.underlying27
  go_enter Try.func13, Try.ntmps13
  go_wp2_with fail
  refine (D0 _ _ (Blk.new _ _ _)).mono ?_
  rintro e w1 ⟨rfl, hb1⟩
  have HB1 := hide ((HB.out.alloc HB.out.size _).trans (hb1.mono (by have := HB.out.size; simp)))
  clear hb1
  go_wp2_with fail
  refine (B1 _ _ (Blk.new _ _ _)).mono ?_
  rintro e w2 ⟨rfl, hb2⟩
  have HB2 := hide ((HB1.out.alloc HB1.out.size _).trans (hb2.mono (by have := HB1.out.size; simp; omega)))
  clear hb2
  go_wp2_with fail
  refine (B2 _ _ (Blk.new _ _ _)).mono ?_
  rintro e w3 ⟨rfl, hb3⟩
  have HB3 := hide ((HB2.out.alloc HB2.out.size _).trans (hb3.mono (by have := HB2.out.size; simp; omega)))
  clear hb3
  go_wp2_with fail
  go_ret
  exact ⟨rfl, HB3.out⟩
end Go.Proofs.Ytcfhkapalcfpiaa.Trace
