/- PROVED: walk (isochronlaw06.HeapTwice), for every input. Condition: none beside the statement's own. -/
import Derived.Test.YtipgigbnfdgfmaaRows
import Derived.WalkKit
import Derived.ProofKit
import Derived.OpenShut
import Derived.ShutString
import Derived.ChangeOld
import Derived.Below
import Derived.SizedLaws
import Derived.Test.YtipgigbnfdgfmaaOpen
import Derived.Test.YtipgigbnfdgfmaaKindsHeapTwice
import Derived.Test.YtipgigbnfdgfmaaTypes
import Derived.Test.YtipgigbnfdgfmaaWalkHeapTwice
namespace Go.Proofs.Ytipgigbnfdgfmaa.heapTwice
open Go.ChangeShapes Go.WideShapes Go.ChangeAt Go.RowKit Go.Proofs.Ytipgigbnfdgfmaa.Open Go.Proofs.YtipgigbnfdgfmaaW.PrintWords Go.Proofs.YtipgigbnfdgfmaaW.PrintLast Go.Proofs.YtipgigbnfdgfmaaW.PrintMore Go.Proofs.Ytipgigbnfdgfmaa.Types 
set_option linter.unusedVariables false
set_option linter.unusedSimpArgs false
theorem own : ownKnob Try.prog.godebug = none := by kernel_rfl
theorem laidOut : laidOutB Try.prog = true := by kernel_rfl
set_option maxRecDepth 100000 in
theorem lifted (os : Os) (started : os.Started) (H : Type) (enc : TypeId × Value → H) :
    ReturnsInHanded {} Try.checked os 3 .any (Rows.heapTwiceSpec.pre6 enc Try.prog Try.f3 Rows.heapTwiceRow.domain false) (Rows.heapTwiceSpec.post enc Try.prog Try.f3 false true false false) := by
  refine returnsInHanded_of_change_sized (C := Try.checked) own started (by kernel_rfl) Try.func3
    (ChangeSpec.witness6 (enc := enc) (C := Try.checked) false ⟨#[], #[.agg #[.int .i64 0, .int .i64 0, .int .i64 0, .int .i64 0, .int .i64 0, .int .i64 0, .bool false], .agg #[.int .i64 0, .int .i64 0, .int .i64 0, .int .i64 0, .int .i64 0, .int .i64 0, .bool false], .slice none 0 0], []⟩ 8 (by kernel_rfl) (by kernel_rfl) (by kernel_rfl) (by kernel_rfl)) ?_
  intro W base args ds gs before hval0 hW hcnd hsz0 _
  have hsz : (DataW.weightsEach Try.prog (Try.f3.params.toList ++ Rows.heapTwiceSpec.plain.varTypes Try.prog) (ds ++ gs)).all (· ≤ reachBytes) = true := hsz0
  have hval : ∀ (j : Nat) t v, Try.f3.params[j]? = some t → args[j]? = some v → Value.okWide Try.prog W .any base t v := hval0
  have hW' := hW
  obtain ⟨p, q, hA0, hV, rfl, hfz, hnd⟩ := hW
  have hA : DataW.TrodAll enc Try.prog W 0 (fun _ => true) true Try.f3.params.toList args.toList ds p := hA0
  rw [Try.params3] at hA hval hsz
  obtain ⟨v0, vs0, d0, ds0, p0, q0, hargs, rfl, rfl, h0, r0⟩ := trodAll_cons hA
  obtain ⟨v1, vs1, d1, ds1, p1, q1, rfl, rfl, rfl, h1, r1⟩ := trodAll_cons r0
  obtain ⟨v2, vs2, d2, ds2, p2, q2, rfl, rfl, rfl, h2, r2⟩ := trodAll_cons r1
  obtain ⟨rfl, rfl, rfl⟩ := trodAll_nil r2
  obtain rfl : args = #[v0, v1, v2] := by cases args; simp_all
  obtain ⟨rfl, rfl⟩ := trodVars_none hV
  have k0_ := h0
  have lt0 : ∀ x ∈ p0, x.block < W.heap.size := by obtain ⟨m, hm⟩ := k0_; exact DataW.trod_lt m _ _ _ hm
  obtain ⟨x0, cs0, rfl, hk0, w0⟩ := arg_struct Try.underlying25 opS25 (hval 0 25 v0 rfl rfl) h0
  obtain rfl := k25_open hk0
  have k1_ := h1
  have lt1 : ∀ x ∈ p1, x.block < W.heap.size := by obtain ⟨m, hm⟩ := k1_; exact DataW.trod_lt m _ _ _ hm
  obtain ⟨x1, cs1, rfl, hk1, w1⟩ := arg_struct Try.underlying25 opS25 (hval 1 25 v1 rfl rfl) h1
  obtain rfl := k25_open hk1
  have k2_ := h2
  have lt2 : ∀ x ∈ p2, x.block < W.heap.size := by obtain ⟨m, hm⟩ := k2_; exact DataW.trod_lt m _ _ _ hm
  obtain ⟨A2, c2, l2, rfl, hc2, hr2, w2⟩ := arg_slice Try.underlying26 (opens_slice Try.underlying26 opS25 (by kernel_rfl)) (hval 2 26 v2 rfl rfl) h2
  have y2 : l2.length * 56 ≤ 140737488351232 := sized_any hsz (j := 2) (t := 26) rfl rfl Try.underlying26 (by kernel_rfl) h2
  clear hA0 hval0 hsz0 hsz
  try simp only [List.append_nil] at hW'
  refine (walk x0 w0 x1 w1 A2 c2 l2 hc2 w2 y2 W hr2).mono fun e W' ⟨he, bel⟩ => ?_
  subst he
  exact ⟨_, rfl, _, _, _, [], _, [], hW', trodAll_mk1 (shut_bool Try.underlying4 _), (trodAll_cons_mk (Below.trod laidOut (by kernel_rfl) (of_decide_eq_true (by kernel_rfl)) k0_ bel lt0) (trodAll_cons_mk (Below.trod laidOut (by kernel_rfl) (of_decide_eq_true (by kernel_rfl)) k1_ bel lt1) (trodAll_cons_mk (Below.trod laidOut (by kernel_rfl) (of_decide_eq_true (by kernel_rfl)) k2_ bel lt2) trodAll_mk0))), by first | rfl | simp, bel.frame _, fun h => by cases h⟩
theorem over : Rows.heapTwiceRow.holds Try.pinned (OpenSpec.ofChange Rows.heapTwiceSpec) :=
  OpenClaim.holds_of_wide 3 Try.f3 rfl rfl rfl rfl rfl rfl rfl ⟨rfl, rfl, rfl, rfl, rfl⟩ rfl rfl rfl rfl rfl (by kernel_rfl) Try.func3 (by kernel_rfl)
    (of_decide_eq_true (by kernel_rfl)) (by unfold Func.isWrapper; first | (rw [if_pos (by decide +kernel)]; kernel_rfl) | (rw [if_neg (by decide +kernel)]; exact ⟨rfl, rfl⟩))
    (fun os started H enc _ => lifted os started H enc)
theorem proved : Rows.HeapTwiceSaid := over
end Go.Proofs.Ytipgigbnfdgfmaa.heapTwice
namespace Go.Proofs.Ytipgigbnfdgfmaa
theorem heapTwice_holds : Rows.HeapTwiceSaid := heapTwice.proved
end Go.Proofs.Ytipgigbnfdgfmaa
#print axioms Go.Proofs.Ytipgigbnfdgfmaa.heapTwice_holds
