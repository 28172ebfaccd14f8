/- PROVED: two lists, sorted (isochronlaw02.EventMerges), for every input of bulk at most 1048576. Condition: none beside the statement's own. -/
import Derived.Test.YtgnlhlbndgopmaaRows
import Derived.WalkKit
import Derived.ProofKit
import Derived.OpenShut
import Derived.ShutString
import Derived.ChangeOld
import Derived.Below
import Derived.SizedLaws
import Derived.JoinedCond
import Derived.Deep.CondSized
import Derived.Test.YtgnlhlbndgopmaaOpen
import Derived.Test.YtgnlhlbndgopmaaKindsEventMerges
import Derived.Test.YtgnlhlbndgopmaaTypes
import Derived.Test.YtgnlhlbndgopmaaWalkEventMerges
import Derived.Test.YtgnlhlbndgopmaaBulk
namespace Go.Proofs.Ytgnlhlbndgopmaa.eventMerges
open Go.ChangeShapes Go.WideShapes Go.ChangeAt Go.RowKit Go.Proofs.Ytgnlhlbndgopmaa.Open Go.Proofs.YtgnlhlbndgopmaaW.PrintWords Go.Proofs.YtgnlhlbndgopmaaW.PrintLast Go.Proofs.YtgnlhlbndgopmaaW.PrintMore Go.Proofs.Ytgnlhlbndgopmaa.Types 
set_option linter.unusedVariables false
set_option linter.unusedSimpArgs false
theorem own : ownKnob Try.prog.godebug = none := by kernel_rfl
theorem laidOut : laidOutB Try.prog = true := by kernel_rfl
set_option maxRecDepth 100000 in
theorem lifted (os : Os) (started : os.Started) (H : Type) (enc : TypeId × Value → H) (F : Stop.Interp) :
    ReturnsInHanded {} Try.checked os 11 .any ((Rows.OpenSpec.upto Rows.eventMergesSpec).pre6 enc Try.prog Try.f11 Rows.eventMergesUptoRow.domain false) (((Rows.OpenSpec.upto Rows.eventMergesSpec).at F).post enc Try.prog Try.f11 false true false false) := by
  refine returnsInHanded_of_cond_sized (C := Try.checked) (s := Rows.OpenSpec.upto Rows.eventMergesSpec) (k := Rows.uptoSmall) rfl own started (by kernel_rfl) Try.func11
    (OpenSpec.witness (enc := enc) (C := Try.checked) (s := Rows.OpenSpec.upto Rows.eventMergesSpec) (k := Rows.uptoSmall) rfl false ⟨#[], #[.slice none 0 0, .slice none 0 0], []⟩ 8 (by kernel_rfl) (by kernel_rfl) (by kernel_rfl)
      (x := ([.nil, .nil], [], [])) (by kernel_rfl) rfl (by kernel_rfl)) ?_
  intro W base args ds gs before hval0 hW hcnd hk0 hsz0 _
  have hsz : (DataW.weightsEach Try.prog (Try.f11.params.toList ++ Rows.eventMergesSpec.plain.varTypes Try.prog) (ds ++ gs)).all (· ≤ reachBytes) = true := hsz0
  have hval : ∀ (j : Nat) t v, Try.f11.params[j]? = some t → args[j]? = some v → Value.okWide Try.prog W .any base t v := hval0
  have hW' := hW
  obtain ⟨p, q, hA0, hV, rfl, hfz, hnd⟩ := hW
  have hA : DataW.TrodAll enc Try.prog W 0 (fun _ => true) true Try.f11.params.toList args.toList ds p := hA0
  rw [Try.params11] at hA hval hsz
  obtain ⟨v0, vs0, d0, ds0, p0, q0, hargs, rfl, rfl, h0, r0⟩ := trodAll_cons hA
  obtain ⟨v1, vs1, d1, ds1, p1, q1, rfl, rfl, rfl, h1, r1⟩ := trodAll_cons r0
  obtain ⟨rfl, rfl, rfl⟩ := trodAll_nil r1
  obtain rfl : args = #[v0, v1] := by cases args; simp_all
  obtain ⟨rfl, rfl⟩ := trodVars_none hV
  have k0_ := h0
  have lt0 : ∀ x ∈ p0, x.block < W.heap.size := by obtain ⟨m, hm⟩ := k0_; exact DataW.trod_lt m _ _ _ hm
  obtain ⟨A0, c0, l0, rfl, hc0, hr0, w0⟩ := arg_slice Try.underlying36 (opens_slice Try.underlying36 opS29 (by kernel_rfl)) (hval 0 36 v0 rfl rfl) h0
  have y0 : l0.length * 56 ≤ 140737488351232 := sized_any hsz (j := 0) (t := 36) rfl rfl Try.underlying36 (by kernel_rfl) h0
  have k1_ := h1
  have lt1 : ∀ x ∈ p1, x.block < W.heap.size := by obtain ⟨m, hm⟩ := k1_; exact DataW.trod_lt m _ _ _ hm
  obtain ⟨A1, c1, l1, rfl, hc1, hr1, w1⟩ := arg_slice Try.underlying36 (opens_slice Try.underlying36 opS29 (by kernel_rfl)) (hval 1 36 v1 rfl rfl) h1
  have y1 : l1.length * 56 ≤ 140737488351232 := sized_any hsz (j := 1) (t := 36) rfl rfl Try.underlying36 (by kernel_rfl) h1
  have u0 : l0.length ≤ Rows.uptoBulk d0 := Bulk.len_bulk Try.underlying36 h0
  have u1 : l1.length ≤ Rows.uptoBulk d1 := Bulk.len_bulk Try.underlying36 h1
  have hup : l0.length + l1.length ≤ 1048576 := by
    have hk := Bulk.bound hk0
    simp only [List.append_nil, Rows.uptoBulkAll] at hk
    omega
  clear hA0 hval0 hsz0 hsz
  try simp only [List.append_nil] at hW'
  refine (walk A0 c0 l0 hc0 w0 y0 A1 c1 l1 hc1 w1 y1 hup W hr0 hr1).mono fun e W' ⟨he, bel⟩ => ?_
  subst he
  exact ⟨_, rfl, _, _, _, [], _, [], hW', trodAll_mk1 (shut_bool Try.underlying4 _), (trodAll_cons_mk (Below.trod laidOut (by kernel_rfl) (of_decide_eq_true (by kernel_rfl)) k0_ bel lt0) (trodAll_cons_mk (Below.trod laidOut (by kernel_rfl) (of_decide_eq_true (by kernel_rfl)) k1_ bel lt1) trodAll_mk0)), by first | rfl | simp, bel.frame _, fun h => by cases h⟩
theorem over : Rows.EventMergesUptoSaid :=
  OpenClaim.holds_of_cond 11 Try.f11 rfl rfl rfl rfl rfl rfl rfl ⟨rfl, rfl, rfl, rfl, rfl⟩ rfl rfl rfl rfl rfl (by kernel_rfl) Try.func11 (by kernel_rfl)
    (of_decide_eq_true (by kernel_rfl)) (by unfold Func.isWrapper; first | (rw [if_pos (by decide +kernel)]; kernel_rfl) | (rw [if_neg (by decide +kernel)]; exact ⟨rfl, rfl⟩))
    (fun os started H enc _ F => lifted os started H enc F)
theorem proved : Rows.EventMergesUptoSaid := over
end Go.Proofs.Ytgnlhlbndgopmaa.eventMerges
namespace Go.Proofs.Ytgnlhlbndgopmaa
theorem eventMerges_holds : Rows.EventMergesUptoSaid := eventMerges.proved
end Go.Proofs.Ytgnlhlbndgopmaa
#print axioms Go.Proofs.Ytgnlhlbndgopmaa.eventMerges_holds
