/- The walk of TraceMerges. -/
import Derived.Test.YtcfhkapalcfpiaaMergeRef
import Derived.Test.YtcfhkapalcfpiaaTraceC
import Derived.Test.YtcfhkapalcfpiaaKindsTraceMerges
set_option linter.unusedVariables false
set_option linter.unusedSimpArgs false
namespace Go.Proofs.Ytcfhkapalcfpiaa.traceMerges
open Go.Proofs Go.RowKit Go.Sort Go.Proofs.Ytcfhkapalcfpiaa.SortPure Go.Proofs.Ytcfhkapalcfpiaa.Heap Go.Proofs.Ytcfhkapalcfpiaa.Types Go.Proofs.Ytcfhkapalcfpiaa.Row Go.Proofs.Ytcfhkapalcfpiaa.Ord Go.Proofs.Ytcfhkapalcfpiaa.Sorted Go.Proofs.Ytcfhkapalcfpiaa.Merge Go.Proofs.YtcfhkapalcfpiaaW.PrintWords Go.Proofs.YtcfhkapalcfpiaaW.PrintLast Go.Proofs.YtcfhkapalcfpiaaW.PrintMore
open Go.Proofs.Ytcfhkapalcfpiaa.MergeRef (rmerge_call)
set_option maxHeartbeats 8000000 in
set_option maxRecDepth 100000 in
theorem walk (A0 : Option Addr) (c0 : Nat) (l0 : List (List S29)) (hc0 : l0.length ≤ c0) (w0 : ∀ y ∈ l0, (∀ yy ∈ y, I29 yy)) (y0 : l0.length * 24 ≤ 140737488351232) (hup : l0.flatten.length ≤ 1048576) (w : World) (hr0 : Kd.C (Kd.slice 29 k29) w A0 l0.length l0) :
    Calls Try.prog 8 #[.slice A0 l0.length c0] w fun e w' => e = .returned (.bool true) ∧ Below w.heap.size w w' := by
  have HM := hide (merge_call A0 c0 l0 hc0 (by omega) y0 w hr0)
  have HRm := hide (fun W (hb : Below w.heap.size w W) => rmerge_call A0 c0 l0 hc0 (by omega) y0 W (Kd.C_below hr0 hb))
  have HL : Hid ((isort befD l0.flatten).length * 40 ≤ 140737488351232) := hide (by rw [length_isort]; omega)
  clear hr0 w0 y0 hup
  obtain ⟨s, hs⟩ : ∃ s, isort befD l0.flatten = s := ⟨_, rfl⟩
  rw [hs] at HM HRm HL
  clear hs
  go_enter Try.func8, Try.ntmps8
  go_wp2_with fail
  refine HM.out.mono ?_
  rintro e w1 ⟨v, rfl, ho, hb⟩
  obtain ⟨A1, c1, rfl, hc1, hC1, _⟩ := ho.reads flatM rfl k29_mk
  have HC1 := hide hC1
  have HB1 := hide hb
  clear ho hC1 hb hc1
  go_wp2_with fail
  refine (HRm.out _ HB1.out).mono ?_
  rintro e w2 ⟨v, rfl, ho, hb⟩
  obtain ⟨A2, c2, rfl, hc2, hC2, _⟩ := ho.reads flatM rfl k29_mk
  have HC2 := hide hC2
  have HC1 := hide (Kd.C_below HC1.out hb)
  have HB2 := hide (below_step HB1.out hb)
  clear ho hC2 hb hc2
  go_wp2_with fail
  refine (Trace.same_call A1 _ c1 s A2 _ c2 s rfl rfl HL.out true (by simp) _ HC1.out HC2.out).mono ?_
  rintro e w3 ⟨rfl, hb3⟩
  have HB3 := hide (below_step HB2.out hb3)
  clear hb3
  go_wp2_with fail
  refine (Trace.awake_call _).mono ?_
  rintro e w4 ⟨rfl, hb4⟩
  go_wp2_with fail
  go_ret
  exact ⟨rfl, below_step HB3.out hb4⟩
end Go.Proofs.Ytcfhkapalcfpiaa.traceMerges
