/- The walk of TraceProjects. -/
import Derived.Test.YtcfhkapalcfpiaaProject
import Derived.Test.YtcfhkapalcfpiaaKindsTraceProjects
namespace Go.Proofs.Ytcfhkapalcfpiaa.traceProjects
open Go.RowKit Go.Proofs.Ytcfhkapalcfpiaa.Types Go.Proofs.Ytcfhkapalcfpiaa.Heap Go.Proofs.Ytcfhkapalcfpiaa.Trace Go.Proofs.YtcfhkapalcfpiaaW.PrintWords Go.Proofs.YtcfhkapalcfpiaaW.PrintLast Go.Proofs.YtcfhkapalcfpiaaW.PrintMore
set_option linter.unusedVariables false
set_option linter.unusedSimpArgs false
set_option maxHeartbeats 16000000 in
set_option maxRecDepth 100000 in
theorem walk (A0 : Option Addr) (c0 : Nat) (l0 : List S29) (hc0 : l0.length ≤ c0) (w0 : ∀ y ∈ l0, I29 y) (y0 : l0.length * 40 ≤ 140737488351232) (x1 : Int) (w1 : (Lit.int .i64 x1).wf = true) (w : World) (hr0 : Kd.C k29 w A0 l0.length l0) :
    Calls Try.prog 4 #[.slice A0 l0.length c0, .int .i64 x1] w fun e w' => e = .returned (.bool true) ∧ Below w.heap.size w w' := by
  have H1 := hide (project_call A0 c0 l0 hc0 y0 x1 w hr0)
  have H2 := hide fun W (hb : Below w.heap.size w W) => rproject_call A0 c0 l0 hc0 y0 x1 W (hr0.imp_ hb (fun _ _ h => k29.K_below hb h))
  have hle : (own l0 x1).length * 40 ≤ 140737488351232 := by
    have : (own l0 x1).length ≤ l0.length := List.length_filter_le _ _
    omega
  have HL := hide hle
  clear hr0 w0 w1 hle
  go_enter Try.func4, Try.ntmps4
  go_wp2_with (first | (go_at_call 14; refine (unhide H1).mono ?_; rintro e w1 ⟨v1, rfl, ho1, hb1⟩; obtain ⟨A1, c1, rfl, hl1, hC1⟩ := Kd.R_reads ho1; have HC1 := hide hC1; have HB1 := hide hb1; clear ho1 hb1 hC1) | (go_at_call 15; refine (unhide H2 _ HB1.out).mono ?_; rintro e w2 ⟨v2, rfl, ho2, hb2⟩; obtain ⟨A2, c2, rfl, hl2, hC2⟩ := Kd.R_reads ho2; have HC2 := hide hC2; have HK := hide (HC1.out.imp_ hb2 (fun _ _ h => k29.K_below hb2 h)); have HB2 := hide (below_step HB1.out hb2); clear ho2 hb2 hC2) | (go_at_call 12; refine (same_call A1 _ c1 (own l0 x1) A2 _ c2 (own l0 x1) rfl rfl HL.out true (by simp) _ HK.out HC2.out).mono ?_; rintro e w3 ⟨rfl, hb3⟩; have HB3 := hide (below_step HB2.out hb3); clear hb3) | (go_at_call 13; refine (awake_call _).mono ?_; rintro e w4 ⟨rfl, hb4⟩; have HB4 := hide (below_step HB3.out hb4); clear hb4))
  go_ret
  exact ⟨rfl, HB4.out⟩
end Go.Proofs.Ytcfhkapalcfpiaa.traceProjects
