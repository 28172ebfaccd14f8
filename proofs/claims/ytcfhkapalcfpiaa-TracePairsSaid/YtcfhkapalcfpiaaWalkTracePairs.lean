/- The walk of TracePairs. -/
import Derived.Test.YtcfhkapalcfpiaaTraceD
import Derived.Test.YtcfhkapalcfpiaaKindsTracePairs
import Derived.Laws.Rows
import Derived.Laws.NewBlocks
namespace Go.Proofs.Ytcfhkapalcfpiaa.tracePairs
open Go.RowKit Go.Proofs.Ytcfhkapalcfpiaa.Types Go.Proofs.Ytcfhkapalcfpiaa.Heap Go.Proofs.Ytcfhkapalcfpiaa.Trace Go.Proofs.YtcfhkapalcfpiaaW.PrintWords Go.Proofs.YtcfhkapalcfpiaaW.PrintLast Go.Proofs.YtcfhkapalcfpiaaW.PrintMore
set_option linter.unusedVariables false
set_option linter.unusedSimpArgs false
set_option maxHeartbeats 16000000 in
set_option maxRecDepth 100000 in
theorem walk (A0 : Option Addr) (c0 : Nat) (l0 : List S29) (hc0 : l0.length ≤ c0) (w0 : ∀ y ∈ l0, I29 y) (y0 : l0.length * 40 ≤ 140737488351232) (A1 : Option Addr) (c1 : Nat) (l1 : List S29) (hc1 : l1.length ≤ c1) (w1 : ∀ y ∈ l1, I29 y) (y1 : l1.length * 40 ≤ 140737488351232) (w : World) (hr0 : Kd.C k29 w A0 l0.length l0) (hr1 : Kd.C k29 w A1 l1.length l1) :
    Calls Try.prog 6 #[.slice A0 l0.length c0, .slice A1 l1.length c1] w fun e w' => e = .returned (.bool true) ∧ Below w.heap.size w w' := by
  classical
  obtain ⟨r, hr⟩ := dif_ex l0 l1
  obtain ⟨v, hv⟩ : ∃ v : Bool, v = true ↔ begins l0 l1 := ⟨decide (begins l0 l1), by simp⟩
  obtain ⟨u, hu⟩ : ∃ u : Bool, u = true ↔ Rise l0 := ⟨decide (Rise l0), by simp⟩
  have K0 : ∀ W, Below w.heap.size w W → Kd.C k29 W A0 l0.length l0 := fun W hb => hr0.imp_ hb (fun _ _ h => k29.K_below hb h)
  have K1 : ∀ W, Below w.heap.size w W → Kd.C k29 W A1 l1.length l1 := fun W hb => hr1.imp_ hb (fun _ _ h => k29.K_below hb h)
  have H1 := hide fun W hb => begins_call A0 _ c0 l0 A1 _ c1 l1 rfl rfl hc0 hc1 y0 y1 v hv W (K0 W hb) (K1 W hb)
  have H2 := hide fun W hb => rbegins_call A0 c0 l0 A1 c1 l1 hc0 hc1 y0 v hv W (K0 W hb) (K1 W hb)
  have H3 := hide fun W hb => differ_call A0 c0 l0 A1 c1 l1 hc0 hc1 y0 y1 r hr W (K0 W hb) (K1 W hb)
  have H4 := hide fun W hb => rdiffer_call A0 c0 l0 A1 c1 l1 hc0 hc1 y0 r hr W (K0 W hb) (K1 W hb)
  have H5 := hide fun W hb => rising_call A0 _ c0 l0 rfl hc0 y0 u hu W (K0 W hb)
  have H6 := hide fun W hb => rrising_call A0 _ c0 l0 rfl hc0 y0 u hu W (K0 W hb)
  clear K0 K1 hr hv hu hr0 hr1 w0 w1
  have B0 := hide (Below.refl w.heap.size w)
  have e1 : (v == v) = true := by simp
  have e2 : (r == r) = true := by simp
  have e3 : (u == u) = true := by simp
  go_enter Try.func6, Try.ntmps6
  go_wp2_with (first | (go_at_call 16; refine (unhide H1 _ B0.out).mono ?_; rintro e w1 ⟨rfl, hb⟩; have B1 := hide (below_step B0.out hb); clear hb) | (go_at_call 17; refine (unhide H2 _ B1.out).mono ?_; rintro e w2 ⟨rfl, hb⟩; have B2 := hide (below_step B1.out hb); clear hb) | (go_at_call 11; refine (unhide H3 _ B2.out).mono ?_; rintro e w3 ⟨rfl, hb⟩; have B3 := hide (below_step B2.out hb); clear hb) | (go_at_call 18; refine (unhide H4 _ B3.out).mono ?_; rintro e w4 ⟨rfl, hb⟩; have B4 := hide (below_step B3.out hb); clear hb) | (go_at_call 19; refine (unhide H5 _ B4.out).mono ?_; rintro e w5 ⟨rfl, hb⟩; have B5 := hide (below_step B4.out hb); clear hb) | (go_at_call 20; refine (unhide H6 _ B5.out).mono ?_; rintro e w6 ⟨rfl, hb⟩; have B6 := hide (below_step B5.out hb); clear hb) | (go_at_call 13; refine (awake_call _).mono ?_; rintro e w7 ⟨rfl, hb⟩; have B7 := hide (below_step B6.out hb); clear hb))
  go_ret
  exact ⟨rfl, B7.out⟩
end Go.Proofs.Ytcfhkapalcfpiaa.tracePairs
