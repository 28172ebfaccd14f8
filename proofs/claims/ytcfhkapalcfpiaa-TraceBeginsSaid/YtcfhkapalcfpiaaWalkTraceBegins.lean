/- The walk of TraceBegins. -/
import Derived.Test.YtcfhkapalcfpiaaTraceD
import Derived.Test.YtcfhkapalcfpiaaWalkTraceDiffers
import Derived.Test.YtcfhkapalcfpiaaKindsTraceBegins
import Derived.Laws.Rows
import Derived.Laws.NewBlocks
namespace Go.Proofs.Ytcfhkapalcfpiaa.traceBegins
open Go.RowKit Go.Proofs.Ytcfhkapalcfpiaa.Types Go.Proofs.Ytcfhkapalcfpiaa.Heap Go.Proofs.Ytcfhkapalcfpiaa.Trace Go.Proofs.YtcfhkapalcfpiaaW.PrintWords Go.Proofs.YtcfhkapalcfpiaaW.PrintLast Go.Proofs.YtcfhkapalcfpiaaW.PrintMore
set_option linter.unusedVariables false
set_option linter.unusedSimpArgs false
theorem begins_take (l : List S29) (n : Nat) : begins l (l.take n) := by
  unfold begins
  rw [List.length_take, List.take_eq_take_iff]
  omega
set_option maxHeartbeats 16000000 in
set_option maxRecDepth 100000 in
theorem walk (A0 : Option Addr) (c0 : Nat) (l0 : List S29) (hc0 : l0.length ≤ c0) (w0 : ∀ y ∈ l0, I29 y) (y0 : l0.length * 40 ≤ 140737488351232) (A1 : Option Addr) (c1 : Nat) (l1 : List S29) (hc1 : l1.length ≤ c1) (w1 : ∀ y ∈ l1, I29 y) (y1 : l1.length * 40 ≤ 140737488351232) (x2 : Int) (w2 : (Lit.int .u8 x2).wf = true) (w : World) (hr0 : Kd.C k29 w A0 l0.length l0) (hr1 : Kd.C k29 w A1 l1.length l1) :
    Calls Try.prog 7 #[.slice A0 l0.length c0, .slice A1 l1.length c1, .int .u8 x2] w fun e w' => e = .returned (.bool true) ∧ Below w.heap.size w w' := by
  classical
  have hx : 0 ≤ x2 ∧ x2 ≤ 255 := by
    obtain ⟨a, b⟩ : IntKind.u8.min ≤ x2 ∧ x2 ≤ IntKind.u8.max := by simpa [Lit.wf] using w2
    exact ⟨a, b⟩
  obtain ⟨m, hm0, hm1⟩ : ∃ m : Nat, Int.tmod x2 ((l0.length : Int) + 1) = m ∧ m ≤ l0.length := by
    refine ⟨(Int.tmod x2 ((l0.length : Int) + 1)).toNat, ?_, ?_⟩
    · rw [Int.tmod_eq_emod_of_nonneg hx.1]
      have := Int.emod_nonneg x2 (show ((l0.length : Int) + 1) ≠ 0 by omega)
      omega
    · rw [Int.tmod_eq_emod_of_nonneg hx.1]
      have := Int.emod_lt_of_pos x2 (show (0 : Int) < ((l0.length : Int) + 1) by omega)
      omega
  obtain ⟨r, hr⟩ := dif_ex l0 l1
  obtain ⟨v, hv⟩ : ∃ v : Bool, v = true ↔ begins l0 l1 := ⟨decide (begins l0 l1), by simp⟩
  obtain ⟨v2, hv2⟩ : ∃ v : Bool, v = true ↔ begins l1 l0 := ⟨decide (begins l1 l0), by simp⟩
  obtain ⟨z, hz⟩ : ∃ v : Bool, v = true ↔ l0 = l1 := ⟨decide (l0 = l1), by simp⟩
  obtain ⟨u, hu⟩ : ∃ u : Bool, u = true ↔ Rise l0 := ⟨decide (Rise l0), by simp⟩
  obtain ⟨u2, hu2⟩ : ∃ u : Bool, u = true ↔ Rise (l0.take m) := ⟨decide (Rise (l0.take m)), by simp⟩
  have f1 : u2 = false → u = false := by
    intro h
    cases hh : u
    · rfl
    · rw [hu2.2 (rise_take (hu.1 hh) m)] at h; cases h
  have f2 : v = true → v2 = true → z = true := fun a b => hz.2 (both_iff _ _ (hv.1 a) (hv2.1 b))
  have f3 : z = true → v = true ∧ v2 = true := fun h => by
    have := hz.1 h
    subst this
    exact ⟨hv.2 (begins_self _), hv2.2 (begins_self _)⟩
  have f4 : (r == -1) = z := by
    rcases hr with ⟨rfl, h⟩ | ⟨n, rfl, _, _, _, hne⟩
    · rw [hz.2 h]; rfl
    · cases hh : z
      · exact beq_eq_false_iff_ne.mpr (by omega)
      · exact absurd (by rw [hz.1 hh]) hne
  have K0 : ∀ W, Below w.heap.size w W → Kd.C k29 W A0 l0.length l0 := fun W hb => hr0.imp_ hb (fun _ _ h => k29.K_below hb h)
  have K1 : ∀ W, Below w.heap.size w W → Kd.C k29 W A1 l1.length l1 := fun W hb => hr1.imp_ hb (fun _ _ h => k29.K_below hb h)
  have T1 := hide fun W hb => begins_call A0 _ c0 l0 A0 m c0 (l0.take m) rfl (by rw [List.length_take]; omega) hc0 (by rw [List.length_take]; omega) y0 (by rw [List.length_take]; omega) true (by simpa using begins_take l0 m) W (K0 W hb) (traceDiffers.take_C (K0 W hb) hm1)
  have T2 := hide fun W hb => rising_call A0 m c0 (l0.take m) (by rw [List.length_take]; omega) (by rw [List.length_take]; omega) (by rw [List.length_take]; omega) u2 hu2 W (traceDiffers.take_C (K0 W hb) hm1)
  have T3 := hide fun W hb => rising_call A0 _ c0 l0 rfl hc0 y0 u hu W (K0 W hb)
  have T4 := hide fun W hb => begins_call A0 _ c0 l0 A1 _ c1 l1 rfl rfl hc0 hc1 y0 y1 v hv W (K0 W hb) (K1 W hb)
  have T5 := hide fun W hb => begins_call A1 _ c1 l1 A0 _ c0 l0 rfl rfl hc1 hc0 y1 y0 v2 hv2 W (K1 W hb) (K0 W hb)
  have T6 := hide fun W hb => same_call A0 _ c0 l0 A1 _ c1 l1 rfl rfl y0 z hz W (K0 W hb) (K1 W hb)
  have T7 := hide fun W hb => differ_call A0 c0 l0 A1 c1 l1 hc0 hc1 y0 y1 r hr W (K0 W hb) (K1 W hb)
  have T8 := T7
  have T9 := hide fun W hb => differ_call A1 c1 l1 A0 c0 l0 hc1 hc0 y1 y0 r hr.symm W (K1 W hb) (K0 W hb)
  clear K0 K1 hr hv hv2 hz hu hu2 hr0 hr1 w0 w1 w2
  have hL : (l0.length : Int) + 1 ≠ 0 := by omega
  have e2 : (r == r) = true := by simp
  have g5 : m ≤ c0 := by omega
  have g7 : (m : Int) ≤ (c0 : Int) := by omega
  have g9 : (0 : Int) ≤ (m : Int) := by omega
  have B0 := hide (Below.refl w.heap.size w)
  have hz3 : z = (v && v2) := by
    cases v <;> cases v2 <;> cases z <;> simp_all
  subst hz3
  clear f2 f3
  cases u2
  · have hu := f1 rfl
    subst hu
    clear f1
    cases v <;> cases v2
    all_goals
      simp only [Bool.and_true, Bool.true_and, Bool.and_false, Bool.false_and] at f4 T6
      go_enter Try.func7, Try.ntmps7
      go_wp2_with (first | (go_at_call 16; refine (unhide T1 _ B0.out).mono ?_; rintro e w1 ⟨rfl, hb⟩; have BB := hide (below_step B0.out hb); clear B0 hb T1; have B0 := BB; clear BB) | (go_at_call 19; refine (unhide T2 _ B0.out).mono ?_; rintro e w1 ⟨rfl, hb⟩; have BB := hide (below_step B0.out hb); clear B0 hb T2; have B0 := BB; clear BB) | (go_at_call 19; refine (unhide T3 _ B0.out).mono ?_; rintro e w1 ⟨rfl, hb⟩; have BB := hide (below_step B0.out hb); clear B0 hb T3; have B0 := BB; clear BB) | (go_at_call 16; refine (unhide T4 _ B0.out).mono ?_; rintro e w1 ⟨rfl, hb⟩; have BB := hide (below_step B0.out hb); clear B0 hb T4; have B0 := BB; clear BB) | (go_at_call 16; refine (unhide T5 _ B0.out).mono ?_; rintro e w1 ⟨rfl, hb⟩; have BB := hide (below_step B0.out hb); clear B0 hb T5; have B0 := BB; clear BB) | (go_at_call 12; refine (unhide T6 _ B0.out).mono ?_; rintro e w1 ⟨rfl, hb⟩; have BB := hide (below_step B0.out hb); clear B0 hb T6; have B0 := BB; clear BB) | (go_at_call 11; refine (unhide T7 _ B0.out).mono ?_; rintro e w1 ⟨rfl, hb⟩; have BB := hide (below_step B0.out hb); clear B0 hb T7; have B0 := BB; clear BB) | (go_at_call 11; refine (unhide T8 _ B0.out).mono ?_; rintro e w1 ⟨rfl, hb⟩; have BB := hide (below_step B0.out hb); clear B0 hb T8; have B0 := BB; clear BB) | (go_at_call 11; refine (unhide T9 _ B0.out).mono ?_; rintro e w1 ⟨rfl, hb⟩; have BB := hide (below_step B0.out hb); clear B0 hb T9; have B0 := BB; clear BB) | (go_at_call 13; refine (awake_call _).mono ?_; rintro e w1 ⟨rfl, hb⟩; have BB := hide (below_step B0.out hb); clear B0 hb; have B0 := BB; clear BB))
      go_ret
      exact ⟨rfl, B0.out⟩
  · clear f1
    cases v <;> cases v2
    all_goals
      simp only [Bool.and_true, Bool.true_and, Bool.and_false, Bool.false_and] at f4 T6
      go_enter Try.func7, Try.ntmps7
      go_wp2_with (first | (go_at_call 16; refine (unhide T1 _ B0.out).mono ?_; rintro e w1 ⟨rfl, hb⟩; have BB := hide (below_step B0.out hb); clear B0 hb T1; have B0 := BB; clear BB) | (go_at_call 19; refine (unhide T2 _ B0.out).mono ?_; rintro e w1 ⟨rfl, hb⟩; have BB := hide (below_step B0.out hb); clear B0 hb T2; have B0 := BB; clear BB) | (go_at_call 19; refine (unhide T3 _ B0.out).mono ?_; rintro e w1 ⟨rfl, hb⟩; have BB := hide (below_step B0.out hb); clear B0 hb T3; have B0 := BB; clear BB) | (go_at_call 16; refine (unhide T4 _ B0.out).mono ?_; rintro e w1 ⟨rfl, hb⟩; have BB := hide (below_step B0.out hb); clear B0 hb T4; have B0 := BB; clear BB) | (go_at_call 16; refine (unhide T5 _ B0.out).mono ?_; rintro e w1 ⟨rfl, hb⟩; have BB := hide (below_step B0.out hb); clear B0 hb T5; have B0 := BB; clear BB) | (go_at_call 12; refine (unhide T6 _ B0.out).mono ?_; rintro e w1 ⟨rfl, hb⟩; have BB := hide (below_step B0.out hb); clear B0 hb T6; have B0 := BB; clear BB) | (go_at_call 11; refine (unhide T7 _ B0.out).mono ?_; rintro e w1 ⟨rfl, hb⟩; have BB := hide (below_step B0.out hb); clear B0 hb T7; have B0 := BB; clear BB) | (go_at_call 11; refine (unhide T8 _ B0.out).mono ?_; rintro e w1 ⟨rfl, hb⟩; have BB := hide (below_step B0.out hb); clear B0 hb T8; have B0 := BB; clear BB) | (go_at_call 11; refine (unhide T9 _ B0.out).mono ?_; rintro e w1 ⟨rfl, hb⟩; have BB := hide (below_step B0.out hb); clear B0 hb T9; have B0 := BB; clear BB) | (go_at_call 13; refine (awake_call _).mono ?_; rintro e w1 ⟨rfl, hb⟩; have BB := hide (below_step B0.out hb); clear B0 hb; have B0 := BB; clear BB))
      go_ret
      exact ⟨rfl, B0.out⟩
end Go.Proofs.Ytcfhkapalcfpiaa.traceBegins
