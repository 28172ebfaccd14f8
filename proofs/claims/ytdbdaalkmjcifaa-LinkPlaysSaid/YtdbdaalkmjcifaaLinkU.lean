/- The contract of the law's own 'parcels': two rows that hold the same. No law is proved here. -/
import Derived.Test.YtdbdaalkmjcifaaLinkR
import Derived.Test.YtdbdaalkmjcifaaWEqStruct
set_option linter.unusedVariables false
set_option linter.unusedSimpArgs false
namespace Go.Proofs.Ytdbdaalkmjcifaa.Link
open Go.Proofs Go.RowKit Go.Sort Go.Proofs.Ytdbdaalkmjcifaa.Types Go.Proofs.Ytdbdaalkmjcifaa.Heap Go.Proofs.Ytdbdaalkmjcifaa.Row Go.Proofs.YtdbdaalkmjcifaaW.PrintWords Go.Proofs.YtdbdaalkmjcifaaW.PrintLast Go.Proofs.YtdbdaalkmjcifaaW.PrintMore
theorem eqKey (d : Nat) (w : World) (x0 y0 x1 y1 x2 y2 : Int) :
    (Op.equalIn (d + 2) 31 (.agg #[.int .i64 x0, .int .i64 x1, .int .i64 x2]) (.agg #[.int .i64 y0, .int .i64 y1, .int .i64 y2])).run Try.prog w = .ok (x0 == y0 && (x1 == y1 && (x2 == y2))) w := by
  refine eqA_of Try.underlying31 (by kernel_rfl) ?_
  refine eqf_cons (by rfl) (by go_simp; rfl) (by go_simp; rfl) (by go_simp) ?_
  refine eqf_cons (by rfl) (by go_simp; rfl) (by go_simp; rfl) (by go_simp) ?_
  exact eqf_last (by rfl) (by go_simp; rfl) (by go_simp; rfl) (by go_simp)
theorem eqMsg (d : Nat) (w : World) (x0 x1 x2 x3 x4 x5 : Int) (x6 : Bool) (y0 y1 y2 y3 y4 y5 : Int) (y6 : Bool) :
    (Op.equalIn (d + 3) 33 (.agg #[.int .i64 x0, .int .i64 x1, .int .i64 x2, .int .i64 x3, .int .i64 x4, .int .i64 x5, .bool x6]) (.agg #[.int .i64 y0, .int .i64 y1, .int .i64 y2, .int .i64 y3, .int .i64 y4, .int .i64 y5, .bool y6])).run Try.prog w = .ok ((x0 == y0 && (x1 == y1 && (x2 == y2))) && (x3 == y3 && (x4 == y4 && (x5 == y5 && (x6 == y6))))) w := by
  refine eqA_of Try.underlying33 (by kernel_rfl) ?_
  refine eqf_cons (by rfl) (by go_simp) (by go_simp) (eqKey d w _ _ _ _ _ _) ?_
  refine eqf_cons (by rfl) (by go_simp; rfl) (by go_simp; rfl) (by go_simp) ?_
  refine eqf_cons (by rfl) (by go_simp; rfl) (by go_simp; rfl) (by go_simp) ?_
  refine eqf_cons (by rfl) (by go_simp; rfl) (by go_simp; rfl) (by go_simp) ?_
  exact eqf_last (by rfl) (by go_simp; rfl) (by go_simp; rfl) (by go_simp)
theorem eqPc (d : Nat) (w : World) (x0 x1 x2 x3 x4 x5 : Int) (x6 : Bool) (x7 : Int) :
    (Op.equalIn (d + 4) 35 (.agg #[.int .i64 x0, .int .i64 x1, .int .i64 x2, .int .i64 x3, .int .i64 x4, .int .i64 x5, .bool x6, .int .i64 x7]) (.agg #[.int .i64 x0, .int .i64 x1, .int .i64 x2, .int .i64 x3, .int .i64 x4, .int .i64 x5, .bool x6, .int .i64 x7])).run Try.prog w = .ok true w := by
  have h : (Op.equalIn (d + 4) 35 (.agg #[.int .i64 x0, .int .i64 x1, .int .i64 x2, .int .i64 x3, .int .i64 x4, .int .i64 x5, .bool x6, .int .i64 x7]) (.agg #[.int .i64 x0, .int .i64 x1, .int .i64 x2, .int .i64 x3, .int .i64 x4, .int .i64 x5, .bool x6, .int .i64 x7])).run Try.prog w = .ok (((x0 == x0 && (x1 == x1 && (x2 == x2))) && (x3 == x3 && (x4 == x4 && (x5 == x5 && (x6 == x6))))) && (x7 == x7)) w := by
    refine eqA_of Try.underlying35 (by kernel_rfl) ?_
    refine eqf_cons (by rfl) (by go_simp) (by go_simp) (eqMsg d w _ _ _ _ _ _ _ _ _ _ _ _ _ _) ?_
    exact eqf_last (by rfl) (by go_simp; rfl) (by go_simp; rfl) (by go_simp)
  simpa using h
attribute [local go_sem high] eqPc
set_option maxHeartbeats 8000000 in
set_option maxRecDepth 100000 in
theorem parcels_call (A : Option Addr) (c : Nat) (a : List Pc) (B : Option Addr) (d : Nat) (ya : a.length * 64 ≤ 140737488355328) (w : World)
    (ha : Kd.C k35 w A a.length a) (hb : Kd.C k35 w B a.length a) :
    Calls Try.prog 25 #[.slice A a.length c, .slice B a.length d] w fun e w' => e = .returned (.bool true) ∧ Below w.heap.size w w' := by
  have HA := hide ha
  have HBb := hide hb
  have hl63 : (a.length : Int) ≤ 9223372036854775806 := by omega
  clear ha hb
  go_enter Try.func25, Try.ntmps25
  go_wp2
  go_loopw [5] (fun i wr => ∃ k : Nat, k ≤ a.length ∧ i = .int .i64 k ∧ Hid (Below w.heap.size w wr)) (fun i _ => a.length - (intOf i).toNat)
  case atStart => exact ⟨0, Nat.zero_le _, rfl, hide (Below.refl _ _)⟩
  case round =>
    obtain ⟨k, hk, rfl, HB⟩ := hrel
    by_cases hlt : k < a.length
    · obtain ⟨ad, rfl, q0, q1, q2, q3, q4, q5, q6, q7⟩ := at_S35 (Kd.C_below HA.out HB.out) hlt
      have b1 : (k : Int) < (a.length : Int) := by omega
      obtain ⟨bd, rfl, p0, p1, p2, p3, p4, p5, p6, p7⟩ := at_S35 (Kd.C_below HBb.out HB.out) hlt
      obtain ⟨x, hx⟩ : ∃ x, a[k] = x := ⟨_, rfl⟩
      rw [hx] at p0 p1 p2 p3 p4 p5 p6 p7 q0 q1 q2 q3 q4 q5 q6 q7
      clear hx
      go_wp2_with fail
      go_quiet (fail)
      go_wp2_with fail
      go_roundw
      case rel => exact ⟨k + 1, by omega, by go_num, hide (below_drewN HB.out _)⟩
      case measure => simp [intOf]; omega
    · have : k = a.length := by omega
      subst this
      have b1 : ¬ (a.length : Int) < (a.length : Int) := by omega
      go_wp2
      go_ret
      exact ⟨rfl, HB.out⟩
end Go.Proofs.Ytdbdaalkmjcifaa.Link
