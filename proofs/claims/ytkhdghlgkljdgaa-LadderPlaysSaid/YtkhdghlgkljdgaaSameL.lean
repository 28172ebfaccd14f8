/- The contract of the law's own 'same': two lists of messages, element by element. No law is proved here. -/
import Derived.Test.YtkhdghlgkljdgaaSorted
import Derived.Shelf.SlSortCmp.QuietGrown
set_option linter.unusedVariables false
set_option linter.unusedSimpArgs false
namespace Go.Proofs.Ytkhdghlgkljdgaa.Same
open Go.Proofs Go.RowKit Go.Sort Go.Proofs.Ytkhdghlgkljdgaa.Types Go.Proofs.Ytkhdghlgkljdgaa.Heap Go.Proofs.Ytkhdghlgkljdgaa.Row Go.Proofs.Ytkhdghlgkljdgaa.Ord Go.Proofs.YtkhdghlgkljdgaaW.PrintWords Go.Proofs.YtkhdghlgkljdgaaW.PrintLast Go.Proofs.YtkhdghlgkljdgaaW.PrintMore
open Go.Proofs.Ytkhdghlgkljdgaa.Sorted (M OwnM Made flatM infoM zM)
/-- Are two messages' fields alike? -/
def eqv (x0 x1 x2 x3 x4 x5 : Int) (x6 : Bool) (y0 y1 y2 y3 y4 y5 : Int) (y6 : Bool) : Bool := (x0 == y0 && (x1 == y1 && (x2 == y2))) && (x3 == y3 && (x4 == y4 && (x5 == y5 && (x6 == y6))))
def eqM (x y : M) : Bool := eqv x.f0.f0 x.f0.f1 x.f0.f2 x.f1 x.f2 x.f3 x.f4 y.f0.f0 y.f0.f1 y.f0.f2 y.f1 y.f2 y.f3 y.f4
theorem eqM_iff (x y : M) : eqM x y = true ↔ x = y := by
  obtain ⟨⟨a, b, c⟩, d, e, f, g⟩ := x
  obtain ⟨⟨a', b', c'⟩, d', e', f', g'⟩ := y
  unfold eqM eqv
  simp [and_assoc]
theorem eqM_refl (x : M) : eqM x x = true := (eqM_iff x x).2 rfl
theorem eqM_ne {x y : M} (h : x ≠ y) : eqM x y = false := by
  cases hq : eqM x y
  · rfl
  · exact absurd ((eqM_iff x y).1 hq) h
theorem eqRun (d : Nat) (w : World) (x0 x1 x2 x3 x4 x5 : Int) (x6 : Bool) (y0 y1 y2 y3 y4 y5 : Int) (y6 : Bool) :
    (Op.equalIn (d + 3) 25 (.agg #[.int .i64 x0, .int .i64 x1, .int .i64 x2, .int .i64 x3, .int .i64 x4, .int .i64 x5, .bool x6]) (.agg #[.int .i64 y0, .int .i64 y1, .int .i64 y2, .int .i64 y3, .int .i64 y4, .int .i64 y5, .bool y6])).run Try.prog w = .ok (eqv x0 x1 x2 x3 x4 x5 x6 y0 y1 y2 y3 y4 y5 y6) w := by
  unfold eqv
  refine eqA_of Try.underlying25 (by kernel_rfl) ?_
  refine eqf_cons (by rfl) (by go_simp) (by go_simp) (eqK d w _ _ _ _ _ _) ?_
  refine eqf_cons (by rfl) (by go_simp; rfl) (by go_simp; rfl) (by go_simp) ?_
  refine eqf_cons (by rfl) (by go_simp; rfl) (by go_simp; rfl) (by go_simp) ?_
  refine eqf_cons (by rfl) (by go_simp; rfl) (by go_simp; rfl) (by go_simp) ?_
  exact eqf_last (by rfl) (by go_simp; rfl) (by go_simp; rfl) (by go_simp)
attribute [local go_sem high] eqRun
theorem take_snoc_eq {a b : List M} {i : Nat} (ha : i < a.length) (hb : i < b.length) (h : a.take i = b.take i) (e : a[i] = b[i]) : a.take (i + 1) = b.take (i + 1) := by
  rw [List.take_succ_eq_append_getElem ha, List.take_succ_eq_append_getElem hb, h, e]
set_option maxHeartbeats 8000000 in
set_option maxRecDepth 100000 in
theorem same_call (A : Option Addr) (na c : Nat) (a : List M) (B : Option Addr) (nb d : Nat) (b : List M) (hna : na = a.length) (hnb : nb = b.length) (ya : a.length * 56 ≤ 140737488355328) (v : Bool) (hv : v = true ↔ a = b) (w : World)
    (ha : Kd.C k25 w A na a) (hb : Kd.C k25 w B nb b) :
    Calls Try.prog 15 #[.slice A na c, .slice B nb d] w fun e w' => e = .returned (.bool v) ∧ Gr w w' := by
  subst hna hnb
  have HA := hide ha
  have HBb := hide hb
  have HV := hide hv
  have hl63 : (a.length : Int) ≤ 9223372036854775806 := by omega
  clear ha hb hv
  by_cases hl : a.length = b.length
  · have e1 : ((a.length : Int) != (b.length : Int)) = false := by rw [hl]; simp
    have e2 : (a.length != b.length) = false := by rw [hl]; simp
    go_enter Try.func15, Try.ntmps15
    go_wp2
    go_loopw [5] (fun i wr => ∃ k : Nat, k ≤ a.length ∧ i = .int .i64 k ∧ Hid (a.take k = b.take k) ∧ Hid (Gr w wr)) (fun i _ => a.length - (intOf i).toNat)
    case atStart => exact ⟨0, Nat.zero_le _, rfl, hide rfl, hide (Gr.refl _)⟩
    case round =>
      obtain ⟨k, hk, rfl, HT, HB⟩ := hrel
      by_cases hlt : k < a.length
      · obtain ⟨ad, rfl, q0, q1, q2, q3, q4, q5, q6⟩ := at_S25 (C_below HA.out HB.out.below) hlt
        have b1 : (k : Int) < (a.length : Int) := by omega
        have hlb : k < b.length := by omega
        obtain ⟨bd, rfl, p0, p1, p2, p3, p4, p5, p6⟩ := at_S25 (C_below HBb.out HB.out.below) hlb
        have b2 : (k : Int) < (b.length : Int) := by omega
        by_cases he : a[k] = b[k]
        · have HT1 := hide (take_snoc_eq hlt hlb HT.out he)
          obtain ⟨x, hx⟩ : ∃ x, a[k] = x := ⟨_, rfl⟩
          rw [← he, hx] at p0 p1 p2 p3 p4 p5 p6
          rw [hx] at q0 q1 q2 q3 q4 q5 q6
          clear hx he
          have n1 := eqM_refl x
          unfold eqM at n1
          go_wp2_with fail
          go_quiet (fail)
          go_wp2_with fail
          go_roundw
          case rel => exact ⟨k + 1, by omega, by go_num, HT1, hide (HB.out.drewN _)⟩
          case measure => simp [intOf]; omega
        · have HE : Hid (v = false) := hide (by
            cases hvv : v
            · rfl
            · exact absurd (by have := HV.out.1 hvv; subst this; rfl) he)
          have n1 := eqM_ne he
          unfold eqM at n1
          obtain ⟨x, hx⟩ : ∃ x, a[k] = x := ⟨_, rfl⟩
          obtain ⟨y, hy⟩ : ∃ y, b[k] = y := ⟨_, rfl⟩
          rw [hx] at q0 q1 q2 q3 q4 q5 q6 n1
          rw [hy] at p0 p1 p2 p3 p4 p5 p6 n1
          clear hx hy he
          go_wp2_with fail
          go_quiet (fail)
          go_wp2_with fail
          go_ret
          exact ⟨by rw [HE.out]; rfl, HB.out.drewN _⟩
      · have : k = a.length := by omega
        subst this
        have b1 : ¬ (a.length : Int) < (a.length : Int) := by omega
        have HE : Hid (v = true) := hide (HV.out.2 (by have := HT.out; rw [List.take_length, hl, List.take_length] at this; exact this))
        go_wp2
        go_ret
        exact ⟨by rw [HE.out]; rfl, HB.out⟩
  · have HE : Hid (v = false) := hide (by
      cases hvv : v
      · rfl
      · exact absurd (by have := HV.out.1 hvv; subst this; rfl) hl)
    have e1 : ((a.length : Int) != (b.length : Int)) = true := by simp; omega
    have e2 : (a.length != b.length) = true := by simpa using hl
    go_enter Try.func15, Try.ntmps15
    go_wp2
    go_ret
    exact ⟨by rw [HE.out]; rfl, Gr.refl _⟩
end Go.Proofs.Ytkhdghlgkljdgaa.Same
