/- The ladder's above and behind. No law is proved here. -/
import Derived.Test.YtkhdghlgkljdgaaLA
namespace Go.Proofs.Ytkhdghlgkljdgaa.LQ
open Go.Proofs Go.Proofs.Ytkhdghlgkljdgaa.CQ Go.Shelf Go.RowKit Go.Deep Go.Sort Go.Proofs.Ytkhdghlgkljdgaa.SortPure Go.Proofs.Ytkhdghlgkljdgaa.Types Go.Proofs.Ytkhdghlgkljdgaa.Heap Go.Proofs.Ytkhdghlgkljdgaa.Row Go.Proofs.Ytkhdghlgkljdgaa.Ord Go.Proofs.Ytkhdghlgkljdgaa.Sorted Go.Proofs.YtkhdghlgkljdgaaW.PrintWords Go.Proofs.YtkhdghlgkljdgaaW.PrintLast Go.Proofs.YtkhdghlgkljdgaaW.PrintMore
set_option linter.unusedVariables false
set_option linter.unusedSimpArgs false
set_option maxHeartbeats 4000000 in
set_option maxRecDepth 100000 in
theorem above_call {w : World} (A : Option Addr) (c : Nat) (l : List M) (m : M) (v : Bool) (hv : l.all (befM m ·) = v) (hr : Kd.C kM w A l.length l) (hl : l.length ≤ 16384) :
    Calls Try.prog 22 #[.slice A l.length c, .agg (cM m).toArray] w fun e w' => e = .returned (.bool v) ∧ Gr w w' := by
  have HR := hide hr
  have HV := hide hv
  have HL := hide hl
  have hl5 : (l.length : Int) ≤ 16384 := by omega
  have HG0 := hide ((Gr.refl w).alloc (.cells (cM m).toArray tM))
  have HM0 := hide (Blk.new w tM (cM m).toArray)
  clear hr hv hl
  unfold cM c25 at HG0 HM0 ⊢
  go_enter Try.func22, Try.ntmps22
  go_wp2_with fail
  generalize w.alloc (.cells #[.int .i64 m.f0.f0, .int .i64 m.f0.f1, .int .i64 m.f0.f2, .int .i64 m.f1, .int .i64 m.f2, .int .i64 m.f3, .bool m.f4] tM) = w1 at HG0 HM0 ⊢
  generalize w.heap.size = gm at HM0 ⊢
  go_loopw [9] (fun iv wr => ∃ k : Nat, k ≤ l.length ∧ iv = .int .i64 k ∧ Hid (∀ i (hi : i < l.length), i < k → befM m l[i] = true) ∧ Hid (Gr w1 wr)) (fun iv _ => l.length - (intOf iv).toNat)
  case atStart => exact ⟨0, Nat.zero_le _, rfl, hide (fun i _ h => absurd h (Nat.not_lt_zero _)), hide (Gr.refl _)⟩
  case round =>
    obtain ⟨k, hk, rfl, HT, HG⟩ := hrel
    by_cases hlt : k < l.length
    · have b1 : (k : Int) < (l.length : Int) := by omega
      obtain ⟨ad, rfl, q0, q1, q2, q3, q4, q5, q6⟩ := at_S25 (C_below HR.out (HG0.out.trans HG.out).below) hlt
      obtain ⟨t, ht⟩ : ∃ t, l[k] = t := ⟨_, rfl⟩
      have HTT := hide ht
      rw [ht] at q0 q1 q2 q3 q4 q5 q6
      clear ht
      have HM1 := hide ((HM0.out.below' HG.out.below).alloc (.cells #[.int .i64 t.f0.f0, .int .i64 t.f0.f1, .int .i64 t.f0.f2, .int .i64 t.f1, .int .i64 t.f2, .int .i64 t.f3, .bool t.f4] tM))
      have HX1 := hide (Blk.new wr tM #[.int .i64 t.f0.f0, .int .i64 t.f0.f1, .int .i64 t.f0.f2, .int .i64 t.f1, .int .i64 t.f2, .int .i64 t.f3, .bool t.f4])
      have HG1 := hide (HG.out.alloc (.cells #[.int .i64 t.f0.f0, .int .i64 t.f0.f1, .int .i64 t.f0.f2, .int .i64 t.f1, .int .i64 t.f2, .int .i64 t.f3, .bool t.f4] tM))
      have y0 : (wr.alloc (.cells #[.int .i64 t.f0.f0, .int .i64 t.f0.f1, .int .i64 t.f0.f2, .int .i64 t.f1, .int .i64 t.f2, .int .i64 t.f3, .bool t.f4] tM)).cell? ⟨gm, 0, none⟩ = some (.int .i64 m.f0.f0) := HM1.out.cell 0
      have y1 : (wr.alloc (.cells #[.int .i64 t.f0.f0, .int .i64 t.f0.f1, .int .i64 t.f0.f2, .int .i64 t.f1, .int .i64 t.f2, .int .i64 t.f3, .bool t.f4] tM)).cell? ⟨gm, 1, none⟩ = some (.int .i64 m.f0.f1) := HM1.out.cell 1
      have y2 : (wr.alloc (.cells #[.int .i64 t.f0.f0, .int .i64 t.f0.f1, .int .i64 t.f0.f2, .int .i64 t.f1, .int .i64 t.f2, .int .i64 t.f3, .bool t.f4] tM)).cell? ⟨gm, 2, none⟩ = some (.int .i64 m.f0.f2) := HM1.out.cell 2
      have y3 : (wr.alloc (.cells #[.int .i64 t.f0.f0, .int .i64 t.f0.f1, .int .i64 t.f0.f2, .int .i64 t.f1, .int .i64 t.f2, .int .i64 t.f3, .bool t.f4] tM)).cell? ⟨gm, 3, none⟩ = some (.int .i64 m.f1) := HM1.out.cell 3
      have y4 : (wr.alloc (.cells #[.int .i64 t.f0.f0, .int .i64 t.f0.f1, .int .i64 t.f0.f2, .int .i64 t.f1, .int .i64 t.f2, .int .i64 t.f3, .bool t.f4] tM)).cell? ⟨gm, 4, none⟩ = some (.int .i64 m.f2) := HM1.out.cell 4
      have y5 : (wr.alloc (.cells #[.int .i64 t.f0.f0, .int .i64 t.f0.f1, .int .i64 t.f0.f2, .int .i64 t.f1, .int .i64 t.f2, .int .i64 t.f3, .bool t.f4] tM)).cell? ⟨gm, 5, none⟩ = some (.int .i64 m.f3) := HM1.out.cell 5
      have y6 : (wr.alloc (.cells #[.int .i64 t.f0.f0, .int .i64 t.f0.f1, .int .i64 t.f0.f2, .int .i64 t.f1, .int .i64 t.f2, .int .i64 t.f3, .bool t.f4] tM)).cell? ⟨gm, 6, none⟩ = some (.bool m.f4) := HM1.out.cell 6
      have HC := hide (before_call m t (wr.alloc (.cells #[.int .i64 t.f0.f0, .int .i64 t.f0.f1, .int .i64 t.f0.f2, .int .i64 t.f1, .int .i64 t.f2, .int .i64 t.f3, .bool t.f4] tM)))
      unfold c25 at HC
      go_wp2_with fail
      refine HC.out.mono ?_
      rintro e w2 ⟨rfl, hg⟩
      have HG2 := hide (HG1.out.trans hg)
      clear hg HC HM1 HG1 HX1 y0 y1 y2 y3 y4 y5 y6 q0 q1 q2 q3 q4 q5 q6
      cases hb : befM m t
      · have hv : v = false := by
          rw [← HV.out, List.all_eq_false]
          exact ⟨l[k], List.getElem_mem hlt, by rw [HTT.out, hb]; simp⟩
        subst hv
        go_wp2_with fail
        go_ret
        exact ⟨rfl, HG0.out.trans HG2.out⟩
      · have HT2 : Hid (∀ i (hi : i < l.length), i < k + 1 → befM m l[i] = true) := hide (fun i hi h => by
          rcases Nat.lt_or_ge i k with e | e
          · exact HT.out i hi e
          · obtain rfl : i = k := by omega
            rw [HTT.out]; exact hb)
        go_wp2_with fail
        go_roundw
        case rel => exact ⟨k + 1, by omega, by go_num, HT2, HG2⟩
        case measure => simp [intOf]; omega
    · have b1 : ¬ (k : Int) < (l.length : Int) := by omega
      have hkl : k = l.length := by omega
      have hall : l.all (befM m ·) = true := by
        rw [List.all_eq_true]
        intro x hx
        obtain ⟨i, hi, rfl⟩ := List.getElem_of_mem hx
        exact HT.out i hi (by omega)
      have hv : v = true := by rw [← HV.out, hall]
      subst hv
      go_wp2_with fail
      go_ret
      exact ⟨rfl, HG0.out.trans HG.out⟩
end Go.Proofs.Ytkhdghlgkljdgaa.LQ
