/- The contracts of trace.Project, its keep and closure, and of the reference's Project. No law is proved here. -/
import Derived.Test.YtcfhkapalcfpiaaTraceC
import Derived.Laws.Rows
import Derived.Laws.NewBlocks
namespace Go.Proofs.Ytcfhkapalcfpiaa.Trace
open Go.RowKit Go.Proofs.Ytcfhkapalcfpiaa.Types Go.Proofs.Ytcfhkapalcfpiaa.Heap Go.Proofs.YtcfhkapalcfpiaaW.PrintWords Go.Proofs.YtcfhkapalcfpiaaW.PrintLast Go.Proofs.YtcfhkapalcfpiaaW.PrintMore
set_option linter.unusedVariables false
set_option linter.unusedSimpArgs false
abbrev D := S29
def own (l : List D) (n : Int) : List D := l.filter (fun d => d.f1 == n)
theorem own_yes {l : List D} {n : Int} {k : Nat} (hk : k < l.length) (h : (l[k].f1 == n) = true) : own (l.take (k + 1)) n = own (l.take k) n ++ [l[k]] := by
  unfold own
  rw [List.take_succ_eq_append_getElem hk, List.filter_append]
  simp [h]
theorem own_no {l : List D} {n : Int} {k : Nat} (hk : k < l.length) (h : (l[k].f1 == n) = false) : own (l.take (k + 1)) n = own (l.take k) n := by
  unfold own
  rw [List.take_succ_eq_append_getElem hk, List.filter_append]
  simp [h]
theorem own_le (l : List D) (n : Int) (k : Nat) : (own (l.take k) n).length ≤ l.length := by
  unfold own
  refine Nat.le_trans (List.length_filter_le _ _) ?_
  rw [List.length_take]
  omega
theorem mk29M (w : World) (base : Nat) (ok : Nat → Prop) (x : D) : k29.M w base ok x [.int .i64 x.f0.f0, .int .i64 x.f0.f1, .int .i64 x.f0.f2, .int .i64 x.f1, .int .i64 x.f2] := ⟨[.int .i64 x.f0.f0, .int .i64 x.f0.f1, .int .i64 x.f0.f2], [.int .i64 x.f1, .int .i64 x.f2], rfl, ⟨[.int .i64 x.f0.f0], [.int .i64 x.f0.f1, .int .i64 x.f0.f2], rfl, rfl, ⟨[.int .i64 x.f0.f1], [.int .i64 x.f0.f2], rfl, rfl, rfl⟩⟩, ⟨[.int .i64 x.f1], [.int .i64 x.f2], rfl, rfl, rfl⟩⟩
theorem blk5 {w : World} {g t : Nat} {a b c d e : Value} (h : Blk w g t #[a, b, c, d, e]) : w.cell? ⟨g, 0, none⟩ = some a ∧ w.cell? ⟨g, 1, none⟩ = some b ∧ w.cell? ⟨g, 2, none⟩ = some c ∧ w.cell? ⟨g, 3, none⟩ = some d ∧ w.cell? ⟨g, 4, none⟩ = some e :=
  ⟨h.cell 0, h.cell 1, h.cell 2, h.cell 3, h.cell 4⟩
def Out (w : World) (l : List D) (n : Int) : Ending → World → Prop := fun e w' => ∃ v, e = .returned v ∧ Kd.R k29 29 w' w.heap.size (fun _ => True) v (own l n) ∧ Below w.heap.size w w'
set_option maxHeartbeats 8000000 in
set_option maxRecDepth 100000 in
theorem rproject_call (A : Option Addr) (c : Nat) (l : List D) (hc : l.length ≤ c) (y : l.length * 40 ≤ 140737488351232) (n : Int) (w : World) (hr : Kd.C k29 w A l.length l) :
    Calls Try.prog 15 #[.slice A l.length c, .int .i64 n] w (Out w l n) := by
  have HR := hide hr
  clear hr
  have hu29 := Try.underlying29
  go_enter Try.func15, Try.ntmps15
  go_wp2
  go_loopw [5, 6] (fun v i wr => ∃ k : Nat, k ≤ l.length ∧ i = .int .i64 k ∧ Hid (Kd.R k29 29 wr w.heap.size (fun _ => True) v (own (l.take k) n)) ∧ Hid (Below w.heap.size w wr)) (fun _ i _ => l.length - (intOf i).toNat)
  case atStart => exact ⟨0, Nat.zero_le _, rfl, hide (Kd.R_nil _ _ _ _ _), hide (Below.refl _ _)⟩
  case round =>
    obtain ⟨k, hk, rfl, HO, HB⟩ := hrel
    by_cases hlt : k < l.length
    · obtain ⟨ad, rfl, q0, q1, q2, q3, q4⟩ := at_S29 (HR.out.imp_ HB.out (fun _ _ h => k29.K_below HB.out h)) hlt
      have b1 : (k : Int) < (l.length : Int) := by omega
      have hle := own_le l n k
      have HY := hide (own_yes (n := n) hlt)
      have HN := hide (own_no (n := n) hlt)
      obtain ⟨x, hx⟩ : ∃ x, l[k] = x := ⟨_, rfl⟩
      rw [hx] at q0 q1 q2 q3 q4 HY HN
      clear hx
      obtain ⟨ys, hys⟩ : ∃ ys, own (l.take k) n = ys := ⟨_, rfl⟩
      rw [hys] at HO HY HN hle
      clear hys
      have HL : Hid (ys.length ≤ l.length) := hide hle
      have HYy : Hid (l.length * 40 ≤ 140737488351232) := hide y
      clear hle
      cases hb : (x.f1 == n)
      · have HN1 := hide (HN.out hb)
        clear HN HY
        go_wp2
        go_roundw
        case rel => exact ⟨k + 1, by omega, by go_num, hide (by rw [HN1.out]; exact HO.out), HB⟩
        case measure => simp [intOf]; omega
      · have HY1 := hide (HY.out hb)
        clear HN HY
        go_wp2_with (first | ((with_reducible refine gate_builtin (b := .append) (xs := #[.tmp 20, .tmp 25]) rfl ?_); at_builtin; refine Kd.R_append k29 (w0 := w) w.heap.size rfl (.tmp 20) (.tmp 25) 22 29 (.agg #[(.int .i64 0), (.int .i64 0), (.int .i64 0), (.int .i64 0), (.int .i64 0)]) 40 rfl Try.underlying22 PTraceDiffers.info29 rfl (by decide) (by omega) _ ys x [.int .i64 x.f0.f0, .int .i64 x.f0.f1, .int .i64 x.f0.f2, .int .i64 x.f1, .int .i64 x.f2] (fun _ => True) (fun _ => False) rfl rfl ?aP (fun _ hk => hk.elim) ?aF ?aO ?aB ?aS ?aL ?_; (case aP => exact mk29M _ _ _ x); (case aB => exact HB.out); (case aF => exact (fun _ _ => trivial)); (case aO => exact HO.out); (case aS => exact below_size HB.out); (case aL => have := HL.out; have := HYy.out; omega); intro v1 w7 ho hb2 hg hat; have HO1 := hide ho; have HB1 := hide hb2; clear HB HO ho hb2 hg hat))
        go_roundw
        case rel => exact ⟨k + 1, by omega, by go_num, hide (by rw [HY1.out]; exact HO1.out), HB1⟩
        case measure => simp [intOf]; omega
    · have : k = l.length := by omega
      subst this
      have b1 : ¬ (l.length : Int) < (l.length : Int) := by omega
      go_wp2
      go_ret
      exact ⟨_, rfl, by have := HO.out; rwa [List.take_length] at this, HB.out⟩
theorem closure_call (x : D) (n : Int) (g : Nat) (w : World) (h : Blk w g 3 #[.int .i64 n]) :
    Calls Try.prog 25 #[.agg #[.int .i64 x.f0.f0, .int .i64 x.f0.f1, .int .i64 x.f0.f2, .int .i64 x.f1, .int .i64 x.f2], .pointer (some ⟨g, 0, none⟩)] w fun e w' => e = .returned (.bool (x.f1 == n)) ∧ Below w.heap.size w w' := by
  have c0 : (w.alloc (.cells #[.int .i64 x.f0.f0, .int .i64 x.f0.f1, .int .i64 x.f0.f2, .int .i64 x.f1, .int .i64 x.f2] 29)).cell? ⟨g, 0, none⟩ = some (.int .i64 n) := (h.alloc _).cell 0
  go_enter Try.func25, Try.ntmps25
  go_wp2
  go_ret
  exact ⟨rfl, (Below.refl w.heap.size w).alloc (Nat.le_refl _) _⟩
set_option maxHeartbeats 8000000 in
set_option maxRecDepth 100000 in
theorem keep_call (A : Option Addr) (c : Nat) (l : List D) (hc : l.length ≤ c) (y : l.length * 40 ≤ 140737488351232) (n : Int) (g : Nat) (w : World) (hr : Kd.C k29 w A l.length l) (h : Blk w g 3 #[.int .i64 n]) :
    Calls Try.prog 24 #[.slice A l.length c, .func (.func 25) #[] #[.pointer (some ⟨g, 0, none⟩)]] w (Out w l n) := by
  have HR := hide hr
  have HG := hide h
  clear hr h
  have hu29 := Try.underlying29
  go_enter Try.func24, Try.ntmps24
  go_wp2
  go_loopw [5, 10] (fun v i wr => ∃ k : Nat, k ≤ l.length ∧ i = .int .i64 k ∧ Hid (Kd.R k29 29 wr w.heap.size (fun _ => True) v (own (l.take k) n)) ∧ Hid (Below w.heap.size w wr)) (fun _ i _ => l.length - (intOf i).toNat)
  case atStart => exact ⟨0, Nat.zero_le _, rfl, hide (Kd.R_nil _ _ _ _ _), hide (Below.refl _ _)⟩
  case round =>
    obtain ⟨k, hk, rfl, HO, HB⟩ := hrel
    by_cases hlt : k < l.length
    · obtain ⟨ad, rfl, q0, q1, q2, q3, q4⟩ := at_S29 (HR.out.imp_ HB.out (fun _ _ h => k29.K_below HB.out h)) hlt
      have b1 : (k : Int) < (l.length : Int) := by omega
      have hle := own_le l n k
      have HY := hide (own_yes (n := n) hlt)
      have HN := hide (own_no (n := n) hlt)
      obtain ⟨x, hx⟩ : ∃ x, l[k] = x := ⟨_, rfl⟩
      rw [hx] at q0 q1 q2 q3 q4 HY HN
      clear hx
      obtain ⟨ys, hys⟩ : ∃ ys, own (l.take k) n = ys := ⟨_, rfl⟩
      rw [hys] at HO HY HN hle
      clear hys
      have HL : Hid (ys.length ≤ l.length) := hide hle
      have HYy : Hid (l.length * 40 ≤ 140737488351232) := hide y
      clear hle
      have HC := hide (closure_call x n g (wr.alloc (.cells #[.int .i64 x.f0.f0, .int .i64 x.f0.f1, .int .i64 x.f0.f2, .int .i64 x.f1, .int .i64 x.f2] 29)) ((HG.out.below HB.out HG.out.lt).alloc _))
      have HX := hide (Blk.new wr 29 #[.int .i64 x.f0.f0, .int .i64 x.f0.f1, .int .i64 x.f0.f2, .int .i64 x.f1, .int .i64 x.f2])
      have HA := hide (HB.out.alloc HB.out.size (.cells #[.int .i64 x.f0.f0, .int .i64 x.f0.f1, .int .i64 x.f0.f2, .int .i64 x.f1, .int .i64 x.f2] 29))
      have HOA := hide (Kd.R_alloc HO.out (.cells #[.int .i64 x.f0.f0, .int .i64 x.f0.f1, .int .i64 x.f0.f2, .int .i64 x.f1, .int .i64 x.f2] 29))
      cases hb : (x.f1 == n)
      · have HN1 := hide (HN.out hb)
        rw [hb] at HC
        clear HN HY
        go_wp2_with (go_at_call 25; refine (unhide HC).mono ?_; rintro e w1 ⟨rfl, hb1⟩; have HB2 := hide (below_step HA.out hb1); have HO2 := hide (Kd.R_below HOA.out hb1); clear hb1)
        go_roundw
        case rel => exact ⟨k + 1, by omega, by go_num, hide (by rw [HN1.out]; exact HO2.out), HB2⟩
        case measure => simp [intOf]; omega
      · have HY1 := hide (HY.out hb)
        rw [hb] at HC
        clear HN HY
        go_wp2_with (first | (go_at_call 25; refine (unhide HC).mono ?_; rintro e w1 ⟨rfl, hb1⟩; have HB2 := hide (below_step HA.out hb1); have HO2 := hide (Kd.R_below HOA.out hb1); obtain ⟨x0, x1, x2, x3, x4⟩ := blk5 (HX.out.below' hb1); clear hb1 HA HX HOA HO HB) | ((with_reducible refine gate_builtin (b := .append) (xs := #[.tmp 17, .tmp 19]) rfl ?_); at_builtin; refine Kd.R_append k29 (w0 := w) w.heap.size rfl (.tmp 17) (.tmp 19) 22 29 (.agg #[(.int .i64 0), (.int .i64 0), (.int .i64 0), (.int .i64 0), (.int .i64 0)]) 40 rfl Try.underlying22 PTraceDiffers.info29 rfl (by decide) (by omega) _ ys x [.int .i64 x.f0.f0, .int .i64 x.f0.f1, .int .i64 x.f0.f2, .int .i64 x.f1, .int .i64 x.f2] (fun _ => True) (fun _ => False) rfl rfl ?aP (fun _ hk => hk.elim) ?aF ?aO ?aB ?aS ?aL ?_; (case aP => exact mk29M _ _ _ x); (case aB => exact HB2.out); (case aF => exact (fun _ _ => trivial)); (case aO => exact HO2.out); (case aS => exact below_size HB2.out); (case aL => have := HL.out; have := HYy.out; omega); intro v1 w7 ho hb2 hg hat; have HO3 := hide ho; have HB3 := hide hb2; clear HB2 HO2 ho hb2 hg hat))
        go_roundw
        case rel => exact ⟨k + 1, by omega, by go_num, hide (by rw [HY1.out]; exact HO3.out), HB3⟩
        case measure => simp [intOf]; omega
    · have : k = l.length := by omega
      subst this
      have b1 : ¬ (l.length : Int) < (l.length : Int) := by omega
      go_wp2
      go_ret
      exact ⟨_, rfl, by have := HO.out; rwa [List.take_length] at this, HB.out⟩
theorem project_call (A : Option Addr) (c : Nat) (l : List D) (hc : l.length ≤ c) (y : l.length * 40 ≤ 140737488351232) (n : Int) (w : World) (hr : Kd.C k29 w A l.length l) :
    Calls Try.prog 14 #[.slice A l.length c, .int .i64 n] w (Out w l n) := by
  have hb0 : Below w.heap.size w (w.alloc (.cells #[.int .i64 n] 3)) := (Below.refl w.heap.size w).alloc (Nat.le_refl _) _
  have HC := hide (keep_call A c l hc y n w.heap.size (w.alloc (.cells #[.int .i64 n] 3)) (hr.imp_ hb0 (fun _ _ h => k29.K_below hb0 h)) (Blk.new _ _ _))
  clear hr
  go_enter Try.func14, Try.ntmps14
  go_wp2_with (go_at_call 24; refine (unhide HC).mono ?_; rintro e w1 ⟨v, rfl, ho, hb1⟩; have HO := hide ho; have HB := hide hb1; clear ho hb1)
  go_ret
  exact ⟨_, rfl, Kd.R_lower HO.out (by simp), hb0.trans (HB.out.mono (by simp))⟩
end Go.Proofs.Ytcfhkapalcfpiaa.Trace
