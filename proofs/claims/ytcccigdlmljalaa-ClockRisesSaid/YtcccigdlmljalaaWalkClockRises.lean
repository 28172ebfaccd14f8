/- The walk of ClockRises. -/
import Derived.Test.YtcccigdlmljalaaClockTells
import Derived.Test.YtcccigdlmljalaaKindsClockRises
import Derived.StillTailTactics
namespace Go.Proofs.Ytcccigdlmljalaa.clockRises
theorem unhide {p : Prop} (h : Go.RowKit.Hid p) : p := h
open Go.RowKit Go.Deep Go.Proofs.Ytcccigdlmljalaa.Heap Go.Proofs.Ytcccigdlmljalaa.Clock Go.Proofs.YtcccigdlmljalaaW.PrintWords Go.Proofs.YtcccigdlmljalaaW.PrintLast Go.Proofs.YtcccigdlmljalaaW.PrintMore
set_option linter.unusedVariables false
set_option linter.unusedSimpArgs false
attribute [local go_sem] max2_int min2_int max_two min_two max_three min_three max_four min_four
theorem b8 {x : Int} (h : (Lit.int .u8 x).wf = true) : 0 ≤ x ∧ x ≤ 255 := by
  have hmin : IntKind.u8.min = 0 := rfl
  have hmax : IntKind.u8.max = 255 := rfl
  simp only [Lit.wf, Bool.and_eq_true, decide_eq_true_eq] at h
  omega
theorem mn_mono {a b c d : Int} (h : a ≤ b) (k : c ≤ d) : mn a c ≤ mn b d := by
  unfold mn
  repeat' split
  all_goals omega
theorem rbnd_mono {xs ys : List Int} (hl : xs.length = ys.length) (h : ∀ i (h1 : i < xs.length) (h2 : i < ys.length), xs[i] ≤ ys[i]) : rbnd xs ≤ rbnd ys := by
  unfold rbnd
  suffices H : ∀ a b : Int, a ≤ b → xs.foldl mn a ≤ ys.foldl mn b from H _ _ (Int.le_refl _)
  induction xs generalizing ys with
  | nil =>
    cases ys with
    | nil => intro a b h; exact h
    | cons _ _ => simp at hl
  | cons x xs ih =>
    cases ys with
    | nil => simp at hl
    | cons y ys =>
      intro a b hab
      have hxy : x ≤ y := h 0 (by simp) (by simp)
      show xs.foldl mn (mn a x) ≤ ys.foldl mn (mn b y)
      exact ih (by simpa using hl) (fun i h1 h2 => h (i + 1) (by simpa using h1) (by simpa using h2)) _ _ (mn_mono hab hxy)
theorem bnd_nxt (ts : List Int) (i t : Int) : bnd ts ≤ bnd (nxt ts i t) := by
  rw [bnd_eq, bnd_eq]
  refine rbnd_mono (nxt_length _ _ _).symm (fun k h1 h2 => ?_)
  unfold nxt
  split
  · rw [List.getElem_set]
    split
    · rename_i e
      subst e
      simp [h1]
      unfold mx
      split <;> omega
    · exact Int.le_refl _
  · exact Int.le_refl _
theorem bnd_zero (M : Nat) (h : 1 ≤ M) : 0 ≤ bnd (List.replicate M 0) := by
  rw [bnd_eq]
  unfold rbnd
  suffices H : ∀ a : Int, 0 ≤ a → 0 ≤ (List.replicate M (0 : Int)).foldl mn a from H _ (by omega)
  clear h
  induction M with
  | zero => intro a ha; exact ha
  | succ M ih => intro a ha; exact ih _ (by unfold mn; split <;> omega)

set_option maxHeartbeats 8000000 in
set_option maxRecDepth 100000 in
theorem walk (a0 : Int) (w0 : (Lit.int .u8 a0).wf = true) (A1 : Option Addr) (c1 : Nat) (l1 : List S31) (hc1 : l1.length ≤ c1) (w1 : ∀ y ∈ l1, I31 y) (y1 : l1.length * 16 ≤ 140737488351232) (w : World) (hr1 : Kd.C k31 w A1 l1.length l1) :
    Calls Try.prog 4 #[.int .u8 a0, .slice A1 l1.length c1] w fun e w' => e = .returned (.bool true) ∧ Below w.heap.size w w' := by
  obtain ⟨h0, h1⟩ := b8 w0
  obtain ⟨M, hM⟩ := Int.eq_ofNat_of_zero_le (show 0 ≤ 1 + a0 % 20 by omega)
  have T0 := hide (fun W => new_call M (by omega) W)
  have m1 : 1 ≤ M := by omega
  have m2 : M ≤ 20 := by omega
  have HR := hide hr1
  clear w0 w1 hr1
  go_enter Try.func4, Try.ntmps4
  go_wp2_with (go_at_call 8; refine (T0.out _).mono ?_; rintro e w1 ⟨rfl, hC1, hO1⟩; have HC1 := hide hC1; clear hC1; have HO1 := hide hO1; clear hO1; clear T0)
  go_loopw [8, 9] (fun last i wr => ∃ (k : Nat) (L : Int) (ts : List Int), k ≤ l1.length ∧ i = .int .i64 k ∧ last = .int .i64 L ∧ Hid (Clk wr (w.heap.size + 1) w.heap.size ts) ∧ ts.length = M ∧ Hid (L ≤ bnd ts) ∧ Hid (Only w wr (fun _ => False))) (fun _ i _ => l1.length - (intOf i).toNat)
  case atStart => exact ⟨0, 0, _, Nat.zero_le _, rfl, rfl, HC1, by simp, bnd_zero M m1, HO1⟩
  case round =>
    obtain ⟨k, L, ts, hk, rfl, rfl, HC, hl, HL, HO⟩ := hrel
    clear HC1 HO1
    by_cases hlt : k < l1.length
    · by_cases h5 : k < 500
      · obtain ⟨ad, rfl, q1, q2⟩ := at_S31 HR.out hlt
        have q1' := (HO.out.cell (World.block_lt_of_cell? w _ q1) (fun h => h)).trans q1
        have q2' := (HO.out.cell (World.block_lt_of_cell? w _ q2) (fun h => h)).trans q2
        clear q1 q2
        obtain ⟨I, hI⟩ : ∃ I, l1[k].f0 = I := ⟨_, rfl⟩
        obtain ⟨T, hT⟩ : ∃ T, l1[k].f1 = T := ⟨_, rfl⟩
        rw [hI] at q1'
        rw [hT] at q2'
        clear hI hT
        have b1 : (k : Int) < (l1.length : Int) := by omega
        have b2 : (k : Int) < 500 := by omega
        go_wp2_with fail
        go_still_tail 11, (by kernel_rfl)
        change wpList _ _ _ _ _ wr.drew
        have HCd : Hid (Clk wr.drew (w.heap.size + 1) w.heap.size ts) := HC.out
        have HOd : Hid (Only w wr.drew (fun _ => False)) := hide HO.out.drew
        clear q1' q2' HC HO
        generalize wr.drew = wd at HCd HOd ⊢
        obtain ⟨ts2, hts2⟩ : ∃ t, nxt ts I T = t := ⟨_, rfl⟩
        have hl2 : ts2.length = M := by rw [← hts2, nxt_length]; exact hl
        have HN : Hid (bnd ts ≤ bnd ts2) := by rw [← hts2]; exact bnd_nxt _ _ _
        have T1 : Hid (Calls Try.prog 10 #[.pointer (some ⟨w.heap.size + 1, 0, none⟩), .int .i64 I, .int .i64 T] wd fun e w' => e = .returned (.int .i64 (errOf ts.length I T)) ∧ Clk w' (w.heap.size + 1) w.heap.size ts2 ∧ Only wd w' (fun b => b = w.heap.size)) := by
          rw [← hts2]
          exact tell_any wd _ _ ts I T HCd.out
        clear hts2
        obtain ⟨E, hE⟩ : ∃ E, errOf ts.length I T = E := ⟨_, rfl⟩
        rw [hE] at T1
        clear hE
        go_wp2_with (first | (go_at_call 10; refine (unhide T1).mono ?_; rintro e w2 ⟨rfl, hC2, hO2⟩; have HC2 := hide hC2; clear hC2; have HO2 := hide (HOd.out.step hO2 (fun i hi hlt => by omega)); clear hO2; clear T1) | (go_at_call 12; refine (bound_call _ _ _ _ HC2.out).mono ?_; rintro e w3 ⟨rfl, hb3⟩; have HO3 := hide (HO2.out.trans (only_of_below hb3 _)); have HC3 : Hid (Clk w3 (w.heap.size + 1) w.heap.size ts2) := hide ⟨HC2.out.1.below' hb3, HC2.out.2.1.below' hb3, HC2.out.2.2⟩; clear hb3))
        clear HC2 HO2
        go_loop [11, 12] (fun least j => ∃ q : Nat, q ≤ M ∧ j = .int .i64 q ∧ least = .int .i64 (rbnd (ts2.take q))) (fun _ j => M - (intOf j).toNat)
        case atStart => exact ⟨0, Nat.zero_le _, rfl, rfl⟩
        case round =>
          obtain ⟨q, hq, rfl, rfl⟩ := hrel
          by_cases hq2 : q < M
          · have hq3 : q < ts2.length := by omega
            have HS := hide (rbnd_succ ts2 q hq3)
            obtain ⟨x, hx⟩ : ∃ x, x = ts2[q] := ⟨_, rfl⟩
            have HA : Hid (Calls Try.prog 14 #[.pointer (some ⟨w.heap.size + 1, 0, none⟩), .int .i64 q] w3 fun e w' => e = .returned (.int .i64 x) ∧ w3 = w') := by
              rw [hx]
              exact at_in w3 _ _ ts2 q HC3.out hq3
            rw [← hx] at HS
            clear hx hq3
            obtain ⟨y, hy⟩ : ∃ y, rbnd (ts2.take q) = y := ⟨_, rfl⟩
            rw [hy] at HS ⊢
            obtain ⟨m, hm⟩ : ∃ m, mn y x = m := ⟨_, rfl⟩
            rw [hm] at HS
            have hm_ : (if x < y then x else y) = m := hm
            clear hy hm
            have hq4 : (q : Int) < (M : Int) := by omega
            go_wp2_with (go_at_call 14; refine (unhide HA).mono ?_; rintro e w5 ⟨rfl, rfl⟩)
            go_round
            case rel => exact ⟨q + 1, by omega, by go_num, by rw [HS.out]⟩
            case measure => simp [intOf]; omega
          · have : q = M := by omega
            subst this
            have e1 : rbnd (ts2.take q) = bnd ts2 := by rw [bnd_eq, List.take_of_length_le (by omega)]
            rw [e1]
            have e2 : decide (bnd ts2 < L) = false := decide_eq_false (by have := HN.out; have := HL.out; omega)
            have e3 : (bnd ts2 != bnd ts2) = false := by simp
            obtain ⟨B, hB⟩ : ∃ B, bnd ts2 = B := ⟨_, rfl⟩
            rw [hB] at e2 e3 ⊢
            have HB := hide hB
            clear hB e1
            go_wp2
            go_roundw
            case rel => exact ⟨k + 1, B, ts2, by omega, by go_num, rfl, HC3, hl2, by show B ≤ bnd ts2; rw [HB.out]; exact Int.le_refl _, HO3⟩
            case measure => simp [intOf]; omega
      · have b1 : (k : Int) < (l1.length : Int) := by omega
        have b2 : ¬ (k : Int) < 500 := by omega
        go_wp2_with (go_at_call 15; refine (awake_call _).mono ?_; rintro e w5 ⟨rfl, hb5⟩)
        go_ret
        exact ⟨rfl, below_step (HO.out.below (Nat.le_refl _) (fun _ h => h.elim)) hb5⟩
    · have b1 : ¬ (k : Int) < (l1.length : Int) := by omega
      go_wp2_with (go_at_call 15; refine (awake_call _).mono ?_; rintro e w5 ⟨rfl, hb5⟩)
      go_ret
      exact ⟨rfl, below_step (HO.out.below (Nat.le_refl _) (fun _ h => h.elim)) hb5⟩
end Go.Proofs.Ytcccigdlmljalaa.clockRises
