/- The reference's Place; the walk of EventPlaces. -/
import Derived.Test.YtgnlhlbndgopmaaPlace
import Derived.Test.YtgnlhlbndgopmaaKindsEventPlaces
import Derived.Deep.RegionHeld3
namespace Go.Proofs.Ytgnlhlbndgopmaa.eventPlaces
open Go.RowKit Go.Proofs.Ytgnlhlbndgopmaa.Event Go.Proofs.Ytgnlhlbndgopmaa.PEventPairs Go.Proofs.Ytgnlhlbndgopmaa.Types Go.Proofs.Ytgnlhlbndgopmaa.Place Go.Proofs.Ytgnlhlbndgopmaa.Heap Go.Proofs.YtgnlhlbndgopmaaW.PrintWords Go.Proofs.YtgnlhlbndgopmaaW.PrintLast Go.Proofs.YtgnlhlbndgopmaaW.PrintMore
set_option linter.unusedVariables false
set_option linter.unusedSimpArgs false
theorem rbeforeM (x y : S29) (w : World) : Calls Try.prog 17 #[.agg #[.int .i64 x.f0.f0, .int .i64 x.f0.f1, .int .i64 x.f0.f2, .int .i64 x.f1, .int .i64 x.f2, .int .i64 x.f3, .bool x.f4], .agg #[.int .i64 y.f0.f0, .int .i64 y.f0.f1, .int .i64 y.f0.f2, .int .i64 y.f1, .int .i64 y.f2, .int .i64 y.f3, .bool y.f4]] w fun e w' => e = .returned (.bool (befM x y)) ∧ Below w.heap.size w w' :=
  isochronref02_Before.calls x.f0.f0 x.f0.f1 x.f0.f2 x.f1 x.f2 x.f3 x.f4 y.f0.f0 y.f0.f1 y.f0.f2 y.f1 y.f2 y.f3 y.f4 _ w (by
    have h1 := (before_eq 0 x.f0.f0 x.f0.f1 x.f0.f2 x.f1 x.f2 x.f3 x.f4 y.f0.f0 y.f0.f1 y.f0.f2 y.f1 y.f2 y.f3 y.f4).1
    have h2 := bef_eq 0 x.f0.f0 x.f0.f1 x.f0.f2 x.f1 x.f2 x.f3 x.f4 y.f0.f0 y.f0.f1 y.f0.f2 y.f1 y.f2 y.f3 y.f4
    rw [← h1]; exact h2)

set_option maxHeartbeats 4000000 in
set_option maxRecDepth 100000 in
theorem rplace_call (A : Option Addr) (c : Nat) (l : List S29) (hc : l.length ≤ c) (y : l.length * 56 ≤ 140737488351232) (m : S29) (w : World) (hr : Kd.C k29 w A l.length l) :
    Calls Try.prog 27 #[.slice A l.length c, .agg #[.int .i64 m.f0.f0, .int .i64 m.f0.f1, .int .i64 m.f0.f2, .int .i64 m.f1, .int .i64 m.f2, .int .i64 m.f3, .bool m.f4]] w fun e w' => e = .returned (.int .i64 (plc l m)) ∧ Below w.heap.size w w' := by
  have HR := hide hr
  have HW := hide (Blk.new w 29 #[.int .i64 m.f0.f0, .int .i64 m.f0.f1, .int .i64 m.f0.f2, .int .i64 m.f1, .int .i64 m.f2, .int .i64 m.f3, .bool m.f4])
  have HB0 := hide ((Below.refl w.heap.size w).alloc (Nat.le_refl _) (.cells #[.int .i64 m.f0.f0, .int .i64 m.f0.f1, .int .i64 m.f0.f2, .int .i64 m.f1, .int .i64 m.f2, .int .i64 m.f3, .bool m.f4] 29))
  clear hr
  go_enter Try.func27, Try.ntmps27
  go_wp2
  generalize w.alloc (.cells #[.int .i64 m.f0.f0, .int .i64 m.f0.f1, .int .i64 m.f0.f2, .int .i64 m.f1, .int .i64 m.f2, .int .i64 m.f3, .bool m.f4] 29) = W0 at HW HB0 ⊢
  go_loopw [5, 6] (fun n i wr => ∃ k : Nat, k ≤ l.length ∧ i = .int .i64 k ∧ n = .int .i64 (plc (l.take k) m) ∧ Hid (Below w.heap.size w wr) ∧ Hid (Blk wr w.heap.size 29 #[.int .i64 m.f0.f0, .int .i64 m.f0.f1, .int .i64 m.f0.f2, .int .i64 m.f1, .int .i64 m.f2, .int .i64 m.f3, .bool m.f4])) (fun _ i _ => l.length - (intOf i).toNat)
  case atStart => exact ⟨0, Nat.zero_le _, rfl, rfl, HB0, HW⟩
  case round =>
    obtain ⟨k, hk, rfl, rfl, HB, HG⟩ := hrel
    by_cases hlt : k < l.length
    · obtain ⟨ad, rfl, q0, q1, q2, q3, q4, q5, q6⟩ := at_S29 (HR.out.imp_ HB.out (fun _ _ h => k29.K_below HB.out h)) hlt
      have b1 : (k : Int) < (l.length : Int) := by omega
      have HS := hide (plc_succ l m k hlt)
      have hp := plc_le (l.take k) m
      have hp2 : ((l.take k).length : Int) ≤ l.length := by rw [List.length_take]; omega
      obtain ⟨x, hx⟩ : ∃ x, l[k] = x := ⟨_, rfl⟩
      rw [hx] at q0 q1 q2 q3 q4 q5 q6 HS
      have hp0 := hp.1
      have hp1 : plc (l.take k) m ≤ l.length := Int.le_trans hp.2 hp2
      have HC : Hid (∀ W : World, Calls Try.prog 17 #[.agg #[.int .i64 x.f0.f0, .int .i64 x.f0.f1, .int .i64 x.f0.f2, .int .i64 x.f1, .int .i64 x.f2, .int .i64 x.f3, .bool x.f4], .agg #[.int .i64 m.f0.f0, .int .i64 m.f0.f1, .int .i64 m.f0.f2, .int .i64 m.f1, .int .i64 m.f2, .int .i64 m.f3, .bool m.f4]] W fun e w' => e = .returned (.bool (befM x m)) ∧ Below W.heap.size W w') := hide (fun W => rbeforeM x m W)
      have c0 := HG.out.cell 0
      have c1 := HG.out.cell 1
      have c2 := HG.out.cell 2
      have c3 := HG.out.cell 3
      have c4 := HG.out.cell 4
      have c5 := HG.out.cell 5
      have c6 := HG.out.cell 6
      simp only [List.getElem?_toArray, List.getElem?_cons_zero, List.getElem?_cons_succ] at c0 c1 c2 c3 c4 c5 c6
      clear hx hp hp2
      obtain ⟨P, hP⟩ : ∃ P, plc (l.take k) m = P := ⟨_, rfl⟩
      rw [hP] at HS hp0 hp1 ⊢
      clear hP
      obtain ⟨b, hb⟩ : ∃ b, befM x m = b := ⟨_, rfl⟩
      rw [hb] at HC HS
      clear hb
      cases b
      all_goals
        go_wp2_with fail
        go_still_tail 5, (by kernel_rfl)
        change wpList _ _ _ _ _ wr.drew
        have HB1 : Hid (Below w.heap.size w wr.drew) := hide HB.out.drew
        have HG1 : Hid (Blk wr.drew w.heap.size 29 #[.int .i64 m.f0.f0, .int .i64 m.f0.f1, .int .i64 m.f0.f2, .int .i64 m.f1, .int .i64 m.f2, .int .i64 m.f3, .bool m.f4]) := hide HG.out.drew
        clear q0 q1 q2 q3 q4 q5 q6 c0 c1 c2 c3 c4 c5 c6 HB HG
        generalize wr.drew = wd at HB1 HG1 ⊢
        go_wp2_with (go_at_call 17; refine (HC.out _).mono ?_; rintro e w1 ⟨rfl, hb1⟩; have HB2 := hide (below_step HB1.out hb1); have HG2 := hide (HG1.out.below' hb1); clear hb1)
        go_roundw
        case rel => exact ⟨k + 1, by omega, by go_num, by rw [HS.out]; simp, HB2, HG2⟩
        case measure => simp [intOf]; omega
    · have : k = l.length := by omega
      subst this
      go_wp2
      go_ret
      exact ⟨by first | rfl | (rw [List.take_length]; rfl), HB.out⟩

set_option maxHeartbeats 4000000 in
set_option maxRecDepth 100000 in
theorem walk (A0 : Option Addr) (c0 : Nat) (l0 : List S29) (hc0 : l0.length ≤ c0) (w0 : ∀ y ∈ l0, I29 y) (y0 : l0.length * 56 ≤ 140737488351232) (x1 : S29) (w1 : I29 x1) (w : World) (hr0 : Kd.C k29 w A0 l0.length l0) :
    Calls Try.prog 9 #[.slice A0 l0.length c0, .agg #[.int .i64 x1.f0.f0, .int .i64 x1.f0.f1, .int .i64 x1.f0.f2, .int .i64 x1.f1, .int .i64 x1.f2, .int .i64 x1.f3, .bool x1.f4]] w fun e w' => e = .returned (.bool true) ∧ Below w.heap.size w w' := by
  have HR := hide hr0
  clear hr0 w0 w1
  have HW := hide (Blk.new w 29 #[.int .i64 x1.f0.f0, .int .i64 x1.f0.f1, .int .i64 x1.f0.f2, .int .i64 x1.f1, .int .i64 x1.f2, .int .i64 x1.f3, .bool x1.f4])
  have HB0 := hide ((Below.refl w.heap.size w).alloc (Nat.le_refl _) (.cells #[.int .i64 x1.f0.f0, .int .i64 x1.f0.f1, .int .i64 x1.f0.f2, .int .i64 x1.f1, .int .i64 x1.f2, .int .i64 x1.f3, .bool x1.f4] 29))
  go_enter Try.func9, Try.ntmps9
  go_wp2_with fail
  generalize w.alloc (.cells #[.int .i64 x1.f0.f0, .int .i64 x1.f0.f1, .int .i64 x1.f0.f2, .int .i64 x1.f1, .int .i64 x1.f2, .int .i64 x1.f3, .bool x1.f4] 29) = W at HW HB0 ⊢
  have e0 := HW.out.cell 0
  have e1 := HW.out.cell 1
  have e2 := HW.out.cell 2
  have e3 := HW.out.cell 3
  have e4 := HW.out.cell 4
  have e5 := HW.out.cell 5
  have e6 := HW.out.cell 6
  simp only [List.getElem?_toArray, List.getElem?_cons_zero, List.getElem?_cons_succ] at e0 e1 e2 e3 e4 e5 e6
  obtain ⟨P, hP⟩ : ∃ P, plc l0 x1 = P := ⟨_, rfl⟩
  have T1 : Hid (∀ wx, Below w.heap.size w wx → Calls Try.prog 26 #[.slice A0 l0.length c0, .agg #[.int .i64 x1.f0.f0, .int .i64 x1.f0.f1, .int .i64 x1.f0.f2, .int .i64 x1.f1, .int .i64 x1.f2, .int .i64 x1.f3, .bool x1.f4]] wx fun e w' => e = .returned (.int .i64 P) ∧ Below wx.heap.size wx w') := hide (fun wx hb => by rw [← hP]; exact place_call A0 c0 l0 hc0 y0 x1 wx (HR.out.imp_ hb (fun _ _ h => k29.K_below hb h)))
  have T2 : Hid (∀ wx, Below w.heap.size w wx → Calls Try.prog 27 #[.slice A0 l0.length c0, .agg #[.int .i64 x1.f0.f0, .int .i64 x1.f0.f1, .int .i64 x1.f0.f2, .int .i64 x1.f1, .int .i64 x1.f2, .int .i64 x1.f3, .bool x1.f4]] wx fun e w' => e = .returned (.int .i64 P) ∧ Below wx.heap.size wx w') := hide (fun wx hb => by rw [← hP]; exact rplace_call A0 c0 l0 hc0 y0 x1 wx (HR.out.imp_ hb (fun _ _ h => k29.K_below hb h)))
  clear hP
  have g1 : (P == P) = true := by simp
  go_region_held3 (fun w' => w'.cell? ⟨w.heap.size, 0, none⟩ = some (.int .i64 x1.f0.f0) ∧ w'.cell? ⟨w.heap.size, 1, none⟩ = some (.int .i64 x1.f0.f1) ∧ w'.cell? ⟨w.heap.size, 2, none⟩ = some (.int .i64 x1.f0.f2) ∧ w'.cell? ⟨w.heap.size, 3, none⟩ = some (.int .i64 x1.f1) ∧ w'.cell? ⟨w.heap.size, 4, none⟩ = some (.int .i64 x1.f2) ∧ w'.cell? ⟨w.heap.size, 5, none⟩ = some (.int .i64 x1.f3) ∧ w'.cell? ⟨w.heap.size, 6, none⟩ = some (.bool x1.f4)) (first | exact ⟨HW2.out.cell 0, HW2.out.cell 1, HW2.out.cell 2, HW2.out.cell 3, HW2.out.cell 4, HW2.out.cell 5, HW2.out.cell 6⟩ | go_keep)
    (first | (go_at_call 26; refine (T1.out _ (by first | exact HB0.out.drew | exact HB0.out)).mono ?_; rintro e w2 ⟨rfl, hb2a⟩; have hb2 := below_undrew hb2a; have HB2 := hide (below_step HB0.out hb2); have HW2 := hide (HW.out.below' hb2); clear hb2 hb2a T1) | (go_at_call 27; refine (T2.out _ HB2.out).mono ?_; rintro e w3 ⟨rfl, hb3⟩; have HB3 := hide (below_step HB2.out hb3); have HW3 := hide (HW2.out.below' hb3); clear HW2; have HW2 := HW3; clear hb3 T2) | (go_at_call 15; refine (awake_call _).mono ?_; rintro e w4 ⟨rfl, hb4⟩; have HB4 := hide (below_step HB3.out hb4); have HW3 := hide (HW2.out.below' hb4); clear HW2; have HW2 := HW3; clear hb4))
  all_goals go_wp2
  all_goals go_ret
  all_goals exact ⟨by first | rfl | simp, HB4.out⟩
end Go.Proofs.Ytgnlhlbndgopmaa.eventPlaces
