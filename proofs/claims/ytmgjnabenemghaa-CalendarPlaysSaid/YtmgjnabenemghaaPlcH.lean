/- The contracts of event.Place, its count and closure. No law is proved here. -/
import Derived.Test.YtmgjnabenemghaaRef02H
import Derived.StillTailTactics
namespace Go.Proofs.Ytmgjnabenemghaa.Plc
open Go.Proofs.Ytmgjnabenemghaa.Ord (befM before_call Gr)
open Go.RowKit Go.Proofs.Ytmgjnabenemghaa.Types Go.Proofs.Ytmgjnabenemghaa.Heap Go.Proofs.YtmgjnabenemghaaW.PrintWords Go.Proofs.YtmgjnabenemghaaW.PrintLast Go.Proofs.YtmgjnabenemghaaW.PrintMore
set_option linter.unusedVariables false
set_option linter.unusedSimpArgs false
theorem unhide {p : Prop} (h : Hid p) : p := h
theorem beforeM (x y : S25) (w : World) : Calls Try.prog 24 #[.agg #[.int .i64 x.f0.f0, .int .i64 x.f0.f1, .int .i64 x.f0.f2, .int .i64 x.f1, .int .i64 x.f2, .int .i64 x.f3, .bool x.f4], .agg #[.int .i64 y.f0.f0, .int .i64 y.f0.f1, .int .i64 y.f0.f2, .int .i64 y.f1, .int .i64 y.f2, .int .i64 y.f3, .bool y.f4]] w fun e w' => e = .returned (.bool (befM x y)) ∧ Below w.heap.size w w' := (before_call x y w).mono fun _ _ h => ⟨h.1, h.2.below⟩
/-- How many of l are ahead of m. -/
def plc (l : List S25) (m : S25) : Int := (l.filter (befM · m)).length
theorem plc_le (l : List S25) (m : S25) : 0 ≤ plc l m ∧ plc l m ≤ l.length := by
  unfold plc
  have := List.length_filter_le (befM · m) l
  omega
theorem plc_succ (l : List S25) (m : S25) (k : Nat) (h : k < l.length) : plc (l.take (k + 1)) m = plc (l.take k) m + if befM l[k] m then 1 else 0 := by
  unfold plc
  rw [List.take_succ_eq_append_getElem h, List.filter_append, List.length_append]
  cases hb : befM l[k] m <;> simp [hb]

theorem closure_call (x m : S25) (g : Nat) (w : World) (h : Blk w g 25 #[.int .i64 m.f0.f0, .int .i64 m.f0.f1, .int .i64 m.f0.f2, .int .i64 m.f1, .int .i64 m.f2, .int .i64 m.f3, .bool m.f4]) :
    Calls Try.prog 34 #[.agg #[.int .i64 x.f0.f0, .int .i64 x.f0.f1, .int .i64 x.f0.f2, .int .i64 x.f1, .int .i64 x.f2, .int .i64 x.f3, .bool x.f4], .pointer (some ⟨g, 0, none⟩)] w fun e w' => e = .returned (.bool (befM x m)) ∧ Below w.heap.size w w' := by
  have hlt := h.lt
  have h2 := h.alloc (.cells #[.int .i64 x.f0.f0, .int .i64 x.f0.f1, .int .i64 x.f0.f2, .int .i64 x.f1, .int .i64 x.f2, .int .i64 x.f3, .bool x.f4] 25)
  have c0 := h2.cell 0
  have c1 := h2.cell 1
  have c2 := h2.cell 2
  have c3 := h2.cell 3
  have c4 := h2.cell 4
  have c5 := h2.cell 5
  have c6 := h2.cell 6
  simp only [List.getElem?_toArray, List.getElem?_cons_zero, List.getElem?_cons_succ] at c0 c1 c2 c3 c4 c5 c6
  clear h h2
  go_enter Try.func34, Try.ntmps34
  go_wp2_with (go_at_call 24; refine (beforeM x m _).mono ?_; rintro e w1 ⟨rfl, hb1⟩)
  go_ret
  exact ⟨rfl, below_step ((Below.refl w.heap.size w).alloc (Nat.le_refl _) _) hb1⟩

set_option maxHeartbeats 4000000 in
set_option maxRecDepth 100000 in
theorem count_call (A : Option Addr) (c : Nat) (l : List S25) (hc : l.length ≤ c) (y : l.length * 56 ≤ 140737488351232) (m : S25) (g : Nat) (w : World) (hr : Kd.C k25 w A l.length l) (h : Blk w g 25 #[.int .i64 m.f0.f0, .int .i64 m.f0.f1, .int .i64 m.f0.f2, .int .i64 m.f1, .int .i64 m.f2, .int .i64 m.f3, .bool m.f4]) :
    Calls Try.prog 33 #[.slice A l.length c, .func (.func 34) #[] #[.pointer (some ⟨g, 0, none⟩)]] w fun e w' => e = .returned (.int .i64 (plc l m)) ∧ Below w.heap.size w w' := by
  have HR := hide hr
  have HG := hide h
  clear hr h
  go_enter Try.func33, Try.ntmps33
  go_wp2
  go_loopw [5, 10] (fun n i wr => ∃ k : Nat, k ≤ l.length ∧ i = .int .i64 k ∧ n = .int .i64 (plc (l.take k) m) ∧ Hid (Below w.heap.size w wr)) (fun _ i _ => l.length - (intOf i).toNat)
  case atStart => exact ⟨0, Nat.zero_le _, rfl, rfl, hide (Below.refl _ _)⟩
  case round =>
    obtain ⟨k, hk, rfl, rfl, HB⟩ := hrel
    by_cases hlt : k < l.length
    · obtain ⟨ad, rfl, q0, q1, q2, q3, q4, q5, q6⟩ := at_S25 (HR.out.imp_ HB.out (fun _ _ h => k25.K_below HB.out h)) hlt
      have b1 : (k : Int) < (l.length : Int) := by omega
      have HS := hide (plc_succ l m k hlt)
      have hp := plc_le (l.take k) m
      have hp2 : ((l.take k).length : Int) ≤ l.length := by rw [List.length_take]; omega
      obtain ⟨x, hx⟩ : ∃ x, l[k] = x := ⟨_, rfl⟩
      rw [hx] at q0 q1 q2 q3 q4 q5 q6 HS
      have hp0 := hp.1
      have hp1 : plc (l.take k) m ≤ l.length := Int.le_trans hp.2 hp2
      have HC : Hid (Calls Try.prog 34 #[.agg #[.int .i64 x.f0.f0, .int .i64 x.f0.f1, .int .i64 x.f0.f2, .int .i64 x.f1, .int .i64 x.f2, .int .i64 x.f3, .bool x.f4], .pointer (some ⟨g, 0, none⟩)] (wr.alloc (.cells #[.int .i64 x.f0.f0, .int .i64 x.f0.f1, .int .i64 x.f0.f2, .int .i64 x.f1, .int .i64 x.f2, .int .i64 x.f3, .bool x.f4] 25)) fun e w' => e = .returned (.bool (befM x m)) ∧ Below (wr.alloc (.cells #[.int .i64 x.f0.f0, .int .i64 x.f0.f1, .int .i64 x.f0.f2, .int .i64 x.f1, .int .i64 x.f2, .int .i64 x.f3, .bool x.f4] 25)).heap.size (wr.alloc (.cells #[.int .i64 x.f0.f0, .int .i64 x.f0.f1, .int .i64 x.f0.f2, .int .i64 x.f1, .int .i64 x.f2, .int .i64 x.f3, .bool x.f4] 25)) w') :=
        hide (closure_call x m g _ ((HG.out.below' HB.out).alloc _))
      clear hx hp hp2
      obtain ⟨P, hP⟩ : ∃ P, plc (l.take k) m = P := ⟨_, rfl⟩
      rw [hP] at HS hp0 hp1 ⊢
      clear hP
      obtain ⟨b, hb⟩ : ∃ b, befM x m = b := ⟨_, rfl⟩
      rw [hb] at HC HS
      clear hb
      have HB1 := hide (HB.out.alloc HB.out.size (.cells #[.int .i64 x.f0.f0, .int .i64 x.f0.f1, .int .i64 x.f0.f2, .int .i64 x.f1, .int .i64 x.f2, .int .i64 x.f3, .bool x.f4] 25))
      cases b
      all_goals
        go_wp2_with (go_at_call 34; refine (unhide HC).mono ?_; rintro e w1 ⟨rfl, hb1⟩; have HB2 := hide (below_step HB1.out hb1); clear hb1)
        go_roundw
        case rel => exact ⟨k + 1, by omega, by go_num, by rw [HS.out]; simp, HB2⟩
        case measure => simp [intOf]; omega
    · have : k = l.length := by omega
      subst this
      go_wp2
      go_ret
      exact ⟨by first | rfl | (rw [List.take_length]; rfl), HB.out⟩

theorem place_call (A : Option Addr) (c : Nat) (l : List S25) (hc : l.length ≤ c) (y : l.length * 56 ≤ 140737488351232) (m : S25) (w : World) (hr : Kd.C k25 w A l.length l) :
    Calls Try.prog 23 #[.slice A l.length c, .agg #[.int .i64 m.f0.f0, .int .i64 m.f0.f1, .int .i64 m.f0.f2, .int .i64 m.f1, .int .i64 m.f2, .int .i64 m.f3, .bool m.f4]] w fun e w' => e = .returned (.int .i64 (plc l m)) ∧ Below w.heap.size w w' := by
  have hb0 : Below w.heap.size w (w.alloc (.cells #[.int .i64 m.f0.f0, .int .i64 m.f0.f1, .int .i64 m.f0.f2, .int .i64 m.f1, .int .i64 m.f2, .int .i64 m.f3, .bool m.f4] 25)) := (Below.refl w.heap.size w).alloc (Nat.le_refl _) _
  have HC : Hid (∀ wx, wx = w.alloc (.cells #[.int .i64 m.f0.f0, .int .i64 m.f0.f1, .int .i64 m.f0.f2, .int .i64 m.f1, .int .i64 m.f2, .int .i64 m.f3, .bool m.f4] 25) → Calls Try.prog 33 #[.slice A l.length c, .func (.func 34) #[] #[.pointer (some ⟨w.heap.size, 0, none⟩)]] wx fun e w' => e = .returned (.int .i64 (plc l m)) ∧ Below w.heap.size w w') := by
    refine hide (fun wx hx => ?_)
    subst hx
    refine (count_call A c l hc y m w.heap.size _ (hr.imp_ hb0 (fun _ _ h => k25.K_below hb0 h)) (Blk.new w _ _)).mono ?_
    rintro e w' ⟨he, hb⟩
    exact ⟨he, below_step hb0 hb⟩
  clear hb0 hr
  go_enter Try.func23, Try.ntmps23
  go_wp2_with (go_at_call 33; refine (HC.out _ rfl).mono ?_; rintro e w1 ⟨rfl, hb1⟩)
  go_ret
  exact ⟨rfl, hb1⟩
end Go.Proofs.Ytmgjnabenemghaa.Plc
