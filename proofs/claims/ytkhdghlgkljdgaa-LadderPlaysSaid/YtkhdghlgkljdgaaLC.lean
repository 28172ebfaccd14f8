/- The ladder's behind and find. No law is proved here. -/
import Derived.Test.YtkhdghlgkljdgaaLB
namespace Go.Proofs.Ytkhdghlgkljdgaa.LQ
open Go.Proofs Go.Proofs.Ytkhdghlgkljdgaa.CQ Go.Shelf Go.RowKit Go.Deep Go.Sort Go.Proofs.Ytkhdghlgkljdgaa.SortPure Go.Proofs.Ytkhdghlgkljdgaa.Types Go.Proofs.Ytkhdghlgkljdgaa.Heap Go.Proofs.Ytkhdghlgkljdgaa.Row Go.Proofs.Ytkhdghlgkljdgaa.Ord Go.Proofs.Ytkhdghlgkljdgaa.Sorted Go.Proofs.YtkhdghlgkljdgaaW.PrintWords Go.Proofs.YtkhdghlgkljdgaaW.PrintLast Go.Proofs.YtkhdghlgkljdgaaW.PrintMore
set_option linter.unusedVariables false
set_option linter.unusedSimpArgs false
def isB (a b : Int) (m : M) : Bool := m.f0.f1 == a && m.f3 == b
theorem isB_true {a b : Int} {m : M} : isB a b m = true ↔ isOf a b m := by simp [isB, isOf]
theorem isB_false {a b : Int} {m : M} : isB a b m = false ↔ ¬ isOf a b m := by rw [← isB_true]; simp
theorem closure_call (x : M) (a b : Int) (g1 g2 : Nat) (w : World) (h1 : Blk w g1 3 #[.int .i64 a]) (h2 : Blk w g2 3 #[.int .i64 b]) :
    Calls Try.prog 34 #[.agg #[.int .i64 x.f0.f0, .int .i64 x.f0.f1, .int .i64 x.f0.f2, .int .i64 x.f1, .int .i64 x.f2, .int .i64 x.f3, .bool x.f4], .pointer (some ⟨g1, 0, none⟩), .pointer (some ⟨g2, 0, none⟩)] w fun e w' => e = .returned (.bool (isB a b x)) ∧ Below w.heap.size w w' := by
  have c0 : (w.alloc (.cells #[.int .i64 x.f0.f0, .int .i64 x.f0.f1, .int .i64 x.f0.f2, .int .i64 x.f1, .int .i64 x.f2, .int .i64 x.f3, .bool x.f4] 25)).cell? ⟨g1, 0, none⟩ = some (.int .i64 a) := (h1.alloc _).cell 0
  have c1 : (w.alloc (.cells #[.int .i64 x.f0.f0, .int .i64 x.f0.f1, .int .i64 x.f0.f2, .int .i64 x.f1, .int .i64 x.f2, .int .i64 x.f3, .bool x.f4] 25)).cell? ⟨g2, 0, none⟩ = some (.int .i64 b) := (h2.alloc _).cell 0
  cases e1 : (x.f0.f1 == a)
  · have hb : isB a b x = false := by simp [isB, e1]
    go_enter Try.func34, Try.ntmps34
    go_wp2
    go_ret
    exact ⟨by rw [hb]; rfl, (Below.refl w.heap.size w).alloc (Nat.le_refl _) _⟩
  · have hb : isB a b x = (x.f3 == b) := by simp [isB, e1]
    go_enter Try.func34, Try.ntmps34
    go_wp2
    go_ret
    exact ⟨by rw [hb]; rfl, (Below.refl w.heap.size w).alloc (Nat.le_refl _) _⟩
theorem own_at {w : World} {base g c : Nat} {L : List M} (h : OwnM w base (.slice (some ⟨g, 0, none⟩) L.length c) L) {n k : Nat} (hn : L.length = n) (hk : k < n) {t : M} (ht : L[k]'(by rw [hn]; exact hk) = t) :
    w.cell? ⟨g, k * 7, none⟩ = some (.int .i64 t.f0.f0) ∧ w.cell? ⟨g, k * 7 + 1, none⟩ = some (.int .i64 t.f0.f1) ∧ w.cell? ⟨g, k * 7 + 2, none⟩ = some (.int .i64 t.f0.f2) ∧ w.cell? ⟨g, k * 7 + 3, none⟩ = some (.int .i64 t.f1) ∧ w.cell? ⟨g, k * 7 + 4, none⟩ = some (.int .i64 t.f2) ∧ w.cell? ⟨g, k * 7 + 5, none⟩ = some (.int .i64 t.f3) ∧ w.cell? ⟨g, k * 7 + 6, none⟩ = some (.bool t.f4) ∧
    w.frozen? ⟨g, k * 7, none⟩ = false ∧ w.frozen? ⟨g, k * 7 + 1, none⟩ = false ∧ w.frozen? ⟨g, k * 7 + 2, none⟩ = false ∧ w.frozen? ⟨g, k * 7 + 3, none⟩ = false ∧ w.frozen? ⟨g, k * 7 + 4, none⟩ = false ∧ w.frozen? ⟨g, k * 7 + 5, none⟩ = false ∧ w.frozen? ⟨g, k * 7 + 6, none⟩ = false := by
  obtain ⟨A, c', hv, _, hC, _⟩ := h.reads flatM rfl k25_mk
  cases hv
  obtain ⟨ad, e, q0, q1, q2, q3, q4, q5, q6⟩ := at_S25 hC (show k < L.length by rw [hn]; exact hk)
  cases e
  rw [ht] at q0 q1 q2 q3 q4 q5 q6
  have ha : (⟨g, 0, none⟩ : Addr).add (k * 7) = ⟨g, k * 7, none⟩ := by
    unfold Addr.add
    split <;> simp_all
  rw [ha] at q0 q1 q2 q3 q4 q5 q6
  have hfz : ∀ t, w.frozen? ⟨g, t, none⟩ = false := fun t => by
    rcases h.2 with ⟨hv, _⟩ | ⟨g', cap, cur, hv, _, hh, _⟩
    · cases hv
    · injection hv with hv
      injection hv with hv
      injection hv with hv
      subst hv
      exact Blk.frozen (t := 25) (cs := cur) hh t
  exact ⟨q0, q1, q2, q3, q4, q5, q6, hfz _, hfz _, hfz _, hfz _, hfz _, hfz _, hfz _⟩
/-- What find answers. -/
def Found (b : List M) (rs : List Rg) (x y : Int) : Ending → World → World → Prop := fun e w w' =>
  ((e = .returned (.tuple #[.int .i64 0, .int .i64 0, .bool false]) ∧ (∀ m ∈ b, ¬ isOf x y m) ∧ ∀ r ∈ rs, ∀ m ∈ r.l, ¬ isOf x y m) ∨
   (∃ i : Nat, ∃ hi : i < b.length, e = .returned (.tuple #[.int .i64 (-1), .int .i64 i, .bool true]) ∧ isOf x y b[i]) ∨
   (∃ k : Nat, ∃ hk : k < rs.length, ∃ i : Nat, ∃ hi : i < rs[k].l.length, e = .returned (.tuple #[.int .i64 k, .int .i64 i, .bool true]) ∧ isOf x y rs[k].l[i])) ∧ Below w.heap.size w w'
theorem own_C {w : World} {A : Option Addr} {c : Nat} {l : List M} (h : OwnM w 0 (.slice A l.length c) l) : Kd.C kM w A l.length l := by
  obtain ⟨A', c', hv, _, hC, _⟩ := h.reads flatM rfl k25_mk
  cases hv
  exact hC
theorem own_cap {w : World} {A : Option Addr} {c : Nat} {l : List M} (h : OwnM w 0 (.slice A l.length c) l) : l.length ≤ c := by
  obtain ⟨A', c', hv, hc, _⟩ := h.slice
  cases hv
  exact hc
set_option maxHeartbeats 8000000 in
set_option maxRecDepth 100000 in
theorem find_call {w : World} {S : Nat → Prop} {g : Nat} {A : Option Addr} {c : Nat} {b : List M} {most : Int} {R : Option Addr} {rc : Nat} {rs : List Rg} (x y : Int) (h : LAt w S g A c b most R rc rs) (hb : b.length ≤ 16384) (hr : rs.length ≤ 16384) (hrl : ∀ r ∈ rs, r.l.length ≤ 16384) :
    Calls Try.prog 21 #[.pointer (some ⟨g, 0, none⟩), .int .i64 x, .int .i64 y] w fun e w' => Found b rs x y e w w' := by
  have HB0 := hide (((Below.refl w.heap.size w).alloc (Nat.le_refl _) (.cells #[.int .i64 x] 3)).alloc (by simp) (.cells #[.int .i64 y] 3))
  have HX := hide ((Blk.new w 3 #[.int .i64 x]).alloc (.cells #[.int .i64 y] 3))
  have HY0 := Blk.new (w.alloc (.cells #[.int .i64 x] 3)) 3 #[.int .i64 y]
  rw [World.size_alloc] at HY0
  have HY := hide HY0
  have H := hide (h.below HB0.out)
  have hb64 : (b.length : Int) ≤ 16384 := by omega
  have hr64 : (rs.length : Int) ≤ 16384 := by omega
  have HRL := hide hrl
  have c0 := H.out.c0
  have c2 := H.out.c2
  clear h HY0 hrl
  obtain ⟨W, hW⟩ : ∃ W, ((w.alloc (.cells #[.int .i64 x] 3)).alloc (.cells #[.int .i64 y] 3)) = W := ⟨_, rfl⟩
  obtain ⟨gx, hgx⟩ : ∃ gx, w.heap.size = gx := ⟨_, rfl⟩
  go_enter Try.func21, Try.ntmps21
  rw [hW] at HB0 HX HY H c0 c2
  rw [hgx] at HX HY
  have hmf : ∀ (fn : Fn) (first cap : Array Value) (w : World), (Instr.makeFunc fn first cap).run Try.prog w = .ok (.func fn first cap) w := fun _ _ _ _ => rfl
  go_wp2_with fail
  go_step3
  go_wp2_with fail
  go_loopw [6, 7, 8, 23] (fun v6 v7 v8 iv wr => ∃ k : Nat, k ≤ b.length ∧ v6 = .int .i64 0 ∧ v7 = .int .i64 0 ∧ v8 = .bool false ∧ iv = .int .i64 k ∧ Hid (∀ m ∈ b.take k, ¬ isOf x y m) ∧ Hid (Below W.heap.size W wr)) (fun _ _ _ iv _ => b.length - (intOf iv).toNat)
  case atStart => exact ⟨0, Nat.zero_le _, rfl, rfl, rfl, rfl, hide (fun m hm => by simp at hm), hide (Below.refl _ _)⟩
  case round =>
    obtain ⟨k, hk, rfl, rfl, rfl, rfl, HT, HB⟩ := hrel
    by_cases hlt : k < b.length
    · have b1 : (k : Int) < (b.length : Int) := by omega
      obtain ⟨ad, rfl, q0, q1, q2, q3, q4, q5, q6⟩ := at_S25 (C_below (own_C H.out.bot) HB.out) hlt
      obtain ⟨z, hz⟩ : ∃ z, b[k] = z := ⟨_, rfl⟩
      have HZ := hide hz
      rw [hz] at q0 q1 q2 q3 q4 q5 q6
      clear hz
      have HB1 := hide (HB.out.alloc HB.out.size (.cells #[.int .i64 z.f0.f0, .int .i64 z.f0.f1, .int .i64 z.f0.f2, .int .i64 z.f1, .int .i64 z.f2, .int .i64 z.f3, .bool z.f4] 25))
      have HC := hide (closure_call z x y gx (gx + 1) (wr.alloc (.cells #[.int .i64 z.f0.f0, .int .i64 z.f0.f1, .int .i64 z.f0.f2, .int .i64 z.f1, .int .i64 z.f2, .int .i64 z.f3, .bool z.f4] 25)) (HX.out.below' HB1.out) (HY.out.below' HB1.out))
      cases hb : isB x y z
      · have HT2 : Hid (∀ m ∈ b.take (k + 1), ¬ isOf x y m) := hide (fun m hm => by
          rw [List.take_succ_eq_append_getElem hlt] at hm
          rcases List.mem_append.1 hm with e | e
          · exact HT.out m e
          · rw [List.mem_singleton.1 e, HZ.out]; exact isB_false.1 hb)
        rw [hb] at HC
        go_wp2_with (go_at_call 34; refine HC.out.mono ?_; rintro e w1 ⟨rfl, hb1⟩; have HB2 := hide (below_step HB1.out hb1); clear hb1)
        go_roundw
        case rel => exact ⟨k + 1, by omega, rfl, rfl, rfl, by go_num, HT2, HB2⟩
        case measure => simp [intOf]; omega
      · rw [hb] at HC
        go_wp2_with (go_at_call 34; refine HC.out.mono ?_; rintro e w1 ⟨rfl, hb1⟩; have HB2 := hide (below_step HB1.out hb1); clear hb1)
        rw [Exit.noGoto_ret]
        refine bodyPost_ret (v := .tuple #[.int .i64 (-1), .int .i64 k, .bool true]) ?_ rfl ⟨.inr (.inl ⟨k, hlt, rfl, by rw [HZ.out]; exact isB_true.1 hb⟩), ?_⟩
        · exact results_list (rs := [.tmp 6, .tmp 7, .tmp 8]) rfl (by simp) (Vals.tmp (Vals.tmp (Vals.tmp Vals.nil)))
        · exact below_step HB0.out HB2.out
    · have hkl : k = b.length := by omega
      have b1 : ¬ (k : Int) < (b.length : Int) := by omega
      have HT1 : Hid (∀ m ∈ b, ¬ isOf x y m) := hide (fun m hm => HT.out m (by rw [hkl, List.take_length]; exact hm))
      have c2w : wr.cell? ⟨g, 2, none⟩ = some (.slice R rs.length rc) := (HB.out.cell (p := ⟨g, 2, none⟩) H.out.blk.lt).trans H.out.c2
      go_wp2_with fail
      go_step3
      go_wp2_with fail
      go_loopw [6, 7, 8, 38] (fun v6 v7 v8 iv w2 => ∃ j : Nat, j ≤ rs.length ∧ v6 = .int .i64 0 ∧ v7 = .int .i64 0 ∧ v8 = .bool false ∧ iv = .int .i64 j ∧ Hid (∀ r ∈ rs.take j, ∀ m ∈ r.l, ¬ isOf x y m) ∧ Hid (Below W.heap.size W w2)) (fun _ _ _ iv _ => rs.length - (intOf iv).toNat)
      case atStart => exact ⟨0, Nat.zero_le _, rfl, rfl, rfl, rfl, hide (fun r hr => by simp at hr), HB⟩
      case round =>
        obtain ⟨j, hj, rfl, rfl, rfl, rfl, HT3, HB3⟩ := hrel
        by_cases hlt2 : j < rs.length
        · have b2 : (j : Int) < (rs.length : Int) := by omega
          obtain ⟨ad, rfl, q0⟩ := at_R (H.out.row.below HB3.out) hlt2
          have HMR : Hid (rs[j] ∈ rs) := hide (List.getElem_mem hlt2)
          obtain ⟨r, hr⟩ : ∃ r, rs[j] = r := ⟨_, rfl⟩
          have HRR := hide hr
          rw [hr] at q0 HMR
          rw [Nat.mul_one] at q0
          clear hr
          have HCR := hide (H.out.rung r HMR.out)
          have hl64 : (r.l.length : Int) ≤ 16384 := by have := HRL.out r HMR.out; omega
          go_wp2_with fail
          go_loopw [6, 7, 8, 45] (fun v6 v7 v8 iv w3 => ∃ k : Nat, k ≤ r.l.length ∧ v6 = .int .i64 0 ∧ v7 = .int .i64 0 ∧ v8 = .bool false ∧ iv = .int .i64 k ∧ Hid (∀ m ∈ r.l.take k, ¬ isOf x y m) ∧ Hid (Below W.heap.size W w3)) (fun _ _ _ iv _ => r.l.length - (intOf iv).toNat)
          case atStart => exact ⟨0, Nat.zero_le _, rfl, rfl, rfl, rfl, hide (fun m hm => by simp at hm), HB3⟩
          case round =>
            obtain ⟨k, hk, rfl, rfl, rfl, rfl, HT5, HB5⟩ := hrel
            by_cases hlt3 : k < r.l.length
            · have b3 : (k : Int) < (r.l.length : Int) := by omega
              obtain ⟨z, hz⟩ : ∃ z, r.l[k] = z := ⟨_, rfl⟩
              have HZ := hide hz
              obtain ⟨q0, q1, q2, q3, q4, q5, q6, _⟩ := own_at (HCR.out.below HB5.out) rfl hlt3 hz
              clear hz
              have HB1 := hide (HB5.out.alloc HB5.out.size (.cells #[.int .i64 z.f0.f0, .int .i64 z.f0.f1, .int .i64 z.f0.f2, .int .i64 z.f1, .int .i64 z.f2, .int .i64 z.f3, .bool z.f4] 25))
              have HC := hide (closure_call z x y gx (gx + 1) (wr.alloc (.cells #[.int .i64 z.f0.f0, .int .i64 z.f0.f1, .int .i64 z.f0.f2, .int .i64 z.f1, .int .i64 z.f2, .int .i64 z.f3, .bool z.f4] 25)) (HX.out.below' HB1.out) (HY.out.below' HB1.out))
              cases hb : isB x y z
              · have HT2 : Hid (∀ m ∈ r.l.take (k + 1), ¬ isOf x y m) := hide (fun m hm => by
                  rw [List.take_succ_eq_append_getElem hlt3] at hm
                  rcases List.mem_append.1 hm with e | e
                  · exact HT5.out m e
                  · rw [List.mem_singleton.1 e, HZ.out]; exact isB_false.1 hb)
                rw [hb] at HC
                go_wp2_with (go_at_call 34; refine HC.out.mono ?_; rintro e w1 ⟨rfl, hb1⟩; have HB2 := hide (below_step HB1.out hb1); clear hb1)
                go_roundw
                case rel => exact ⟨k + 1, by omega, rfl, rfl, rfl, by go_num, HT2, HB2⟩
                case measure => simp [intOf]; omega
              · rw [hb] at HC
                go_wp2_with (go_at_call 34; refine HC.out.mono ?_; rintro e w1 ⟨rfl, hb1⟩; have HB2 := hide (below_step HB1.out hb1); clear hb1)
                rw [Exit.noGoto_ret]
                refine bodyPost_ret (v := .tuple #[.int .i64 j, .int .i64 k, .bool true]) ?_ rfl ⟨.inr (.inr ⟨j, hlt2, k, by rw [HRR.out]; exact hlt3, rfl, by simp only [HRR.out, HZ.out]; exact isB_true.1 hb⟩), ?_⟩
                · exact results_list (rs := [.tmp 6, .tmp 7, .tmp 8]) rfl (by simp) (Vals.tmp (Vals.tmp (Vals.tmp Vals.nil)))
                · exact below_step HB0.out HB2.out
            · have hkl : k = r.l.length := by omega
              have b3 : ¬ (k : Int) < (r.l.length : Int) := by omega
              have HT6 : Hid (∀ r' ∈ rs.take (j + 1), ∀ m ∈ r'.l, ¬ isOf x y m) := hide (fun r' hr' => by
                rw [List.take_succ_eq_append_getElem hlt2] at hr'
                rcases List.mem_append.1 hr' with e | e
                · exact HT3.out r' e
                · rw [List.mem_singleton.1 e, HRR.out]
                  intro m hm
                  exact HT5.out m (by rw [hkl, List.take_length]; exact hm))
              go_wp2_with fail
              exact ⟨⟨j + 1, by omega, rfl, rfl, rfl, by go_num, HT6, HB5⟩, by simp [intOf]; omega⟩
        · have hjl : j = rs.length := by omega
          have b2 : ¬ (j : Int) < (rs.length : Int) := by omega
          have HT4 : Hid (∀ r ∈ rs, ∀ m ∈ r.l, ¬ isOf x y m) := hide (fun r hr => HT3.out r (by rw [hjl, List.take_length]; exact hr))
          go_wp2_with fail
          refine bodyPost_ret (v := .tuple #[.int .i64 0, .int .i64 0, .bool false]) ?_ rfl ⟨.inl ⟨rfl, HT1.out, HT4.out⟩, ?_⟩
          · exact results_list (rs := [.tmp 6, .tmp 7, .tmp 8]) rfl (by simp) (Vals.tmp (Vals.tmp (Vals.tmp Vals.nil)))
          · exact below_step HB0.out HB3.out
end Go.Proofs.Ytkhdghlgkljdgaa.LQ
