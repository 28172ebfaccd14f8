/- The contracts of the reference's ways (isochronref11): New, Check, Room, place, Least. No law is proved here. -/
import Derived.Test.YtdbdaalkmjcifaaLinkI
import Derived.Test.YtdbdaalkmjcifaaGrK
set_option linter.unusedVariables false
set_option linter.unusedSimpArgs false
namespace Go.Proofs.Ytdbdaalkmjcifaa.Link
open Go.Proofs Go.RowKit Go.Sort Go.Proofs.Ytdbdaalkmjcifaa.Types Go.Proofs.Ytdbdaalkmjcifaa.Heap Go.Proofs.Ytdbdaalkmjcifaa.Row Go.Proofs.YtdbdaalkmjcifaaW.PrintWords Go.Proofs.YtdbdaalkmjcifaaW.PrintLast Go.Proofs.YtdbdaalkmjcifaaW.PrintMore
attribute [local go_sem] max2_int min2_int max_two min_two max_three min_three max_four min_four
abbrev tR : Nat := 65
theorem rvalid_call (t : Int) (w : World) : Calls Try.prog 35 #[.int .i64 t] w fun e w' => e = .returned (.bool (decide (0 ≤ t ∧ t ≤ 4611686018427387903))) ∧ w = w' := by
  by_cases h : 0 ≤ t
  · by_cases h2 : t ≤ 4611686018427387903
    · rw [decide_eq_true (And.intro h h2)]
      go_enter Try.func35, Try.ntmps35
      go_wp2
      go_ret
      exact ⟨rfl, rfl⟩
    · rw [decide_eq_false (fun q => h2 q.2)]
      go_enter Try.func35, Try.ntmps35
      go_wp2
      go_ret
      exact ⟨rfl, rfl⟩
  · rw [decide_eq_false (fun q => h q.1)]
    go_enter Try.func35, Try.ntmps35
    go_wp2
    go_ret
    exact ⟨rfl, rfl⟩
set_option maxHeartbeats 2000000 in
theorem rcheck_gr (m : S33) (w : World) : Calls Try.prog 32 #[.agg (c33 m).toArray] w fun e w' => e = .returned (.int .i64 (if may m = true then 0 else 1)) ∧ GrK.Gr w w' := by
  have hu2 := Try.underlying33
  have hu3 := Try.underlying31
  have HB : Hid (GrK.Gr w (w.alloc (.cells (c33 m).toArray 33))) := hide ((GrK.Gr.refl w).alloc _)
  have HV := hide (fun W => rvalid_call m.f0.f0 W)
  unfold c33 at *
  by_cases a : 0 ≤ m.f0.f0 ∧ m.f0.f0 ≤ 4611686018427387903
  · rw [decide_eq_true a] at HV
    have hmay : may m = decide ((m.f0.f1 = -1 ∨ (0 ≤ m.f0.f1 ∧ m.f0.f1 < 16)) ∧ 0 ≤ m.f1 ∧ m.f1 < 16 ∧ 0 ≤ m.f0.f2 ∧ 0 ≤ m.f3) := by unfold may; simp [a.1, a.2]
    rw [hmay]
    clear hmay a
    by_cases b1 : m.f0.f1 < -1
    · rw [if_neg (by rw [decide_eq_true_iff]; omega)]
      go_enter Try.func32, Try.ntmps32
      go_wp2_with (go_at_call 35; refine (HV.out _).mono ?_; rintro e w' ⟨rfl, rfl⟩)
      go_ret
      exact ⟨rfl, HB.out⟩
    · by_cases b2 : 16 ≤ m.f0.f1
      · rw [if_neg (by rw [decide_eq_true_iff]; omega)]
        go_enter Try.func32, Try.ntmps32
        go_wp2_with (go_at_call 35; refine (HV.out _).mono ?_; rintro e w' ⟨rfl, rfl⟩)
        go_ret
        exact ⟨rfl, HB.out⟩
      · by_cases b3 : m.f0.f2 < 0
        · rw [if_neg (by rw [decide_eq_true_iff]; omega)]
          go_enter Try.func32, Try.ntmps32
          go_wp2_with (go_at_call 35; refine (HV.out _).mono ?_; rintro e w' ⟨rfl, rfl⟩)
          go_ret
          exact ⟨rfl, HB.out⟩
        · by_cases b4 : m.f3 < 0
          · rw [if_neg (by rw [decide_eq_true_iff]; omega)]
            go_enter Try.func32, Try.ntmps32
            go_wp2_with (go_at_call 35; refine (HV.out _).mono ?_; rintro e w' ⟨rfl, rfl⟩)
            go_ret
            exact ⟨rfl, HB.out⟩
          · by_cases b5 : m.f1 < 0
            · rw [if_neg (by rw [decide_eq_true_iff]; omega)]
              go_enter Try.func32, Try.ntmps32
              go_wp2_with (go_at_call 35; refine (HV.out _).mono ?_; rintro e w' ⟨rfl, rfl⟩)
              go_ret
              exact ⟨rfl, HB.out⟩
            · by_cases b6 : 16 ≤ m.f1
              · rw [if_neg (by rw [decide_eq_true_iff]; omega)]
                go_enter Try.func32, Try.ntmps32
                go_wp2_with (go_at_call 35; refine (HV.out _).mono ?_; rintro e w' ⟨rfl, rfl⟩)
                go_ret
                exact ⟨rfl, HB.out⟩
              · rw [if_pos (by rw [decide_eq_true_iff]; omega)]
                go_enter Try.func32, Try.ntmps32
                go_wp2_with (go_at_call 35; refine (HV.out _).mono ?_; rintro e w' ⟨rfl, rfl⟩)
                go_ret
                exact ⟨rfl, HB.out⟩
  · rw [decide_eq_false a] at HV
    rw [if_neg (by unfold may; rw [decide_eq_true_iff]; omega)]
    clear a
    go_enter Try.func32, Try.ntmps32
    go_wp2_with (go_at_call 35; refine (HV.out _).mono ?_; rintro e w' ⟨rfl, rfl⟩)
    go_ret
    exact ⟨rfl, HB.out⟩
theorem rcheck_call (m : S33) (w : World) : Calls Try.prog 32 #[.agg (c33 m).toArray] w fun e w' => e = .returned (.int .i64 (if may m = true then 0 else 1)) ∧ Below w.heap.size w w' :=
  (rcheck_gr m w).mono fun _ _ h => ⟨h.1, h.2.below⟩
theorem rnew_ok (L : Lk) (most : Int) (h : ok L most) (w : World) : Calls Try.prog 19 #[.agg (c28 L).toArray, .int .i64 most] w fun e w' =>
    e = .returned (.tuple #[.pointer (some ⟨w.heap.size + 1, 0, none⟩), .int .i64 0]) ∧ WayAt tR w' w.heap.size (w.heap.size + 1) L most (.slice none 0 0) [] ∧ Below w.heap.size w w' := by
  obtain ⟨h1, h2, h3, h4, h5, h6⟩ := h
  have hu := Try.underlying28
  have g1 : ¬ L.f0 < 0 := by omega
  have g2 : ¬ 16 ≤ L.f0 := by omega
  have g3 : ¬ L.f1 < 0 := by omega
  have g4 : ¬ 16 ≤ L.f1 := by omega
  have g5 : ¬ most < 1 := by omega
  have g6 : ¬ 1024 < most := by omega
  have HW : Hid (WayAt tR ((w.alloc (.cells (c28 L).toArray 28)).alloc (.cells (cellsW L most (.slice none 0 0)) tR)) w.heap.size (w.heap.size + 1) L most (.slice none 0 0) []) := hide (by
    have := Blk.new (w.alloc (.cells (c28 L).toArray 28)) tR (cellsW L most (.slice none 0 0))
    rw [World.size_alloc] at this
    exact ⟨this, Own.nil _ _ _ _ _, fun b hb => by cases hb⟩)
  have HB : Hid (Below w.heap.size w ((w.alloc (.cells (c28 L).toArray 28)).alloc (.cells (cellsW L most (.slice none 0 0)) tR))) := hide (((Below.refl w.heap.size w).alloc (Nat.le_refl _) _).alloc (by simp) _)
  unfold c28 cellsW at *
  clear h1 h2 h3 h4 h5 h6
  go_enter Try.func19, Try.ntmps19
  go_wp2
  go_ret2
  exact ⟨rfl, HW.out, HB.out⟩
theorem rnew_bad (L : Lk) (most : Int) (h : ¬ ok L most) (w : World) : Calls Try.prog 19 #[.agg (c28 L).toArray, .int .i64 most] w fun e w' =>
    e = .returned (.tuple #[.pointer none, .int .i64 1]) ∧ Below w.heap.size w w' := by
  have hu := Try.underlying28
  have HB : Hid (Below w.heap.size w (w.alloc (.cells (c28 L).toArray 28))) := hide ((Below.refl w.heap.size w).alloc (Nat.le_refl _) _)
  unfold c28 at *
  unfold ok at h
  by_cases g1 : L.f0 < 0
  · clear h
    go_enter Try.func19, Try.ntmps19
    go_wp2
    go_ret2
    exact ⟨rfl, HB.out⟩
  · by_cases g2 : 16 ≤ L.f0
    · clear h
      go_enter Try.func19, Try.ntmps19
      go_wp2
      go_ret2
      exact ⟨rfl, HB.out⟩
    · by_cases g3 : L.f1 < 0
      · clear h
        go_enter Try.func19, Try.ntmps19
        go_wp2
        go_ret2
        exact ⟨rfl, HB.out⟩
      · by_cases g4 : 16 ≤ L.f1
        · clear h
          go_enter Try.func19, Try.ntmps19
          go_wp2
          go_ret2
          exact ⟨rfl, HB.out⟩
        · by_cases g5 : most < 1
          · clear h
            go_enter Try.func19, Try.ntmps19
            go_wp2
            go_ret2
            exact ⟨rfl, HB.out⟩
          · have g6 : 1024 < most := by omega
            clear h
            go_enter Try.func19, Try.ntmps19
            go_wp2
            go_ret2
            exact ⟨rfl, HB.out⟩
section
variable (w : World) (base p : Nat) (L : Lk) (most : Int) (A : Option Addr) (c : Nat) (l : List Pc)
theorem rroom_call (h : WayAt tR w base p L most (.slice A l.length c) l) (hm : 1 ≤ most) (hm2 : most ≤ 1024) (hl : l.length < 4611686018427387904) :
    Calls Try.prog 23 #[.pointer (some ⟨p, 0, none⟩)] w fun e w' => e = .returned (.int .i64 (room most l.length)) ∧ ∃ n, w' = w.drewN n := by
  have c5 := h.c5
  have c4 := h.c4
  unfold room
  clear h
  by_cases hc : (l.length : Int) < most
  · rw [if_pos hc]
    go_enter Try.func23, Try.ntmps23
    go_wp2_with fail
    go_quiet (fail)
    go_wp2
    go_ret
    exact ⟨rfl, _, rfl⟩
  · rw [if_neg hc]
    go_enter Try.func23, Try.ntmps23
    go_wp2_with fail
    go_quiet (fail)
    go_wp2
    go_ret
    exact ⟨rfl, _, rfl⟩
theorem rplace_call (n : Int) (h : WayAt tR w base p L most (.slice A l.length c) l) (hl : 0 < l.length) (hl2 : l.length ≤ 4398046511104) :
    Calls Try.prog 33 #[.pointer (some ⟨p, 0, none⟩), .int .i64 n] w fun e w' => e = .returned (.int .i64 (plc L n l.length)) ∧ w' = w := by
  have c5 := h.c5
  have c3 := h.c3
  clear h
  obtain ⟨m, hm⟩ : ∃ m : Int, (l.length : Int) = m := ⟨_, rfl⟩
  have hm1 : 0 < m := by omega
  have b2 : (m == 0) = false := by rw [beq_eq_false_iff_ne]; omega
  have h1 : n.tmod m < m := Int.tmod_lt_of_pos _ hm1
  have h2 : -m < n.tmod m := by
    rcases Int.le_total 0 n with h | h
    · have := Int.tmod_nonneg m h
      omega
    · obtain ⟨k, rfl⟩ : ∃ k, n = -k := ⟨-n, by omega⟩
      rw [Int.neg_tmod]
      have := Int.tmod_lt_of_pos k hm1
      omega
  unfold plc
  rw [hm]
  have b3 : ((l.length : Int) == 0) = false := by rw [hm]; exact b2
  cases hL : L.f3
  · rw [hL] at c3
    rw [if_neg (by simp)]
    go_enter Try.func33, Try.ntmps33
    go_wp2_with fail
    go_ret
    exact ⟨rfl, rfl⟩
  · rw [hL] at c3
    rw [if_pos rfl]
    by_cases h3 : n.tmod m < 0
    · have e1 : (n.tmod m + m).tmod m = n.tmod m + m := Int.tmod_eq_of_lt (by omega) (by omega)
      rw [e1]
      have hw : wrap64 (n.tmod m + m) = n.tmod m + m := by
        generalize n.tmod m = t at h1 h2
        exact Go.IntWalk.wrap64_in _ (by omega)
      obtain ⟨t, ht⟩ : ∃ t, n.tmod m = t := ⟨_, rfl⟩
      rw [ht] at hw h3 ⊢
      clear h1 h2 e1
      go_enter Try.func33, Try.ntmps33
      go_wp2_with fail
      go_ret
      exact ⟨by show Ending.returned (.int .i64 (wrap64 (t + m))) = _; rw [hw], rfl⟩
    · have e1 : (n.tmod m + m).tmod m = n.tmod m := by
        rw [Int.tmod_eq_emod_of_nonneg (by omega), Int.add_emod_right, Int.emod_eq_of_lt (by omega) h1]
      rw [e1]
      clear h1 h2 e1
      go_enter Try.func33, Try.ntmps33
      go_wp2_with fail
      go_ret
      exact ⟨rfl, rfl⟩
theorem lst_least {l : List Pc} {k : Nat} (hk : k < l.length) : lst (l.take (k + 1)) = mnL (lst (l.take k)) l[k].f0.f0.f0 := lst_step hk
set_option maxHeartbeats 4000000 in
set_option maxRecDepth 100000 in
theorem rleast_call (h : WayAt tR w base p L most (.slice A l.length c) l) (hl : l.length * 64 ≤ 140737488355328) :
    Calls Try.prog 24 #[.pointer (some ⟨p, 0, none⟩)] w fun e w' => e = .returned (.int .i64 (lst l)) ∧ Below w.heap.size w w' := by
  have c5 := h.c5
  have HW := hide h
  have HLn := hide hl
  obtain ⟨A', c', hv, hlc, hC, _⟩ := h.own.reads flatP rfl k35_mk
  cases hv
  have HC := hide hC
  clear h hl hC hlc
  go_enter Try.func24, Try.ntmps24
  go_wp2_with fail
  go_loopw [3, 4] (fun tv iv wr => ∃ k : Nat, k ≤ l.length ∧ iv = .int .i64 k ∧ tv = .int .i64 (lst (l.take k)) ∧ Hid (Below w.heap.size w wr)) (fun _ iv _ => l.length - (intOf iv).toNat)
  case atStart => exact ⟨0, Nat.zero_le _, rfl, rfl, hide (Below.refl _ _)⟩
  case round =>
    obtain ⟨k, hk, rfl, rfl, HB⟩ := hrel
    have c5w := (HW.out.below HB.out).c5
    by_cases hlt : k < l.length
    · obtain ⟨ad, hA, q0, q1, q2, q3, q4, q5, q6, q7⟩ := at_S35 (Kd.C_below HC.out HB.out) hlt
      subst hA
      have b1 : (k : Int) < (l.length : Int) := by omega
      have HS := hide (lst_step hlt)
      obtain ⟨x, hx⟩ : ∃ x, l[k] = x := ⟨_, rfl⟩
      rw [hx] at q0 q1 q2 q3 q4 q5 q6 q7 HS
      clear hx
      obtain ⟨m, hm2⟩ : ∃ m, lst (l.take k) = m := ⟨_, rfl⟩
      rw [hm2] at HS ⊢
      clear hm2 q1 q2 q3 q4 q5 q6 q7
      obtain ⟨m', hm'⟩ : ∃ m', lst (l.take (k + 1)) = m' := ⟨_, rfl⟩
      rw [hm'] at HS
      have hmn : (if x.f0.f0.f0 < m then x.f0.f0.f0 else m) = m' := HS.out.symm
      have HM := hide hm'
      have hk5 : l.length ≤ 4611686018427387904 := by have := HLn.out; omega
      clear hm'
      go_wp2_with fail
      go_roundw
      case rel => exact ⟨k + 1, by omega, by go_num, by rw [HM.out], HB⟩
      case measure => simp [intOf]; omega
    · have b1 : ¬ (k : Int) < (l.length : Int) := by omega
      obtain rfl : k = l.length := by omega
      rw [List.take_length] at *
      go_wp2_with fail
      go_ret
      exact ⟨rfl, HB.out⟩
end
end Go.Proofs.Ytdbdaalkmjcifaa.Link
