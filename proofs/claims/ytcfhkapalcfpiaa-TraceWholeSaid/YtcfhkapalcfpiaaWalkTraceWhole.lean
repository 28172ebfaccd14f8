/- The walk of TraceWhole. -/
import Derived.Test.YtcfhkapalcfpiaaWhole
import Derived.Test.YtcfhkapalcfpiaaProject
import Derived.Test.YtcfhkapalcfpiaaKindsTraceWhole
set_option linter.unusedVariables false
set_option linter.unusedSimpArgs false
namespace Go.Proofs.Ytcfhkapalcfpiaa.traceWhole
open Go.Proofs Go.RowKit Go.Sort Go.Proofs.Ytcfhkapalcfpiaa.SortPure Go.Proofs.Ytcfhkapalcfpiaa.Heap Go.Proofs.Ytcfhkapalcfpiaa.Types Go.Proofs.Ytcfhkapalcfpiaa.Row Go.Proofs.Ytcfhkapalcfpiaa.Ord Go.Proofs.Ytcfhkapalcfpiaa.Sorted Go.Proofs.Ytcfhkapalcfpiaa.Merge Go.Proofs.Ytcfhkapalcfpiaa.Whole Go.Proofs.YtcfhkapalcfpiaaW.PrintWords Go.Proofs.YtcfhkapalcfpiaaW.PrintLast Go.Proofs.YtcfhkapalcfpiaaW.PrintMore
theorem R_keep {α : Type} {d : Kd α} {e base : Nat} {ok : Nat → Prop} {w w1 : World} {v : Value} {xs : List α} (h : d.R e w base ok v xs) (hb : Below w.heap.size w w1) : d.R e w1 base ok v xs :=
  Kd.R_mono (Kd.R_move (Kd.R_bound h) (fun k hk => hb.block k hk.2.2.1)) (fun k hk => hk.1)
theorem infoS : (Try.prog.info? 22).map (fun i => (i.zero, i.size, i.bytes)) = some (some (.slice none 0 0), (Kd.slice 29 k29).sz, 24) := by kernel_rfl
set_option maxHeartbeats 8000000 in
set_option maxRecDepth 100000 in
theorem walk (A0 : Option Addr) (c0 : Nat) (l0 : List S29) (hc0 : l0.length ≤ c0) (w0 : ∀ y ∈ l0, I29 y) (y0 : l0.length * 40 ≤ 140737488351232) (w : World) (hr0 : Kd.C k29 w A0 l0.length l0) :
    Calls Try.prog 10 #[.slice A0 l0.length c0] w fun e w' => e = .returned (.bool true) ∧ Below w.heap.size w w' := by
  have HR := hide hr0
  have HY := hide y0
  have HRi := hide (rising_call A0 _ c0 l0 rfl y0 w hr0)
  have hl : (l0.length : Int) ≤ 5864062014634 := by omega
  clear hr0 w0 y0
  go_enter Try.func10, Try.ntmps10
  go_wp2_with fail
  refine HRi.out.mono ?_
  rintro e w1 ⟨⟨v, rfl, hv⟩, hb1⟩
  have HB1 := hide hb1
  have HV := hide hv
  clear hb1 hv HRi
  cases v
  · clear HV
    go_wp2_with fail
    refine (Trace.awake_call _).mono ?_
    rintro e w4 ⟨rfl, hb4⟩
    go_wp2_with fail
    go_ret
    exact ⟨rfl, below_step HB1.out hb4⟩
  · have HRise : Hid (Rise l0) := hide (HV.out.1 rfl)
    clear HV
    go_wp2_with fail
    go_loopw [3, 5] (fun v iv wr => ∃ k : Nat, k ≤ l0.length ∧ iv = .int .i64 k ∧ Hid (OwnM wr w.heap.size v ((l0.take k).map norm)) ∧ Hid (Below w.heap.size w wr)) (fun _ iv _ => l0.length - (intOf iv).toNat)
    case atStart => exact ⟨0, Nat.zero_le _, rfl, hide (Own.nil _ _ _ _ _), HB1⟩
    case round =>
      obtain ⟨k, hk, rfl, HO, HB⟩ := hrel
      clear HB1
      by_cases hlt : k < l0.length
      · have b1 : (k : Int) < (l0.length : Int) := by omega
        obtain ⟨ad, rfl, q0, q1, q2, q3, q4⟩ := at_S29 (Kd.C_below HR.out HB.out) hlt
        have HS : Hid ((l0.take (k + 1)).map norm = (l0.take k).map norm ++ [norm l0[k]]) := hide (by rw [List.take_succ_eq_append_getElem hlt, List.map_append]; rfl)
        have HLs : Hid (((l0.take k).map norm).length = k) := hide (by rw [List.length_map, List.length_take]; omega)
        obtain ⟨x, hx⟩ : ∃ x, l0[k] = x := ⟨_, rfl⟩
        rw [hx] at q0 q1 q2 q3 q4 HS
        clear hx
        obtain ⟨ys, hys⟩ : ∃ ys, (l0.take k).map norm = ys := ⟨_, rfl⟩
        rw [hys] at HS HO HLs
        clear hys
        have hwt : wrap64 (x.f1.tmod 8 + 8) = x.f1.tmod 8 + 8 := by
          have h1 : x.f1.tmod 8 < 8 := Int.tmod_lt_of_pos _ (by omega)
          have h2 : -8 < x.f1.tmod 8 := by
            rcases Int.le_total 0 x.f1 with h | h
            · have := Int.tmod_nonneg 8 h
              omega
            · obtain ⟨k, hk⟩ : ∃ k, x.f1 = -k := ⟨-x.f1, by omega⟩
              rw [hk, Int.neg_tmod]
              have := Int.tmod_lt_of_pos k (show (0 : Int) < 8 by omega)
              omega
          generalize x.f1.tmod 8 = t at h1 h2 ⊢
          unfold wrap64
          omega
        obtain ⟨z, hz⟩ : ∃ z, (x.f1.tmod 8 + 8).tmod 8 = z := ⟨_, rfl⟩
        have HNx : Hid (norm x = ⟨x.f0, z, x.f2⟩) := hide (by rw [← hz]; rfl)
        have hu := Try.underlying29
        have hk' := Try.underlying27
        have HB4 := hide (((HB.out.alloc HB.out.size (.cells #[.int .i64 x.f0.f0, .int .i64 x.f0.f1, .int .i64 x.f0.f2, .int .i64 z, .int .i64 x.f2] 29))).alloc (by rw [World.size_alloc]; have := HB.out.size; omega) (.cells #[.int .i64 x.f0.f0, .int .i64 x.f0.f1, .int .i64 x.f0.f2, .int .i64 z, .int .i64 x.f2] 29))
        have HO4 := hide ((HO.out.alloc (.cells #[.int .i64 x.f0.f0, .int .i64 x.f0.f1, .int .i64 x.f0.f2, .int .i64 z, .int .i64 x.f2] 29)).alloc (.cells #[.int .i64 x.f0.f0, .int .i64 x.f0.f1, .int .i64 x.f0.f2, .int .i64 z, .int .i64 x.f2] 29))
        have hC4 := C_one (d := k29) (x := (⟨x.f0, z, x.f2⟩ : M)) (Blk.new (wr.alloc (.cells #[.int .i64 x.f0.f0, .int .i64 x.f0.f1, .int .i64 x.f0.f2, .int .i64 z, .int .i64 x.f2] 29)) 29 #[.int .i64 x.f0.f0, .int .i64 x.f0.f1, .int .i64 x.f0.f2, .int .i64 z, .int .i64 x.f2]) flatM rfl k29_mk
        rw [World.size_alloc] at hC4
        have HC4 := hide hC4
        clear hC4
        go_wp2_with ((with_reducible refine gate_builtin (b := .append) (xs := #[.tmp 28, .tmp 30]) rfl ?_); at_builtin; refine wp_append flatM rfl k29_open rfl (.tmp 28) (.tmp 30) 22 rfl zM 40 Try.underlying22 infoM rfl _ rfl HO4.out _ _ _ [(⟨x.f0, z, x.f2⟩ : M)] rfl HC4.out (by omega) ?aL ?aB ?_; (case aL => have := HY.out; have := HLs.out; simp only [List.length_singleton]; omega); (case aB => exact HB4.out.size); rintro v' w5 ho hg)
        have hg : World.grownBy _ w5 u3.ownBlock := hg
        have HO5 : Hid (OwnM w5 w.heap.size v' ((l0.take (k + 1)).map norm)) := hide (by rw [HS.out, HNx.out]; exact ho)
        have HB5 : Hid (Below w.heap.size w w5) := hide (HB4.out.grown hg HB4.out.size (fun b hb => (HO.out.blk b hb).1))
        go_roundw
        case rel => exact ⟨k + 1, by omega, by go_num, HO5, HB5⟩
        case measure => simp [intOf]; omega
      · have b1 : ¬ (k : Int) < (l0.length : Int) := by omega
        obtain rfl : k = l0.length := by omega
        rw [List.take_length] at HO
        have HWh := hide (whole HRise.out)
        have HLn := hide (lanes_len l0)
        have HLo : Hid ((l0.map norm).length = l0.length) := hide (by rw [List.length_map])
        have HRo : Hid (Rise (l0.map norm)) := hide (rise_norm HRise.out)
        obtain ⟨o, ho⟩ : ∃ o, l0.map norm = o := ⟨_, rfl⟩
        rw [ho] at HO HWh HLn HLo HRo
        clear ho
        obtain ⟨A1, c1, hv, hc1, hC1, _⟩ := HO.out.reads flatM rfl k29_mk
        subst hv
        have HC1 := hide hC1
        have Hc1 := hide hc1
        clear hC1 hc1 HO HRise hk hlt
        go_wp2_with fail
        obtain ⟨W0, hW0⟩ : ∃ W0, wr = W0 := ⟨_, rfl⟩
        have HBW : Hid (Below w.heap.size w W0) := hide (by rw [← hW0]; exact HB.out)
        have HCW : Hid (Kd.C k29 W0 A1 o.length o) := hide (by rw [← hW0]; exact HC1.out)
        go_loopw [4, 7] (fun v iv ws => ∃ n : Nat, n ≤ 8 ∧ iv = .int .i64 n ∧ Hid (Kd.R (Kd.slice 29 k29) 22 ws W0.heap.size (fun _ => True) v ((List.range n).map (lane o))) ∧ Hid (Below W0.heap.size W0 ws)) (fun _ iv _ => 8 - (intOf iv).toNat)
        case atStart => exact ⟨0, Nat.zero_le _, rfl, hide (Kd.R_nil _ _ _ _ _), hide (by rw [hW0]; exact Below.refl _ _)⟩
        case round =>
          clear HB HC1 hW0
          obtain ⟨n, hn, rfl, HP, HB⟩ := hrel
          by_cases hlt : n < 8
          · have b1 : (n : Int) < 8 := by omega
            have HPr := hide (Trace.project_call A1 c1 o Hc1.out (by have := HLo.out; have := HY.out; omega) (n : Int) wr (Kd.C_below HCW.out HB.out))
            have HS : Hid ((List.range (n + 1)).map (lane o) = (List.range n).map (lane o) ++ [lane o n]) := hide (by rw [List.range_succ, List.map_append]; rfl)
            have HLs : Hid (((List.range n).map (lane o)).length = n) := hide (by rw [List.length_map, List.length_range])
            have HVb : Hid (∀ b, u4.ownBlock = some b → b < wr.heap.size) := hide (fun b hb => ((Kd.R_bound HP.out).1 b hb).2.2.1)
            obtain ⟨ys, hys⟩ : ∃ ys, (List.range n).map (lane o) = ys := ⟨_, rfl⟩
            rw [hys] at HS HP HLs
            clear hys
            go_wp2_with fail
            refine HPr.out.mono ?_
            rintro e w3 ⟨v2, rfl, hR2, hb3⟩
            obtain ⟨A2, c2, rfl, _, _⟩ := Kd.R_reads hR2
            have HP3 := hide (R_keep HP.out hb3)
            have HB3 := hide (below_step HB.out hb3)
            have HM3 : Hid ((Kd.slice 29 k29).M w3 W0.heap.size (fun k => wr.heap.size ≤ k) (lane o n) [.slice A2 (Trace.own o (n : Int)).length c2]) := hide ⟨_, rfl, Kd.R_lower (Kd.R_mono (Kd.R_bound hR2) (fun k hk => hk.2.1)) HB.out.size⟩
            clear hR2 hb3 HP HPr
            obtain ⟨m2, hm2⟩ : ∃ m2, (Trace.own o (n : Int)).length = m2 := ⟨_, rfl⟩
            rw [hm2] at HM3 ⊢
            clear hm2
            go_wp2_with ((with_reducible refine gate_builtin (b := .append) (xs := #[.tmp 36, .tmp 40]) rfl ?_); at_builtin; refine Kd.R_append (Kd.slice 29 k29) (w0 := W0) W0.heap.size rfl (.tmp 36) (.tmp 40) 34 22 (.slice none 0 0) 24 rfl Try.underlying34 infoS rfl (by decide) (by omega) _ ys (lane o n) [.slice A2 m2 c2] (fun _ => True) (fun k => wr.heap.size ≤ k) rfl rfl HM3.out ?aP (fun _ _ => trivial) HP3.out HB3.out HB3.out.size ?aL ?_; (case aP => exact fun k hk => ⟨trivial, fun e => by have := HVb.out k e.symm; omega⟩); (case aL => have := HLs.out; omega); intro v1 w7 ho hb2 hg hat; have HO1 := hide ho; have HB7 := hide hb2; clear ho hb2 hg hat)
            go_roundw
            case rel => exact ⟨n + 1, by omega, by go_num, hide (by rw [HS.out]; exact HO1.out), HB7⟩
            case measure => simp [intOf]; omega
          · have b1 : ¬ (n : Int) < 8 := by omega
            obtain rfl : n = 8 := by omega
            obtain ⟨A3, c3, hv, hc3, hC3⟩ := Kd.R_reads HP.out
            subst hv
            have HC3 := hide hC3
            have Hc3 := hide hc3
            have HBw := hide (below_step HBW.out HB.out)
            have HC1 := hide (Kd.C_below HCW.out HB.out)
            obtain ⟨ps, hps⟩ : ∃ ps, (List.range 8).map (lane o) = ps := ⟨_, rfl⟩
            rw [hps] at HC3 Hc3 HWh HLn ⊢
            have HPl : Hid (ps.length = 8) := hide (by rw [← hps]; rfl)
            clear hC3 hc3 HP hps hlt hn HBW HCW
            have HMg := hide (fun W (hb : Below wr.heap.size wr W) => merge_call A3 c3 ps Hc3.out (by have := HLn.out; have := HY.out; omega) (by have := HPl.out; omega) W (Kd.C_below HC3.out hb))
            rw [HWh.out] at HMg
            have hyo : o.length * 40 ≤ 140737488351232 := by have := HLo.out; have := HY.out; omega
            have HYo := hide hyo
            clear hyo
            go_wp2_with fail
            refine (HMg.out _ (Below.refl _ _)).mono ?_
            rintro e w2 ⟨v2, rfl, ho2, hb2⟩
            obtain ⟨A4, c4, rfl, hc4, hC4, _⟩ := ho2.reads flatM rfl k29_mk
            have HC4 := hide hC4
            have HX2 := hide hb2
            have HB2 := hide (below_step HBw.out hb2)
            have HC12 := hide (Kd.C_below HC1.out hb2)
            clear hC4 hc4 ho2 hb2
            go_wp2_with fail
            refine (Trace.same_call A4 _ c4 o A1 _ c1 o rfl rfl HYo.out true (by simp) _ HC4.out HC12.out).mono ?_
            rintro e w5 ⟨rfl, hb5⟩
            have HX5 := hide (below_step HX2.out hb5)
            have HB5 := hide (below_step HB2.out hb5)
            clear hb5 HC4 HC12
            go_wp2_with fail
            refine (HMg.out _ HX5.out).mono ?_
            rintro e w6 ⟨v2, rfl, ho2, hb2⟩
            obtain ⟨A5, c5, rfl, hc5, hC5, _⟩ := ho2.reads flatM rfl k29_mk
            have HC5 := hide hC5
            have HB6 := hide (below_step HB5.out hb2)
            clear hC5 hc5 ho2 hb2
            go_wp2_with fail
            refine (rising_call A5 _ c5 o rfl HYo.out _ HC5.out).mono ?_
            rintro e w7 ⟨⟨v, rfl, hv⟩, hb7⟩
            obtain rfl : v = true := hv.2 HRo.out
            have HB7 := hide (below_step HB6.out hb7)
            clear hb7 hv
            go_wp2_with fail
            refine (Trace.awake_call _).mono ?_
            rintro e w8 ⟨rfl, hb8⟩
            go_wp2_with fail
            go_ret
            exact ⟨rfl, below_step HB7.out hb8⟩
end Go.Proofs.Ytcfhkapalcfpiaa.traceWhole
