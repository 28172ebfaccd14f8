/- The contract of slices' symMerge (stable sort), at elements of k cells. No law is proved here. -/
import Derived.Test.YtkhdghlgkljdgaaSortWalk
set_option linter.unusedVariables false
set_option linter.unusedSimpArgs false
set_option linter.unusedSectionVars false
namespace Go.Proofs.Ytkhdghlgkljdgaa.SortW
open Go.Proofs Go.Shelf Go.RowKit Go.Lib Go.Sort Go.Proofs.Ytkhdghlgkljdgaa.SortPure
variable {P : Program} {α : Type} [Inhabited α] {k : Nat} {enc : α → List Value}

set_option maxHeartbeats 8000000 in
set_option maxRecDepth 1000000 in
theorem sym_left (L : Sorts P k) (cf : α → α → Int) (W : Weak (ltOf cf)) (g : Nat) (cb : Array Value) (eg : ∀ args w, (callFunc g args).run P w = .ok (.enter g args) w)
    (blk off cap a m b : Nat) (d0 d : Array α) (w0 w : World) (hcmp : CmpLays P g cb enc k cf blk off d0.size w0) (R : RowK enc k w0 blk off d0) (hs : d.size = d0.size) (S : SWK enc k w0 blk off d w)
    (A Y B : List α) (x : α) (hd : d.toList = A ++ ([x] ++ (Y ++ B))) (hY : Srt (ltOf cf) Y) (ha : a = A.length) (hm : m = a + 1) (hb : b = m + Y.length) (hsz : d0.size < 4611686018427387904) :
    Calls P 48 #[.slice (some ⟨blk, off, none⟩) d0.size cap, .int .i64 a, .int .i64 m, .int .i64 b, .func (.func g) #[] cb] w (Holds' enc k w0 blk off (A ++ (merge (ltOf cf) [x] Y ++ B))) := by
  have mixed := L.mixed; have t0 := L.t0; have a0 := L.a0; have z0 := L.z0; have v0 := L.v0; have t3 := L.t3; have a3 := L.a3; have z3 := L.z3; have v3 := L.v3; have t4 := L.t4; have a4 := L.a4; have z4 := L.z4; have v4 := L.v4; have t22 := L.t22; have a22 := L.a22; have z22 := L.z22; have v22 := L.v22; have t25 := L.t25; have a25 := L.a25; have z25 := L.z25; have v25 := L.v25; have tu := L.tu; have au := L.au; have zu := L.zu; have vu := L.vu
  have aE := L.aE; have zE := L.zE
  have FG := L.fsym
  have hlen : d.size = A.length + (1 + (Y.length + B.length)) := by
    have := congrArg List.length hd
    simp at this
    omega
  have bb : b ≤ d0.size := by omega
  have mb : m ≤ b := by omega
  have am : a < m := by omega
  have am2 : m ≤ a + 1 := by omega
  have n0 : ((m : Int) - (a : Int) == 1) = true := by rw [beq_iff_eq]; omega
  have HC := hide hcmp
  have S0 := hide S
  have HS := hide hs
  have HD := hide hd
  have HM := hide hm
  have HA := hide ha
  have HB := hide hb
  clear S hcmp hlen hs hd hm ha hb
  go_enter FG, Try.ntmps48
  go_wp2
  go_loopg [10, 11] (b - m) (fun kx s10 s11 wr => ∃ (i j : Nat), s10 = .int .i64 i ∧ s11 = .int .i64 j ∧ m ≤ i ∧ i ≤ j ∧ j ≤ b ∧ j - i ≤ kx ∧ Hid (SWK enc k w0 blk off d wr) ∧ Hid ((i = m ∨ ltOf cf d[i - 1]! d[a]! = true) ∧ (j = b ∨ ltOf cf d[j]! d[a]! = false)))
  case atStart => exact ⟨m, b, rfl, rfl, Nat.le_refl _, mb, Nat.le_refl _, Nat.le_refl _, S0, hide ⟨.inl rfl, .inl rfl⟩⟩
  case round =>
    clear S0
    obtain ⟨i, j, rfl, rfl, hmi, hij, hjb, hkx, S1, HP⟩ := hrel
    by_cases hlt : i < j
    · obtain ⟨h, hh⟩ : ∃ h, (i + j) / 2 = h := ⟨_, rfl⟩
      have e0 : ((i : Int) + (j : Int)) / 2 = (h : Int) := by omega
      have E0 := hide e0
      have h1 : i ≤ h := by omega
      have h2 : h < j := by omega
      clear e0 hh
      have hltz : (i : Int) < (j : Int) := by omega
      go_wp2_with fail
      rw [E0.out]
      have ea : ((h : Int)).toNat = h := by omega
      have pa : (0 : Int) ≤ (h : Int) := by omega
      have ba : (h : Int) < (d0.size : Int) := by omega
      have ra : IntKind.i64.wrap ((h : Int)) = (h : Int) := by rw [IntKind.wrap_i64]; omega
      have ec : ((a : Int)).toNat = a := by omega
      have pc : (0 : Int) ≤ (a : Int) := by omega
      have bc : (a : Int) < (d0.size : Int) := by omega
      have rc : IntKind.i64.wrap ((a : Int)) = (a : Int) := by rw [IntKind.wrap_i64]; omega
      have l1 := S1.out.ld R HS.out P h (by have := HS.out; omega)
      have l2 := S1.out.ld R HS.out P a (by have := HS.out; omega)
      obtain ⟨xh, hxh⟩ : ∃ x, d[h]! = x := ⟨_, rfl⟩
      obtain ⟨xa, hxa⟩ : ∃ x, d[a]! = x := ⟨_, rfl⟩
      rw [hxh] at l1
      rw [hxa] at l2
      have hc := S1.out.cmp HC.out HS.out xh xa
      have HX := hide (And.intro hxh hxa)
      clear hxh hxa
      by_cases hv : cf xh xa < 0
      · have hvd : decide (cf xh xa < 0) = true := decide_eq_true hv
        go_quiet_grown (first | (go_at_fn g; refine Calls.grown_of (hc _ _)))
        have S2 := hide (S1.out.grown nq osq)
        clear l1 l2 hc S1
        generalize grow (wr.drewN nq) osq = w2 at S2 ⊢
        go_wp2
        go_roundg (j - (h + 1))
        case measure => omega
        case rel => exact ⟨h + 1, j, by go_num, rfl, by omega, by omega, hjb, Nat.le_refl _, S2, hide ⟨.inr (by rw [Nat.add_sub_cancel, HX.out.1, HX.out.2]; exact hvd), HP.out.2⟩⟩
      · have hvd : decide (cf xh xa < 0) = false := decide_eq_false hv
        go_quiet_grown (first | (go_at_fn g; refine Calls.grown_of (hc _ _)))
        have S2 := hide (S1.out.grown nq osq)
        clear l1 l2 hc S1
        generalize grow (wr.drewN nq) osq = w2 at S2 ⊢
        go_wp2
        go_roundg (h - i)
        case measure => omega
        case rel => exact ⟨i, h, rfl, rfl, hmi, h1, by omega, Nat.le_refl _, S2, hide ⟨HP.out.1, .inr (by rw [HX.out.1, HX.out.2]; exact hvd)⟩⟩
    · have hin : j = i := by omega
      subst hin
      obtain ⟨Y1, Y2, q1, q2, q3⟩ := one_left W HD.out hY HA.out HM.out HB.out hmi hjb HP.out.1 HP.out.2
      have HD2 : Hid (d.toList = A ++ (Y1.take 0 ++ x :: (Y1.drop 0 ++ (Y2 ++ B)))) := hide (by rw [HD.out, q1]; simp)
      have HT : Hid (A ++ (merge (ltOf cf) [x] Y ++ B) = A ++ (Y1 ++ x :: (Y2 ++ B))) := hide (by rw [q3]; simp)
      have HQ := hide q2
      have hjm : j ≤ b := hjb
      clear q1 q2 q3 HP
      go_wp2
      go_loopg [13] (j - m) (fun kx s13 wr => ∃ (q : Nat) (dk : Array α), s13 = .int .i64 ((a + q : Nat) : Int) ∧ a + q + 1 ≤ j ∧ j - (a + q + 1) ≤ kx ∧ Hid (dk.size = d0.size) ∧ Hid (SWK enc k w0 blk off dk wr) ∧ Hid (dk.toList = A ++ (Y1.take q ++ x :: (Y1.drop q ++ (Y2 ++ B)))))
      case atStart => exact ⟨0, d, rfl, by omega, by omega, HS, S1, HD2⟩
      case round =>
        clear S1 HD2 HS
        obtain ⟨q, dk, rfl, hq, hkx2, hds, S1, hdk⟩ := hrel
        by_cases hlt2 : a + q + 1 < j
        · have hltz : ((a + q : Nat) : Int) < (j : Int) - 1 := by omega
          obtain ⟨c, hc⟩ : ∃ c, a + q = c := ⟨_, rfl⟩
          have HCq := hide hc
          rw [hc] at hlt2 hltz hkx2 ⊢
          clear hc
          go_wp2_with fail
          have ea44 : ((c : Int)).toNat = c := by omega
          have pa44 : (0 : Int) ≤ (c : Int) := by omega
          have ba44 : (c : Int) < (d0.size : Int) := by omega
          have ra44 : IntKind.i64.wrap ((c : Int)) = (c : Int) := by rw [IntKind.wrap_i64]; omega
          have ec44 : ((c : Int) + 1).toNat = c + 1 := by omega
          have pc44 : (0 : Int) ≤ (c : Int) + 1 := by omega
          have bc44 : (c : Int) + 1 < (d0.size : Int) := by omega
          have rc44 : IntKind.i64.wrap ((c : Int) + 1) = (c : Int) + 1 := by rw [IntKind.wrap_i64]; omega
          have hds' : dk.size = d0.size := hds.out
          have S2 := hide (S1.out.swapped R c (c + 1) (by omega) (by omega))
          have l44a := S1.out.ld1 R hds' P c (by omega)
          have l44b := S1.out.ld1 R hds' P (c + 1) (by omega)
          have s44a := S1.out.st1 R hds' P c (by omega) dk[c + 1]!
          have s44b := S1.out.st2 R hds' P c (c + 1) (by omega) (by omega) dk[c + 1]! dk[c]!
          have n44a : (enc dk[c]!).length = k := R.hk _
          have n44b : (enc dk[c + 1]!).length = k := R.hk _
          clear hds'
          generalize enc dk[c]! = cI44 at S2 l44a s44b n44a
          generalize enc dk[c + 1]! = cJ44 at S2 l44b s44a s44b n44b
          clear S1
          go_big_region_o
          clear l44a l44b s44a s44b
          generalize (wr.drew.setCells blk (off + c * k) cJ44).setCells blk (off + (c + 1) * k) cI44 = w2 at S2 ⊢
          go_wp2
          go_roundg (j - (c + 1 + 1))
          case measure => omega
          case rel =>
            exact ⟨q + 1, swp dk c (c + 1), by rw [show a + (q + 1) = c + 1 by have := HCq.out; omega]; go_num, by have := HCq.out; omega, by have := HCq.out; omega, hide (by rw [size_swp]; exact hds.out), S2, hide (right_step (by have := HCq.out; have := HQ.out; have := HM.out; omega) hdk.out (by have := HCq.out; have := HA.out; omega) rfl)⟩
        · have hltz : ¬ ((a + q : Nat) : Int) < (j : Int) - 1 := by omega
          have hq2 : q = Y1.length := by have := HQ.out; have := HM.out; omega
          have HQ2 := hide hq2
          clear hq2
          go_wp2
          go_end0
          refine ⟨rfl, dk, S1.out, ?_⟩
          rw [hdk.out, HQ2.out, List.take_length, List.drop_length, HT.out]
          rfl
set_option maxHeartbeats 8000000 in
set_option maxRecDepth 1000000 in
theorem sym_right (L : Sorts P k) (cf : α → α → Int) (W : Weak (ltOf cf)) (g : Nat) (cb : Array Value) (eg : ∀ args w, (callFunc g args).run P w = .ok (.enter g args) w)
    (blk off cap a m b : Nat) (d0 d : Array α) (w0 w : World) (hcmp : CmpLays P g cb enc k cf blk off d0.size w0) (R : RowK enc k w0 blk off d0) (hs : d.size = d0.size) (S : SWK enc k w0 blk off d w)
    (A X B : List α) (y : α) (hd : d.toList = A ++ (X ++ ([y] ++ B))) (hX : Srt (ltOf cf) X) (ha : a = A.length) (hm : m = a + X.length) (hb : b = m + 1) (h2 : a + 2 ≤ m) (hsz : d0.size < 4611686018427387904) :
    Calls P 48 #[.slice (some ⟨blk, off, none⟩) d0.size cap, .int .i64 a, .int .i64 m, .int .i64 b, .func (.func g) #[] cb] w (Holds' enc k w0 blk off (A ++ (merge (ltOf cf) X [y] ++ B))) := by
  have mixed := L.mixed; have t0 := L.t0; have a0 := L.a0; have z0 := L.z0; have v0 := L.v0; have t3 := L.t3; have a3 := L.a3; have z3 := L.z3; have v3 := L.v3; have t4 := L.t4; have a4 := L.a4; have z4 := L.z4; have v4 := L.v4; have t22 := L.t22; have a22 := L.a22; have z22 := L.z22; have v22 := L.v22; have t25 := L.t25; have a25 := L.a25; have z25 := L.z25; have v25 := L.v25; have tu := L.tu; have au := L.au; have zu := L.zu; have vu := L.vu
  have aE := L.aE; have zE := L.zE
  have FG := L.fsym
  have hlen : d.size = A.length + (X.length + (1 + B.length)) := by
    have := congrArg List.length hd
    simp at this
    omega
  have mb : m < d0.size := by omega
  have am : a ≤ m := by omega
  have n0 : ((m : Int) - (a : Int) == 1) = false := by rw [beq_eq_false_iff_ne]; omega
  have n1 : ((b : Int) - (m : Int) == 1) = true := by rw [beq_iff_eq]; omega
  have n2 : m ≤ b := by omega
  have n3 : b ≤ m + 1 := by omega
  have HC := hide hcmp
  have S0 := hide S
  have HS := hide hs
  have HD := hide hd
  have HM := hide hm
  have HA := hide ha
  have HB := hide hb
  clear S hcmp hlen hs hd hm ha hb
  go_enter FG, Try.ntmps48
  go_wp2
  go_loopg [14, 15] (m - a) (fun kx s10 s11 wr => ∃ (i j : Nat), s10 = .int .i64 i ∧ s11 = .int .i64 j ∧ a ≤ i ∧ i ≤ j ∧ j ≤ m ∧ j - i ≤ kx ∧ Hid (SWK enc k w0 blk off d wr) ∧ Hid ((i = a ∨ ltOf cf d[m]! d[i - 1]! = false) ∧ (j = m ∨ ltOf cf d[m]! d[j]! = true)))
  case atStart => exact ⟨a, m, rfl, rfl, Nat.le_refl _, am, Nat.le_refl _, Nat.le_refl _, S0, hide ⟨.inl rfl, .inl rfl⟩⟩
  case round =>
    clear S0
    obtain ⟨i, j, rfl, rfl, hmi, hij, hjb, hkx, S1, HP⟩ := hrel
    by_cases hlt : i < j
    · obtain ⟨h, hh⟩ : ∃ h, (i + j) / 2 = h := ⟨_, rfl⟩
      have e0 : ((i : Int) + (j : Int)) / 2 = (h : Int) := by omega
      have E0 := hide e0
      have h1 : i ≤ h := by omega
      have h2 : h < j := by omega
      clear e0 hh
      have hltz : (i : Int) < (j : Int) := by omega
      go_wp2_with fail
      rw [E0.out]
      have ea : ((h : Int)).toNat = h := by omega
      have pa : (0 : Int) ≤ (h : Int) := by omega
      have ba : (h : Int) < (d0.size : Int) := by omega
      have ra : IntKind.i64.wrap ((h : Int)) = (h : Int) := by rw [IntKind.wrap_i64]; omega
      have ec : ((m : Int)).toNat = m := by omega
      have pc : (0 : Int) ≤ (m : Int) := by omega
      have bc : (m : Int) < (d0.size : Int) := by omega
      have rc : IntKind.i64.wrap ((m : Int)) = (m : Int) := by rw [IntKind.wrap_i64]; omega
      have l1 := S1.out.ld R HS.out P h (by have := HS.out; omega)
      have l2 := S1.out.ld R HS.out P m (by have := HS.out; omega)
      obtain ⟨xh, hxh⟩ : ∃ x, d[h]! = x := ⟨_, rfl⟩
      obtain ⟨xa, hxa⟩ : ∃ x, d[m]! = x := ⟨_, rfl⟩
      rw [hxh] at l1
      rw [hxa] at l2
      have hc := S1.out.cmp HC.out HS.out xa xh
      have HX := hide (And.intro hxh hxa)
      clear hxh hxa
      by_cases hv : cf xa xh < 0
      · have hvd : decide (cf xa xh < 0) = true := decide_eq_true hv
        go_quiet_grown (first | (go_at_fn g; refine Calls.grown_of (hc _ _)))
        have S2 := hide (S1.out.grown nq osq)
        clear l1 l2 hc S1
        generalize grow (wr.drewN nq) osq = w2 at S2 ⊢
        go_wp2
        go_roundg (h - i)
        case measure => omega
        case rel => exact ⟨i, h, rfl, rfl, hmi, h1, by omega, Nat.le_refl _, S2, hide ⟨HP.out.1, .inr (by rw [HX.out.1, HX.out.2]; exact hvd)⟩⟩
      · have hvd : decide (cf xa xh < 0) = false := decide_eq_false hv
        go_quiet_grown (first | (go_at_fn g; refine Calls.grown_of (hc _ _)))
        have S2 := hide (S1.out.grown nq osq)
        clear l1 l2 hc S1
        generalize grow (wr.drewN nq) osq = w2 at S2 ⊢
        go_wp2
        go_roundg (j - (h + 1))
        case measure => omega
        case rel => exact ⟨h + 1, j, by go_num, rfl, by omega, by omega, hjb, Nat.le_refl _, S2, hide ⟨.inr (by rw [Nat.add_sub_cancel, HX.out.1, HX.out.2]; exact hvd), HP.out.2⟩⟩
    · have hin : j = i := by omega
      subst hin
      obtain ⟨X1, X2, q1, q2, q3⟩ := one_right W HD.out hX HA.out HM.out hmi hjb HP.out.1 HP.out.2
      have hx2 : X2.length = m - j := by have hq := congrArg List.length q1; have := HM.out; simp at hq; omega
      have HD2 : Hid (d.toList = (A ++ X1) ++ (X2.take (m - j) ++ y :: (X2.drop (m - j) ++ B))) := hide (by rw [HD.out, q1, ← hx2]; simp)
      have HT : Hid (A ++ (merge (ltOf cf) X [y] ++ B) = (A ++ X1) ++ (y :: (X2 ++ B))) := hide (by rw [q3]; simp)
      have HQ : Hid ((A ++ X1).length = j) := hide (by rw [List.length_append, ← HA.out]; exact q2)
      have HX2 := hide hx2
      have hjm : j ≤ m := hjb
      clear q1 q2 q3 HP hx2
      go_wp2
      go_loopg [17] (m - j) (fun kx s13 wr => ∃ (q : Nat) (dk : Array α), s13 = .int .i64 ((j + q : Nat) : Int) ∧ q ≤ m - j ∧ q ≤ kx ∧ Hid (dk.size = d0.size) ∧ Hid (SWK enc k w0 blk off dk wr) ∧ Hid (dk.toList = (A ++ X1) ++ (X2.take q ++ y :: (X2.drop q ++ B))))
      case atStart => exact ⟨m - j, d, by rw [show j + (m - j) = m by omega], Nat.le_refl _, Nat.le_refl _, HS, S1, HD2⟩
      case round =>
        clear S1 HD2 HS
        obtain ⟨q, dk, rfl, hq, hkx2, hds, S1, hdk⟩ := hrel
        by_cases hlt2 : 0 < q
        · obtain ⟨c, hc⟩ : ∃ c, q = c + 1 := ⟨q - 1, by omega⟩
          subst hc
          obtain ⟨f, hf⟩ : ∃ f, j + c = f := ⟨_, rfl⟩
          have hltz : (j : Int) < (f : Int) + 1 := by omega
          have e1 : ((j + (c + 1) : Nat) : Int) = (f : Int) + 1 := by omega
          have fm : f + 1 ≤ m := by omega
          have HF := hide hf
          rw [e1]
          clear e1 hf
          have r0 : (f : Int) + 1 - 1 = (f : Int) := by omega
          go_wp2_with fail
          have ea44 : ((f : Int)).toNat = f := by omega
          have pa44 : (0 : Int) ≤ (f : Int) := by omega
          have ba44 : (f : Int) < (d0.size : Int) := by omega
          have ra44 : IntKind.i64.wrap ((f : Int)) = (f : Int) := by rw [IntKind.wrap_i64]; omega
          have ec44 : ((f : Int) + 1).toNat = f + 1 := by omega
          have pc44 : (0 : Int) ≤ (f : Int) + 1 := by omega
          have bc44 : (f : Int) + 1 < (d0.size : Int) := by omega
          have rc44 : IntKind.i64.wrap ((f : Int) + 1) = (f : Int) + 1 := by rw [IntKind.wrap_i64]; omega
          have hds' : dk.size = d0.size := hds.out
          have S2 := hide (S1.out.swapped R (f + 1) f (by omega) (by omega))
          have l44a := S1.out.ld1 R hds' P (f + 1) (by omega)
          have l44b := S1.out.ld1 R hds' P f (by omega)
          have s44a := S1.out.st1 R hds' P (f + 1) (by omega) dk[f]!
          have s44b := S1.out.st2 R hds' P (f + 1) f (by omega) (by omega) dk[f]! dk[f + 1]!
          have n44a : (enc dk[f + 1]!).length = k := R.hk _
          have n44b : (enc dk[f]!).length = k := R.hk _
          clear hds'
          generalize enc dk[f + 1]! = cI44 at S2 l44a s44b n44a
          generalize enc dk[f]! = cJ44 at S2 l44b s44a s44b n44b
          clear S1
          go_big_region_o
          clear l44a l44b s44a s44b
          generalize (wr.drew.setCells blk (off + (f + 1) * k) cJ44).setCells blk (off + f * k) cI44 = w2 at S2 ⊢
          go_wp2
          go_roundg c
          case measure => omega
          case rel =>
            exact ⟨c, swp dk (f + 1) f, by rw [HF.out], by omega, Nat.le_refl _, hide (by rw [size_swp]; exact hds.out), S2, hide (left_step (by have := HX2.out; omega) hdk.out (by have := HF.out; have := HQ.out; omega) rfl)⟩
        · have hq2 : q = 0 := by omega
          subst hq2
          have hltz : ¬ (j : Int) < ((j + 0 : Nat) : Int) := by simp
          rw [Nat.add_zero] at hltz ⊢
          go_wp2
          go_end0
          refine ⟨rfl, dk, S1.out, ?_⟩
          rw [hdk.out, HT.out]
          rfl

def SymOk (P : Program) (k : Nat) (enc : α → List Value) (cf : α → α → Int) (g : Nat) (cb : Array Value) (blk off cap : Nat) (d0 : Array α) (w0 : World) (a m b : Nat) : Prop :=
  ∀ (d : Array α) (w : World) (A X Y B : List α), d.size = d0.size → SWK enc k w0 blk off d w → d.toList = A ++ (X ++ (Y ++ B)) → Srt (ltOf cf) X → Srt (ltOf cf) Y → a = A.length → m = a + X.length → b = m + Y.length → a < m → m < b →
    Calls P 48 #[.slice (some ⟨blk, off, none⟩) d0.size cap, .int .i64 a, .int .i64 m, .int .i64 b, .func (.func g) #[] cb] w (Holds' enc k w0 blk off (A ++ (merge (ltOf cf) X Y ++ B)))
theorem sz_of {d : Array α} {T : List α} {n : Nat} (h : d.toList = T) (hT : T.length = n) : d.size = n := by rw [← hT, ← h]; simp

set_option maxHeartbeats 16000000 in
set_option maxRecDepth 1000000 in
theorem sym_gen (L : Sorts P k) (cf : α → α → Int) (W : Weak (ltOf cf)) (g : Nat) (cb : Array Value) (eg : ∀ args w, (callFunc g args).run P w = .ok (.enter g args) w)
    (blk off cap a m b mid n lo hi : Nat) (d0 d : Array α) (w0 w : World) (hcmp : CmpLays P g cb enc k cf blk off d0.size w0) (R : RowK enc k w0 blk off d0) (hs : d.size = d0.size) (S : SWK enc k w0 blk off d w)
    (ih : ∀ a' m' b', b' - a' < b - a → SymOk P k enc cf g cb blk off cap d0 w0 a' m' b')
    (A X Y B : List α) (hd : d.toList = A ++ (X ++ (Y ++ B))) (hX : Srt (ltOf cf) X) (hY : Srt (ltOf cf) Y) (ha : a = A.length) (hm : m = a + X.length) (hb : b = m + Y.length) (h2 : a + 2 ≤ m) (h3 : m + 2 ≤ b) (hsz : d0.size < 1152921504606846976)
    (hmid : mid = (a + b) / 2) (hn : n = mid + m) (hlh : (mid < m ∧ lo = n - b ∧ hi = mid) ∨ (m ≤ mid ∧ lo = a ∧ hi = m)) :
    Calls P 48 #[.slice (some ⟨blk, off, none⟩) d0.size cap, .int .i64 a, .int .i64 m, .int .i64 b, .func (.func g) #[] cb] w (Holds' enc k w0 blk off (A ++ (merge (ltOf cf) X Y ++ B))) := by
  have mixed := L.mixed; have t0 := L.t0; have a0 := L.a0; have z0 := L.z0; have v0 := L.v0; have t3 := L.t3; have a3 := L.a3; have z3 := L.z3; have v3 := L.v3; have t4 := L.t4; have a4 := L.a4; have z4 := L.z4; have v4 := L.v4; have t22 := L.t22; have a22 := L.a22; have z22 := L.z22; have v22 := L.v22; have t25 := L.t25; have a25 := L.a25; have z25 := L.z25; have v25 := L.v25; have tu := L.tu; have au := L.au; have zu := L.zu; have vu := L.vu
  have aE := L.aE; have zE := L.zE
  have FG := L.fsym
  have erot : ∀ args w, (callFunc 51 args).run P w = .ok (.enter 51 args) w := enters_of L.frot rfl rfl
  have esym : ∀ args w, (callFunc 48 args).run P w = .ok (.enter 48 args) w := enters_of L.fsym rfl rfl
  have hlen : d.size = A.length + (X.length + (Y.length + B.length)) := by
    have := congrArg List.length hd
    simp at this
    omega
  have mb : b ≤ d0.size := by omega
  have n0 : ((m : Int) - (a : Int) == 1) = false := by rw [beq_eq_false_iff_ne]; omega
  have n1 : ((b : Int) - (m : Int) == 1) = false := by rw [beq_eq_false_iff_ne]; omega
  have HLen : Hid (A.length + (X.length + (Y.length + B.length)) = d0.size) := hide (by omega)
  have loa : a ≤ lo := by omega
  have lohi : lo ≤ hi := by omega
  have hih : hi ≤ m := by omega
  have hih2 : hi ≤ mid := by omega
  have nlo : n ≤ lo + b := by omega
  have nge : m ≤ n - hi := by omega
  have mid1 : a < mid := by omega
  have mid2 : mid < b := by omega
  have hnn : n < b + b := by omega
  have E1 : Hid (((a : Int) + (b : Int)) / 2 = (mid : Int)) := hide (by omega)
  have E2 : Hid ((mid : Int) + (m : Int) = (n : Int)) := hide (by omega)
  have hlh2 : (¬ (m ≤ mid) ∧ Hid ((n : Int) - (b : Int) = (lo : Int) ∧ hi = mid)) ∨ (m ≤ mid ∧ Hid (lo = a ∧ hi = m)) := by
    rcases hlh with ⟨q1, q2, q3⟩ | ⟨q1, q2, q3⟩
    · exact .inl ⟨by omega, hide ⟨by omega, q3⟩⟩
    · exact .inr ⟨q1, hide ⟨q2, q3⟩⟩
  have HLH := hide hlh
  have IH := hide ih
  have HC := hide hcmp
  have S0 := hide S
  have HS := hide hs
  have HD := hide hd
  have HM := hide hm
  have HA := hide ha
  have HB := hide hb
  have HMid := hide hmid
  have HN := hide hn
  clear S hcmp hlen hs hd hm ha hb ih hmid hn hlh
  go_enter FG, Try.ntmps48
  rcases hlh2 with ⟨c1, c2⟩ | ⟨c1, c2⟩
  · have c3 : ((a : Int) + (b : Int)) / 2 < (m : Int) := by have := E1.out; omega
    go_wp2
    rw [E1.out, E2.out, c2.out.1]
    clear E1 E2
    go_loopg [20, 21] (hi - lo) (fun kx s20 s21 wr => ∃ (s r : Nat), s20 = .int .i64 s ∧ s21 = .int .i64 r ∧ lo ≤ s ∧ s ≤ r ∧ r ≤ hi ∧ r - s ≤ kx ∧ Hid (SWK enc k w0 blk off d wr) ∧ Hid ((s = lo ∨ ltOf cf d[n - 1 - (s - 1)]! d[s - 1]! = false) ∧ (r = hi ∨ ltOf cf d[n - 1 - r]! d[r]! = true)))
    case atStart => exact ⟨lo, hi, by first | rfl | rw [c2.out.1], by first | rfl | rw [c2.out.2], Nat.le_refl _, lohi, Nat.le_refl _, Nat.le_refl _, S0, hide ⟨.inl rfl, .inl rfl⟩⟩
    case round =>
      clear S0 c2 c3
      obtain ⟨s, r, rfl, rfl, hls, hsr, hrh, hkx, S1, HP⟩ := hrel
      by_cases hlt : s < r
      · obtain ⟨c, hh⟩ : ∃ c, (s + r) / 2 = c := ⟨_, rfl⟩
        have e0 : ((s : Int) + (r : Int)) / 2 = (c : Int) := by omega
        have E0 := hide e0
        have h1 : s ≤ c := by omega
        have h2 : c < r := by omega
        clear e0 hh
        have hltz : (s : Int) < (r : Int) := by omega
        go_wp2_with fail
        rw [E0.out]
        obtain ⟨q, hq⟩ : ∃ q, n - 1 - c = q := ⟨_, rfl⟩
        have ea : ((q : Int)).toNat = q := by omega
        have pa : (0 : Int) ≤ (q : Int) := by omega
        have ba : (q : Int) < (d0.size : Int) := by omega
        have ra : IntKind.i64.wrap ((n : Int) - 1 - (c : Int)) = (q : Int) := by rw [IntKind.wrap_i64]; omega
        have ec : ((c : Int)).toNat = c := by omega
        have pc : (0 : Int) ≤ (c : Int) := by omega
        have bc : (c : Int) < (d0.size : Int) := by omega
        have rc : IntKind.i64.wrap ((c : Int)) = (c : Int) := by rw [IntKind.wrap_i64]; omega
        have l1 := S1.out.ld R HS.out P q (by have := HS.out; omega)
        have l2 := S1.out.ld R HS.out P c (by have := HS.out; omega)
        have HQ := hide hq
        clear hq
        obtain ⟨xq, hxq⟩ : ∃ x, d[q]! = x := ⟨_, rfl⟩
        obtain ⟨xc, hxc⟩ : ∃ x, d[c]! = x := ⟨_, rfl⟩
        rw [hxq] at l1
        rw [hxc] at l2
        have hc := S1.out.cmp HC.out HS.out xq xc
        have HX := hide (And.intro hxq hxc)
        clear hxq hxc
        by_cases hv : cf xq xc < 0
        · have hvd : decide (cf xq xc < 0) = true := decide_eq_true hv
          go_quiet_grown (first | (go_at_fn g; refine Calls.grown_of (hc _ _)))
          have S2 := hide (S1.out.grown nq osq)
          clear l1 l2 hc S1
          generalize grow (wr.drewN nq) osq = w2 at S2 ⊢
          go_wp2
          go_roundg (c - s)
          case measure => omega
          case rel => exact ⟨s, c, rfl, rfl, hls, h1, by omega, Nat.le_refl _, S2, hide ⟨HP.out.1, .inr (by rw [HQ.out, HX.out.1, HX.out.2]; exact hvd)⟩⟩
        · have hvd : decide (cf xq xc < 0) = false := decide_eq_false hv
          go_quiet_grown (first | (go_at_fn g; refine Calls.grown_of (hc _ _)))
          have S2 := hide (S1.out.grown nq osq)
          clear l1 l2 hc S1
          generalize grow (wr.drewN nq) osq = w2 at S2 ⊢
          go_wp2
          go_roundg (r - (c + 1))
          case measure => omega
          case rel => exact ⟨c + 1, r, by go_num, rfl, by omega, by omega, hrh, Nat.le_refl _, S2, hide ⟨.inr (by rw [Nat.add_sub_cancel, HQ.out, HX.out.1, HX.out.2]; exact hvd), HP.out.2⟩⟩
      · have hin : r = s := by omega
        subst hin
        obtain ⟨X1, X2, Y1, Y2, q1, q2, q3, q4, q5, q6, q7, q8, q9, q10, s1', s2', s3', s4'⟩ := sym_split W HD.out hX hY HA.out HM.out HB.out HMid.out HN.out HLH.out hls hrh HP.out.1 HP.out.2
        obtain ⟨e, he⟩ : ∃ e, n - r = e := ⟨_, rfl⟩
        have e0 : (n : Int) - (r : Int) = (e : Int) := by omega
        rw [he] at q4 q7 q8
        have L1 : Hid (r = a + X1.length) := hide q3.symm
        have L4 : Hid (e = m + Y1.length) := hide q4.symm
        have lX : X.length = X1.length + X2.length := by rw [q1, List.length_append]
        have lY : Y.length = Y1.length + Y2.length := by rw [q2, List.length_append]
        have L2 : Hid (mid = r + Y1.length) := hide (by have := HN.out; omega)
        have L3 : Hid (m = r + X2.length) := hide (by have := HM.out; omega)
        have L5 : Hid (b = e + Y2.length) := hide (by have := HB.out; omega)
        have L6 : Hid (e = mid + X2.length) := hide (by have := L2.out; have := L3.out; omega)
        have HDr : Hid (d.toList = (A ++ X1) ++ (X2 ++ (Y1 ++ (Y2 ++ B)))) := hide (by rw [HD.out, q1, q2]; simp)
        have HMerge : Hid (merge (ltOf cf) X Y = merge (ltOf cf) X1 Y1 ++ merge (ltOf cf) X2 Y2) := hide q10
        have HLen2 : Hid (A.length + (X1.length + (Y1.length + (X2.length + (Y2.length + B.length)))) = d0.size) := hide (by have := HLen.out; omega)
        have s1 := hide s1'
        have s2 := hide s2'
        have s3 := hide s3'
        have s4 := hide s4'
        have w1 : e ≤ b := q8
        have w2 : e + r ≤ m + mid := by have := HN.out; omega
        have w3 : m + mid ≤ e + r := by have := HN.out; omega
        clear q1 q2 q3 q4 q10 s1' s2' s3' s4' lX lY he HP
        rcases Nat.eq_zero_or_pos (r - a) with p | p
        · have q : r < m := by omega
          rcases Nat.eq_zero_or_pos (e - m) with u | u
          · have v : e < b := by omega
            have t1i : decide ((r : Int) < (m : Int)) = true := by exact decide_eq_true (by omega)
            have t1n : decide (r < m) = true := by exact decide_eq_true (by omega)
            have t2i : decide ((m : Int) < (e : Int)) = false := by exact decide_eq_false (by omega)
            have t2n : decide (m < e) = false := by exact decide_eq_false (by omega)
            have t3i : decide ((a : Int) < (r : Int)) = false := by exact decide_eq_false (by omega)
            have t3n : decide (a < r) = false := by exact decide_eq_false (by omega)
            have t4i : decide ((r : Int) < (mid : Int)) = false := by exact decide_eq_false (by omega)
            have t4n : decide (r < mid) = false := by exact decide_eq_false (by omega)
            have t5i : decide ((mid : Int) < (e : Int)) = true := by exact decide_eq_true (by omega)
            have t5n : decide (mid < e) = true := by exact decide_eq_true (by omega)
            have t6i : decide ((e : Int) < (b : Int)) = true := by exact decide_eq_true (by omega)
            have t6n : decide (e < b) = true := by exact decide_eq_true (by omega)
            have z1 : X1 = [] := List.eq_nil_of_length_eq_zero (by have := L1.out; omega)
            have Z1 := hide z1
            clear z1
            have z3 : Y1 = [] := List.eq_nil_of_length_eq_zero (by have := L4.out; omega)
            have Z3 := hide z3
            clear z3
            go_wp2_with fail
            have HD2 : Hid (d.toList = A ++ (X1 ++ (Y1 ++ (X2 ++ (Y2 ++ B))))) := hide (by rw [HDr.out, Z3.out]; simp)
            have HD3 : Hid (d.toList = A ++ (merge (ltOf cf) X1 Y1 ++ (X2 ++ (Y2 ++ B)))) := hide (by rw [HD2.out, Z1.out]; simp [merge_nil_left, merge_nil_right])
            refine ((IH.out mid e b (by omega)) d wr (A ++ merge (ltOf cf) X1 Y1) X2 Y2 B HS.out S1.out (by rw [HD3.out]; simp) s2.out s4.out (by rw [List.length_append, length_merge, ← HA.out]; have := L1.out; have := L2.out; omega) L6.out L5.out (by omega) (by omega)).mono ?_
            rintro e3 w3 ⟨rfl, d3, S4a, hd3⟩
            have S4 := hide S4a
            have HD4 : Hid (d3.toList = A ++ (merge (ltOf cf) X1 Y1 ++ (merge (ltOf cf) X2 Y2 ++ B))) := hide (by rw [hd3]; simp)
            clear S4a hd3
            go_wp2
            go_end0
            exact ⟨rfl, d3, S4.out, by rw [HD4.out, HMerge.out]; simp⟩
          · rcases Nat.eq_zero_or_pos (b - e) with v | v
            · have u2 : m < e := by omega
              have t1i : decide ((r : Int) < (m : Int)) = true := by exact decide_eq_true (by omega)
              have t1n : decide (r < m) = true := by exact decide_eq_true (by omega)
              have t2i : decide ((m : Int) < (e : Int)) = true := by exact decide_eq_true (by omega)
              have t2n : decide (m < e) = true := by exact decide_eq_true (by omega)
              have t3i : decide ((a : Int) < (r : Int)) = false := by exact decide_eq_false (by omega)
              have t3n : decide (a < r) = false := by exact decide_eq_false (by omega)
              have t4i : decide ((r : Int) < (mid : Int)) = true := by exact decide_eq_true (by omega)
              have t4n : decide (r < mid) = true := by exact decide_eq_true (by omega)
              have t5i : decide ((mid : Int) < (e : Int)) = true := by exact decide_eq_true (by omega)
              have t5n : decide (mid < e) = true := by exact decide_eq_true (by omega)
              have t6i : decide ((e : Int) < (b : Int)) = false := by exact decide_eq_false (by omega)
              have t6n : decide (e < b) = false := by exact decide_eq_false (by omega)
              have z1 : X1 = [] := List.eq_nil_of_length_eq_zero (by have := L1.out; omega)
              have Z1 := hide z1
              clear z1
              have z4 : Y2 = [] := List.eq_nil_of_length_eq_zero (by have := L5.out; omega)
              have Z4 := hide z4
              clear z4
              go_wp2_with fail
              refine (rotate_call (enc := enc) L (.func (.func g) #[] cb) blk off cap r m e d0 d w0 wr R HS.out S1.out (A ++ X1) X2 Y1 (Y2 ++ B) HDr.out (by rw [List.length_append, ← HA.out]; exact L1.out) L3.out L4.out (by omega) (by omega) (by omega)).mono ?_
              rintro e1 w1 ⟨rfl, d1, S2a, hd1⟩
              have S2 := hide S2a
              have HS2 : Hid (d1.size = d0.size) := hide (sz_of hd1 (by simp; have := HLen2.out; omega))
              have HD2 : Hid (d1.toList = A ++ (X1 ++ (Y1 ++ (X2 ++ (Y2 ++ B))))) := hide (by rw [hd1]; simp)
              clear S2a hd1 HDr
              have HD3 : Hid (d1.toList = A ++ (merge (ltOf cf) X1 Y1 ++ (X2 ++ (Y2 ++ B)))) := hide (by rw [HD2.out, Z1.out]; simp [merge_nil_left, merge_nil_right])
              have HD4 : Hid (d1.toList = A ++ (merge (ltOf cf) X1 Y1 ++ (merge (ltOf cf) X2 Y2 ++ B))) := hide (by rw [HD3.out, Z4.out]; simp [merge_nil_left, merge_nil_right])
              go_wp2
              go_end0
              exact ⟨rfl, d1, S2.out, by rw [HD4.out, HMerge.out]; simp⟩
            · have u2 : m < e := by omega
              have t1i : decide ((r : Int) < (m : Int)) = true := by exact decide_eq_true (by omega)
              have t1n : decide (r < m) = true := by exact decide_eq_true (by omega)
              have t2i : decide ((m : Int) < (e : Int)) = true := by exact decide_eq_true (by omega)
              have t2n : decide (m < e) = true := by exact decide_eq_true (by omega)
              have t3i : decide ((a : Int) < (r : Int)) = false := by exact decide_eq_false (by omega)
              have t3n : decide (a < r) = false := by exact decide_eq_false (by omega)
              have t4i : decide ((r : Int) < (mid : Int)) = true := by exact decide_eq_true (by omega)
              have t4n : decide (r < mid) = true := by exact decide_eq_true (by omega)
              have t5i : decide ((mid : Int) < (e : Int)) = true := by exact decide_eq_true (by omega)
              have t5n : decide (mid < e) = true := by exact decide_eq_true (by omega)
              have t6i : decide ((e : Int) < (b : Int)) = true := by exact decide_eq_true (by omega)
              have t6n : decide (e < b) = true := by exact decide_eq_true (by omega)
              have z1 : X1 = [] := List.eq_nil_of_length_eq_zero (by have := L1.out; omega)
              have Z1 := hide z1
              clear z1
              go_wp2_with fail
              refine (rotate_call (enc := enc) L (.func (.func g) #[] cb) blk off cap r m e d0 d w0 wr R HS.out S1.out (A ++ X1) X2 Y1 (Y2 ++ B) HDr.out (by rw [List.length_append, ← HA.out]; exact L1.out) L3.out L4.out (by omega) (by omega) (by omega)).mono ?_
              rintro e1 w1 ⟨rfl, d1, S2a, hd1⟩
              have S2 := hide S2a
              have HS2 : Hid (d1.size = d0.size) := hide (sz_of hd1 (by simp; have := HLen2.out; omega))
              have HD2 : Hid (d1.toList = A ++ (X1 ++ (Y1 ++ (X2 ++ (Y2 ++ B))))) := hide (by rw [hd1]; simp)
              clear S2a hd1 HDr
              go_wp2_with fail
              have HD3 : Hid (d1.toList = A ++ (merge (ltOf cf) X1 Y1 ++ (X2 ++ (Y2 ++ B)))) := hide (by rw [HD2.out, Z1.out]; simp [merge_nil_left, merge_nil_right])
              refine ((IH.out mid e b (by omega)) d1 w1 (A ++ merge (ltOf cf) X1 Y1) X2 Y2 B HS2.out S2.out (by rw [HD3.out]; simp) s2.out s4.out (by rw [List.length_append, length_merge, ← HA.out]; have := L1.out; have := L2.out; omega) L6.out L5.out (by omega) (by omega)).mono ?_
              rintro e3 w3 ⟨rfl, d3, S4a, hd3⟩
              have S4 := hide S4a
              have HD4 : Hid (d3.toList = A ++ (merge (ltOf cf) X1 Y1 ++ (merge (ltOf cf) X2 Y2 ++ B))) := hide (by rw [hd3]; simp)
              clear S4a hd3
              go_wp2
              go_end0
              exact ⟨rfl, d3, S4.out, by rw [HD4.out, HMerge.out]; simp⟩
        · rcases Nat.eq_zero_or_pos (m - r) with q | q
          · have p2 : a < r := by omega
            rcases Nat.eq_zero_or_pos (e - m) with u | u
            · have v : e < b := by omega
              have t1i : decide ((r : Int) < (m : Int)) = false := by exact decide_eq_false (by omega)
              have t1n : decide (r < m) = false := by exact decide_eq_false (by omega)
              have t2i : decide ((m : Int) < (e : Int)) = false := by exact decide_eq_false (by omega)
              have t2n : decide (m < e) = false := by exact decide_eq_false (by omega)
              have t3i : decide ((a : Int) < (r : Int)) = true := by exact decide_eq_true (by omega)
              have t3n : decide (a < r) = true := by exact decide_eq_true (by omega)
              have t4i : decide ((r : Int) < (mid : Int)) = false := by exact decide_eq_false (by omega)
              have t4n : decide (r < mid) = false := by exact decide_eq_false (by omega)
              have t5i : decide ((mid : Int) < (e : Int)) = false := by exact decide_eq_false (by omega)
              have t5n : decide (mid < e) = false := by exact decide_eq_false (by omega)
              have t6i : decide ((e : Int) < (b : Int)) = true := by exact decide_eq_true (by omega)
              have t6n : decide (e < b) = true := by exact decide_eq_true (by omega)
              have z2 : X2 = [] := List.eq_nil_of_length_eq_zero (by have := L3.out; omega)
              have Z2 := hide z2
              clear z2
              have z3 : Y1 = [] := List.eq_nil_of_length_eq_zero (by have := L4.out; omega)
              have Z3 := hide z3
              clear z3
              go_wp2_with fail
              have HD2 : Hid (d.toList = A ++ (X1 ++ (Y1 ++ (X2 ++ (Y2 ++ B))))) := hide (by rw [HDr.out, Z2.out]; simp)
              have HD3 : Hid (d.toList = A ++ (merge (ltOf cf) X1 Y1 ++ (X2 ++ (Y2 ++ B)))) := hide (by rw [HD2.out, Z3.out]; simp [merge_nil_left, merge_nil_right])
              have HD4 : Hid (d.toList = A ++ (merge (ltOf cf) X1 Y1 ++ (merge (ltOf cf) X2 Y2 ++ B))) := hide (by rw [HD3.out, Z2.out]; simp [merge_nil_left, merge_nil_right])
              go_wp2
              go_end0
              exact ⟨rfl, d, S1.out, by rw [HD4.out, HMerge.out]; simp⟩
            · rcases Nat.eq_zero_or_pos (b - e) with v | v
              · have u2 : m < e := by omega
                have t1i : decide ((r : Int) < (m : Int)) = false := by exact decide_eq_false (by omega)
                have t1n : decide (r < m) = false := by exact decide_eq_false (by omega)
                have t2i : decide ((m : Int) < (e : Int)) = true := by exact decide_eq_true (by omega)
                have t2n : decide (m < e) = true := by exact decide_eq_true (by omega)
                have t3i : decide ((a : Int) < (r : Int)) = true := by exact decide_eq_true (by omega)
                have t3n : decide (a < r) = true := by exact decide_eq_true (by omega)
                have t4i : decide ((r : Int) < (mid : Int)) = true := by exact decide_eq_true (by omega)
                have t4n : decide (r < mid) = true := by exact decide_eq_true (by omega)
                have t5i : decide ((mid : Int) < (e : Int)) = false := by exact decide_eq_false (by omega)
                have t5n : decide (mid < e) = false := by exact decide_eq_false (by omega)
                have t6i : decide ((e : Int) < (b : Int)) = false := by exact decide_eq_false (by omega)
                have t6n : decide (e < b) = false := by exact decide_eq_false (by omega)
                have z2 : X2 = [] := List.eq_nil_of_length_eq_zero (by have := L3.out; omega)
                have Z2 := hide z2
                clear z2
                have z4 : Y2 = [] := List.eq_nil_of_length_eq_zero (by have := L5.out; omega)
                have Z4 := hide z4
                clear z4
                go_wp2_with fail
                have HD2 : Hid (d.toList = A ++ (X1 ++ (Y1 ++ (X2 ++ (Y2 ++ B))))) := hide (by rw [HDr.out, Z2.out]; simp)
                refine ((IH.out a r mid (by omega)) d wr A X1 Y1 (X2 ++ (Y2 ++ B)) HS.out S1.out HD2.out s1.out s3.out HA.out L1.out L2.out (by omega) (by omega)).mono ?_
                rintro e2 w2 ⟨rfl, d2, S3a, hd2⟩
                have S3 := hide S3a
                have HS3 : Hid (d2.size = d0.size) := hide (sz_of hd2 (by simp [length_merge]; have := HLen2.out; omega))
                have HD3 := hide hd2
                clear S3a hd2
                have HD4 : Hid (d2.toList = A ++ (merge (ltOf cf) X1 Y1 ++ (merge (ltOf cf) X2 Y2 ++ B))) := hide (by rw [HD3.out, Z2.out]; simp [merge_nil_left, merge_nil_right])
                go_wp2
                go_end0
                exact ⟨rfl, d2, S3.out, by rw [HD4.out, HMerge.out]; simp⟩
              · have u2 : m < e := by omega
                have t1i : decide ((r : Int) < (m : Int)) = false := by exact decide_eq_false (by omega)
                have t1n : decide (r < m) = false := by exact decide_eq_false (by omega)
                have t2i : decide ((m : Int) < (e : Int)) = true := by exact decide_eq_true (by omega)
                have t2n : decide (m < e) = true := by exact decide_eq_true (by omega)
                have t3i : decide ((a : Int) < (r : Int)) = true := by exact decide_eq_true (by omega)
                have t3n : decide (a < r) = true := by exact decide_eq_true (by omega)
                have t4i : decide ((r : Int) < (mid : Int)) = true := by exact decide_eq_true (by omega)
                have t4n : decide (r < mid) = true := by exact decide_eq_true (by omega)
                have t5i : decide ((mid : Int) < (e : Int)) = false := by exact decide_eq_false (by omega)
                have t5n : decide (mid < e) = false := by exact decide_eq_false (by omega)
                have t6i : decide ((e : Int) < (b : Int)) = true := by exact decide_eq_true (by omega)
                have t6n : decide (e < b) = true := by exact decide_eq_true (by omega)
                have z2 : X2 = [] := List.eq_nil_of_length_eq_zero (by have := L3.out; omega)
                have Z2 := hide z2
                clear z2
                go_wp2_with fail
                have HD2 : Hid (d.toList = A ++ (X1 ++ (Y1 ++ (X2 ++ (Y2 ++ B))))) := hide (by rw [HDr.out, Z2.out]; simp)
                refine ((IH.out a r mid (by omega)) d wr A X1 Y1 (X2 ++ (Y2 ++ B)) HS.out S1.out HD2.out s1.out s3.out HA.out L1.out L2.out (by omega) (by omega)).mono ?_
                rintro e2 w2 ⟨rfl, d2, S3a, hd2⟩
                have S3 := hide S3a
                have HS3 : Hid (d2.size = d0.size) := hide (sz_of hd2 (by simp [length_merge]; have := HLen2.out; omega))
                have HD3 := hide hd2
                clear S3a hd2
                have HD4 : Hid (d2.toList = A ++ (merge (ltOf cf) X1 Y1 ++ (merge (ltOf cf) X2 Y2 ++ B))) := hide (by rw [HD3.out, Z2.out]; simp [merge_nil_left, merge_nil_right])
                go_wp2
                go_end0
                exact ⟨rfl, d2, S3.out, by rw [HD4.out, HMerge.out]; simp⟩
          · have p2 : a < r := by omega
            have q2 : r < m := by omega
            rcases Nat.eq_zero_or_pos (e - m) with u | u
            · have v : e < b := by omega
              have t1i : decide ((r : Int) < (m : Int)) = true := by exact decide_eq_true (by omega)
              have t1n : decide (r < m) = true := by exact decide_eq_true (by omega)
              have t2i : decide ((m : Int) < (e : Int)) = false := by exact decide_eq_false (by omega)
              have t2n : decide (m < e) = false := by exact decide_eq_false (by omega)
              have t3i : decide ((a : Int) < (r : Int)) = true := by exact decide_eq_true (by omega)
              have t3n : decide (a < r) = true := by exact decide_eq_true (by omega)
              have t4i : decide ((r : Int) < (mid : Int)) = false := by exact decide_eq_false (by omega)
              have t4n : decide (r < mid) = false := by exact decide_eq_false (by omega)
              have t5i : decide ((mid : Int) < (e : Int)) = true := by exact decide_eq_true (by omega)
              have t5n : decide (mid < e) = true := by exact decide_eq_true (by omega)
              have t6i : decide ((e : Int) < (b : Int)) = true := by exact decide_eq_true (by omega)
              have t6n : decide (e < b) = true := by exact decide_eq_true (by omega)
              have z3 : Y1 = [] := List.eq_nil_of_length_eq_zero (by have := L4.out; omega)
              have Z3 := hide z3
              clear z3
              go_wp2_with fail
              have HD2 : Hid (d.toList = A ++ (X1 ++ (Y1 ++ (X2 ++ (Y2 ++ B))))) := hide (by rw [HDr.out, Z3.out]; simp)
              have HD3 : Hid (d.toList = A ++ (merge (ltOf cf) X1 Y1 ++ (X2 ++ (Y2 ++ B)))) := hide (by rw [HD2.out, Z3.out]; simp [merge_nil_left, merge_nil_right])
              refine ((IH.out mid e b (by omega)) d wr (A ++ merge (ltOf cf) X1 Y1) X2 Y2 B HS.out S1.out (by rw [HD3.out]; simp) s2.out s4.out (by rw [List.length_append, length_merge, ← HA.out]; have := L1.out; have := L2.out; omega) L6.out L5.out (by omega) (by omega)).mono ?_
              rintro e3 w3 ⟨rfl, d3, S4a, hd3⟩
              have S4 := hide S4a
              have HD4 : Hid (d3.toList = A ++ (merge (ltOf cf) X1 Y1 ++ (merge (ltOf cf) X2 Y2 ++ B))) := hide (by rw [hd3]; simp)
              clear S4a hd3
              go_wp2
              go_end0
              exact ⟨rfl, d3, S4.out, by rw [HD4.out, HMerge.out]; simp⟩
            · rcases Nat.eq_zero_or_pos (b - e) with v | v
              · have u2 : m < e := by omega
                have t1i : decide ((r : Int) < (m : Int)) = true := by exact decide_eq_true (by omega)
                have t1n : decide (r < m) = true := by exact decide_eq_true (by omega)
                have t2i : decide ((m : Int) < (e : Int)) = true := by exact decide_eq_true (by omega)
                have t2n : decide (m < e) = true := by exact decide_eq_true (by omega)
                have t3i : decide ((a : Int) < (r : Int)) = true := by exact decide_eq_true (by omega)
                have t3n : decide (a < r) = true := by exact decide_eq_true (by omega)
                have t4i : decide ((r : Int) < (mid : Int)) = true := by exact decide_eq_true (by omega)
                have t4n : decide (r < mid) = true := by exact decide_eq_true (by omega)
                have t5i : decide ((mid : Int) < (e : Int)) = true := by exact decide_eq_true (by omega)
                have t5n : decide (mid < e) = true := by exact decide_eq_true (by omega)
                have t6i : decide ((e : Int) < (b : Int)) = false := by exact decide_eq_false (by omega)
                have t6n : decide (e < b) = false := by exact decide_eq_false (by omega)
                have z4 : Y2 = [] := List.eq_nil_of_length_eq_zero (by have := L5.out; omega)
                have Z4 := hide z4
                clear z4
                go_wp2_with fail
                refine (rotate_call (enc := enc) L (.func (.func g) #[] cb) blk off cap r m e d0 d w0 wr R HS.out S1.out (A ++ X1) X2 Y1 (Y2 ++ B) HDr.out (by rw [List.length_append, ← HA.out]; exact L1.out) L3.out L4.out (by omega) (by omega) (by omega)).mono ?_
                rintro e1 w1 ⟨rfl, d1, S2a, hd1⟩
                have S2 := hide S2a
                have HS2 : Hid (d1.size = d0.size) := hide (sz_of hd1 (by simp; have := HLen2.out; omega))
                have HD2 : Hid (d1.toList = A ++ (X1 ++ (Y1 ++ (X2 ++ (Y2 ++ B))))) := hide (by rw [hd1]; simp)
                clear S2a hd1 HDr
                go_wp2_with fail
                refine ((IH.out a r mid (by omega)) d1 w1 A X1 Y1 (X2 ++ (Y2 ++ B)) HS2.out S2.out HD2.out s1.out s3.out HA.out L1.out L2.out (by omega) (by omega)).mono ?_
                rintro e2 w2 ⟨rfl, d2, S3a, hd2⟩
                have S3 := hide S3a
                have HS3 : Hid (d2.size = d0.size) := hide (sz_of hd2 (by simp [length_merge]; have := HLen2.out; omega))
                have HD3 := hide hd2
                clear S3a hd2
                have HD4 : Hid (d2.toList = A ++ (merge (ltOf cf) X1 Y1 ++ (merge (ltOf cf) X2 Y2 ++ B))) := hide (by rw [HD3.out, Z4.out]; simp [merge_nil_left, merge_nil_right])
                go_wp2
                go_end0
                exact ⟨rfl, d2, S3.out, by rw [HD4.out, HMerge.out]; simp⟩
              · have u2 : m < e := by omega
                have t1i : decide ((r : Int) < (m : Int)) = true := by exact decide_eq_true (by omega)
                have t1n : decide (r < m) = true := by exact decide_eq_true (by omega)
                have t2i : decide ((m : Int) < (e : Int)) = true := by exact decide_eq_true (by omega)
                have t2n : decide (m < e) = true := by exact decide_eq_true (by omega)
                have t3i : decide ((a : Int) < (r : Int)) = true := by exact decide_eq_true (by omega)
                have t3n : decide (a < r) = true := by exact decide_eq_true (by omega)
                have t4i : decide ((r : Int) < (mid : Int)) = true := by exact decide_eq_true (by omega)
                have t4n : decide (r < mid) = true := by exact decide_eq_true (by omega)
                have t5i : decide ((mid : Int) < (e : Int)) = true := by exact decide_eq_true (by omega)
                have t5n : decide (mid < e) = true := by exact decide_eq_true (by omega)
                have t6i : decide ((e : Int) < (b : Int)) = true := by exact decide_eq_true (by omega)
                have t6n : decide (e < b) = true := by exact decide_eq_true (by omega)
                go_wp2_with fail
                refine (rotate_call (enc := enc) L (.func (.func g) #[] cb) blk off cap r m e d0 d w0 wr R HS.out S1.out (A ++ X1) X2 Y1 (Y2 ++ B) HDr.out (by rw [List.length_append, ← HA.out]; exact L1.out) L3.out L4.out (by omega) (by omega) (by omega)).mono ?_
                rintro e1 w1 ⟨rfl, d1, S2a, hd1⟩
                have S2 := hide S2a
                have HS2 : Hid (d1.size = d0.size) := hide (sz_of hd1 (by simp; have := HLen2.out; omega))
                have HD2 : Hid (d1.toList = A ++ (X1 ++ (Y1 ++ (X2 ++ (Y2 ++ B))))) := hide (by rw [hd1]; simp)
                clear S2a hd1 HDr
                go_wp2_with fail
                refine ((IH.out a r mid (by omega)) d1 w1 A X1 Y1 (X2 ++ (Y2 ++ B)) HS2.out S2.out HD2.out s1.out s3.out HA.out L1.out L2.out (by omega) (by omega)).mono ?_
                rintro e2 w2 ⟨rfl, d2, S3a, hd2⟩
                have S3 := hide S3a
                have HS3 : Hid (d2.size = d0.size) := hide (sz_of hd2 (by simp [length_merge]; have := HLen2.out; omega))
                have HD3 := hide hd2
                clear S3a hd2
                go_wp2_with fail
                refine ((IH.out mid e b (by omega)) d2 w2 (A ++ merge (ltOf cf) X1 Y1) X2 Y2 B HS3.out S3.out (by rw [HD3.out]; simp) s2.out s4.out (by rw [List.length_append, length_merge, ← HA.out]; have := L1.out; have := L2.out; omega) L6.out L5.out (by omega) (by omega)).mono ?_
                rintro e3 w3 ⟨rfl, d3, S4a, hd3⟩
                have S4 := hide S4a
                have HD4 : Hid (d3.toList = A ++ (merge (ltOf cf) X1 Y1 ++ (merge (ltOf cf) X2 Y2 ++ B))) := hide (by rw [hd3]; simp)
                clear S4a hd3
                go_wp2
                go_end0
                exact ⟨rfl, d3, S4.out, by rw [HD4.out, HMerge.out]; simp⟩
  · have c3 : ¬ ((a : Int) + (b : Int)) / 2 < (m : Int) := by have := E1.out; omega
    go_wp2
    rw [E1.out, E2.out]
    clear E1 E2
    go_loopg [20, 21] (hi - lo) (fun kx s20 s21 wr => ∃ (s r : Nat), s20 = .int .i64 s ∧ s21 = .int .i64 r ∧ lo ≤ s ∧ s ≤ r ∧ r ≤ hi ∧ r - s ≤ kx ∧ Hid (SWK enc k w0 blk off d wr) ∧ Hid ((s = lo ∨ ltOf cf d[n - 1 - (s - 1)]! d[s - 1]! = false) ∧ (r = hi ∨ ltOf cf d[n - 1 - r]! d[r]! = true)))
    case atStart => exact ⟨lo, hi, by first | rfl | rw [c2.out.1], by first | rfl | rw [c2.out.2], Nat.le_refl _, lohi, Nat.le_refl _, Nat.le_refl _, S0, hide ⟨.inl rfl, .inl rfl⟩⟩
    case round =>
      clear S0 c2 c3
      obtain ⟨s, r, rfl, rfl, hls, hsr, hrh, hkx, S1, HP⟩ := hrel
      by_cases hlt : s < r
      · obtain ⟨c, hh⟩ : ∃ c, (s + r) / 2 = c := ⟨_, rfl⟩
        have e0 : ((s : Int) + (r : Int)) / 2 = (c : Int) := by omega
        have E0 := hide e0
        have h1 : s ≤ c := by omega
        have h2 : c < r := by omega
        clear e0 hh
        have hltz : (s : Int) < (r : Int) := by omega
        go_wp2_with fail
        rw [E0.out]
        obtain ⟨q, hq⟩ : ∃ q, n - 1 - c = q := ⟨_, rfl⟩
        have ea : ((q : Int)).toNat = q := by omega
        have pa : (0 : Int) ≤ (q : Int) := by omega
        have ba : (q : Int) < (d0.size : Int) := by omega
        have ra : IntKind.i64.wrap ((n : Int) - 1 - (c : Int)) = (q : Int) := by rw [IntKind.wrap_i64]; omega
        have ec : ((c : Int)).toNat = c := by omega
        have pc : (0 : Int) ≤ (c : Int) := by omega
        have bc : (c : Int) < (d0.size : Int) := by omega
        have rc : IntKind.i64.wrap ((c : Int)) = (c : Int) := by rw [IntKind.wrap_i64]; omega
        have l1 := S1.out.ld R HS.out P q (by have := HS.out; omega)
        have l2 := S1.out.ld R HS.out P c (by have := HS.out; omega)
        have HQ := hide hq
        clear hq
        obtain ⟨xq, hxq⟩ : ∃ x, d[q]! = x := ⟨_, rfl⟩
        obtain ⟨xc, hxc⟩ : ∃ x, d[c]! = x := ⟨_, rfl⟩
        rw [hxq] at l1
        rw [hxc] at l2
        have hc := S1.out.cmp HC.out HS.out xq xc
        have HX := hide (And.intro hxq hxc)
        clear hxq hxc
        by_cases hv : cf xq xc < 0
        · have hvd : decide (cf xq xc < 0) = true := decide_eq_true hv
          go_quiet_grown (first | (go_at_fn g; refine Calls.grown_of (hc _ _)))
          have S2 := hide (S1.out.grown nq osq)
          clear l1 l2 hc S1
          generalize grow (wr.drewN nq) osq = w2 at S2 ⊢
          go_wp2
          go_roundg (c - s)
          case measure => omega
          case rel => exact ⟨s, c, rfl, rfl, hls, h1, by omega, Nat.le_refl _, S2, hide ⟨HP.out.1, .inr (by rw [HQ.out, HX.out.1, HX.out.2]; exact hvd)⟩⟩
        · have hvd : decide (cf xq xc < 0) = false := decide_eq_false hv
          go_quiet_grown (first | (go_at_fn g; refine Calls.grown_of (hc _ _)))
          have S2 := hide (S1.out.grown nq osq)
          clear l1 l2 hc S1
          generalize grow (wr.drewN nq) osq = w2 at S2 ⊢
          go_wp2
          go_roundg (r - (c + 1))
          case measure => omega
          case rel => exact ⟨c + 1, r, by go_num, rfl, by omega, by omega, hrh, Nat.le_refl _, S2, hide ⟨.inr (by rw [Nat.add_sub_cancel, HQ.out, HX.out.1, HX.out.2]; exact hvd), HP.out.2⟩⟩
      · have hin : r = s := by omega
        subst hin
        obtain ⟨X1, X2, Y1, Y2, q1, q2, q3, q4, q5, q6, q7, q8, q9, q10, s1', s2', s3', s4'⟩ := sym_split W HD.out hX hY HA.out HM.out HB.out HMid.out HN.out HLH.out hls hrh HP.out.1 HP.out.2
        obtain ⟨e, he⟩ : ∃ e, n - r = e := ⟨_, rfl⟩
        have e0 : (n : Int) - (r : Int) = (e : Int) := by omega
        rw [he] at q4 q7 q8
        have L1 : Hid (r = a + X1.length) := hide q3.symm
        have L4 : Hid (e = m + Y1.length) := hide q4.symm
        have lX : X.length = X1.length + X2.length := by rw [q1, List.length_append]
        have lY : Y.length = Y1.length + Y2.length := by rw [q2, List.length_append]
        have L2 : Hid (mid = r + Y1.length) := hide (by have := HN.out; omega)
        have L3 : Hid (m = r + X2.length) := hide (by have := HM.out; omega)
        have L5 : Hid (b = e + Y2.length) := hide (by have := HB.out; omega)
        have L6 : Hid (e = mid + X2.length) := hide (by have := L2.out; have := L3.out; omega)
        have HDr : Hid (d.toList = (A ++ X1) ++ (X2 ++ (Y1 ++ (Y2 ++ B)))) := hide (by rw [HD.out, q1, q2]; simp)
        have HMerge : Hid (merge (ltOf cf) X Y = merge (ltOf cf) X1 Y1 ++ merge (ltOf cf) X2 Y2) := hide q10
        have HLen2 : Hid (A.length + (X1.length + (Y1.length + (X2.length + (Y2.length + B.length)))) = d0.size) := hide (by have := HLen.out; omega)
        have s1 := hide s1'
        have s2 := hide s2'
        have s3 := hide s3'
        have s4 := hide s4'
        have w1 : e ≤ b := q8
        have w2 : e + r ≤ m + mid := by have := HN.out; omega
        have w3 : m + mid ≤ e + r := by have := HN.out; omega
        clear q1 q2 q3 q4 q10 s1' s2' s3' s4' lX lY he HP
        rcases Nat.eq_zero_or_pos (r - a) with p | p
        · have q : r < m := by omega
          rcases Nat.eq_zero_or_pos (e - m) with u | u
          · have v : e < b := by omega
            have t1i : decide ((r : Int) < (m : Int)) = true := by exact decide_eq_true (by omega)
            have t1n : decide (r < m) = true := by exact decide_eq_true (by omega)
            have t2i : decide ((m : Int) < (e : Int)) = false := by exact decide_eq_false (by omega)
            have t2n : decide (m < e) = false := by exact decide_eq_false (by omega)
            have t3i : decide ((a : Int) < (r : Int)) = false := by exact decide_eq_false (by omega)
            have t3n : decide (a < r) = false := by exact decide_eq_false (by omega)
            have t4i : decide ((r : Int) < (mid : Int)) = false := by exact decide_eq_false (by omega)
            have t4n : decide (r < mid) = false := by exact decide_eq_false (by omega)
            have t5i : decide ((mid : Int) < (e : Int)) = true := by exact decide_eq_true (by omega)
            have t5n : decide (mid < e) = true := by exact decide_eq_true (by omega)
            have t6i : decide ((e : Int) < (b : Int)) = true := by exact decide_eq_true (by omega)
            have t6n : decide (e < b) = true := by exact decide_eq_true (by omega)
            have z1 : X1 = [] := List.eq_nil_of_length_eq_zero (by have := L1.out; omega)
            have Z1 := hide z1
            clear z1
            have z3 : Y1 = [] := List.eq_nil_of_length_eq_zero (by have := L4.out; omega)
            have Z3 := hide z3
            clear z3
            go_wp2_with fail
            have HD2 : Hid (d.toList = A ++ (X1 ++ (Y1 ++ (X2 ++ (Y2 ++ B))))) := hide (by rw [HDr.out, Z3.out]; simp)
            have HD3 : Hid (d.toList = A ++ (merge (ltOf cf) X1 Y1 ++ (X2 ++ (Y2 ++ B)))) := hide (by rw [HD2.out, Z1.out]; simp [merge_nil_left, merge_nil_right])
            refine ((IH.out mid e b (by omega)) d wr (A ++ merge (ltOf cf) X1 Y1) X2 Y2 B HS.out S1.out (by rw [HD3.out]; simp) s2.out s4.out (by rw [List.length_append, length_merge, ← HA.out]; have := L1.out; have := L2.out; omega) L6.out L5.out (by omega) (by omega)).mono ?_
            rintro e3 w3 ⟨rfl, d3, S4a, hd3⟩
            have S4 := hide S4a
            have HD4 : Hid (d3.toList = A ++ (merge (ltOf cf) X1 Y1 ++ (merge (ltOf cf) X2 Y2 ++ B))) := hide (by rw [hd3]; simp)
            clear S4a hd3
            go_wp2
            go_end0
            exact ⟨rfl, d3, S4.out, by rw [HD4.out, HMerge.out]; simp⟩
          · rcases Nat.eq_zero_or_pos (b - e) with v | v
            · have u2 : m < e := by omega
              have t1i : decide ((r : Int) < (m : Int)) = true := by exact decide_eq_true (by omega)
              have t1n : decide (r < m) = true := by exact decide_eq_true (by omega)
              have t2i : decide ((m : Int) < (e : Int)) = true := by exact decide_eq_true (by omega)
              have t2n : decide (m < e) = true := by exact decide_eq_true (by omega)
              have t3i : decide ((a : Int) < (r : Int)) = false := by exact decide_eq_false (by omega)
              have t3n : decide (a < r) = false := by exact decide_eq_false (by omega)
              have t4i : decide ((r : Int) < (mid : Int)) = true := by exact decide_eq_true (by omega)
              have t4n : decide (r < mid) = true := by exact decide_eq_true (by omega)
              have t5i : decide ((mid : Int) < (e : Int)) = true := by exact decide_eq_true (by omega)
              have t5n : decide (mid < e) = true := by exact decide_eq_true (by omega)
              have t6i : decide ((e : Int) < (b : Int)) = false := by exact decide_eq_false (by omega)
              have t6n : decide (e < b) = false := by exact decide_eq_false (by omega)
              have z1 : X1 = [] := List.eq_nil_of_length_eq_zero (by have := L1.out; omega)
              have Z1 := hide z1
              clear z1
              have z4 : Y2 = [] := List.eq_nil_of_length_eq_zero (by have := L5.out; omega)
              have Z4 := hide z4
              clear z4
              go_wp2_with fail
              refine (rotate_call (enc := enc) L (.func (.func g) #[] cb) blk off cap r m e d0 d w0 wr R HS.out S1.out (A ++ X1) X2 Y1 (Y2 ++ B) HDr.out (by rw [List.length_append, ← HA.out]; exact L1.out) L3.out L4.out (by omega) (by omega) (by omega)).mono ?_
              rintro e1 w1 ⟨rfl, d1, S2a, hd1⟩
              have S2 := hide S2a
              have HS2 : Hid (d1.size = d0.size) := hide (sz_of hd1 (by simp; have := HLen2.out; omega))
              have HD2 : Hid (d1.toList = A ++ (X1 ++ (Y1 ++ (X2 ++ (Y2 ++ B))))) := hide (by rw [hd1]; simp)
              clear S2a hd1 HDr
              have HD3 : Hid (d1.toList = A ++ (merge (ltOf cf) X1 Y1 ++ (X2 ++ (Y2 ++ B)))) := hide (by rw [HD2.out, Z1.out]; simp [merge_nil_left, merge_nil_right])
              have HD4 : Hid (d1.toList = A ++ (merge (ltOf cf) X1 Y1 ++ (merge (ltOf cf) X2 Y2 ++ B))) := hide (by rw [HD3.out, Z4.out]; simp [merge_nil_left, merge_nil_right])
              go_wp2
              go_end0
              exact ⟨rfl, d1, S2.out, by rw [HD4.out, HMerge.out]; simp⟩
            · have u2 : m < e := by omega
              have t1i : decide ((r : Int) < (m : Int)) = true := by exact decide_eq_true (by omega)
              have t1n : decide (r < m) = true := by exact decide_eq_true (by omega)
              have t2i : decide ((m : Int) < (e : Int)) = true := by exact decide_eq_true (by omega)
              have t2n : decide (m < e) = true := by exact decide_eq_true (by omega)
              have t3i : decide ((a : Int) < (r : Int)) = false := by exact decide_eq_false (by omega)
              have t3n : decide (a < r) = false := by exact decide_eq_false (by omega)
              have t4i : decide ((r : Int) < (mid : Int)) = true := by exact decide_eq_true (by omega)
              have t4n : decide (r < mid) = true := by exact decide_eq_true (by omega)
              have t5i : decide ((mid : Int) < (e : Int)) = true := by exact decide_eq_true (by omega)
              have t5n : decide (mid < e) = true := by exact decide_eq_true (by omega)
              have t6i : decide ((e : Int) < (b : Int)) = true := by exact decide_eq_true (by omega)
              have t6n : decide (e < b) = true := by exact decide_eq_true (by omega)
              have z1 : X1 = [] := List.eq_nil_of_length_eq_zero (by have := L1.out; omega)
              have Z1 := hide z1
              clear z1
              go_wp2_with fail
              refine (rotate_call (enc := enc) L (.func (.func g) #[] cb) blk off cap r m e d0 d w0 wr R HS.out S1.out (A ++ X1) X2 Y1 (Y2 ++ B) HDr.out (by rw [List.length_append, ← HA.out]; exact L1.out) L3.out L4.out (by omega) (by omega) (by omega)).mono ?_
              rintro e1 w1 ⟨rfl, d1, S2a, hd1⟩
              have S2 := hide S2a
              have HS2 : Hid (d1.size = d0.size) := hide (sz_of hd1 (by simp; have := HLen2.out; omega))
              have HD2 : Hid (d1.toList = A ++ (X1 ++ (Y1 ++ (X2 ++ (Y2 ++ B))))) := hide (by rw [hd1]; simp)
              clear S2a hd1 HDr
              go_wp2_with fail
              have HD3 : Hid (d1.toList = A ++ (merge (ltOf cf) X1 Y1 ++ (X2 ++ (Y2 ++ B)))) := hide (by rw [HD2.out, Z1.out]; simp [merge_nil_left, merge_nil_right])
              refine ((IH.out mid e b (by omega)) d1 w1 (A ++ merge (ltOf cf) X1 Y1) X2 Y2 B HS2.out S2.out (by rw [HD3.out]; simp) s2.out s4.out (by rw [List.length_append, length_merge, ← HA.out]; have := L1.out; have := L2.out; omega) L6.out L5.out (by omega) (by omega)).mono ?_
              rintro e3 w3 ⟨rfl, d3, S4a, hd3⟩
              have S4 := hide S4a
              have HD4 : Hid (d3.toList = A ++ (merge (ltOf cf) X1 Y1 ++ (merge (ltOf cf) X2 Y2 ++ B))) := hide (by rw [hd3]; simp)
              clear S4a hd3
              go_wp2
              go_end0
              exact ⟨rfl, d3, S4.out, by rw [HD4.out, HMerge.out]; simp⟩
        · rcases Nat.eq_zero_or_pos (m - r) with q | q
          · have p2 : a < r := by omega
            rcases Nat.eq_zero_or_pos (e - m) with u | u
            · have v : e < b := by omega
              have t1i : decide ((r : Int) < (m : Int)) = false := by exact decide_eq_false (by omega)
              have t1n : decide (r < m) = false := by exact decide_eq_false (by omega)
              have t2i : decide ((m : Int) < (e : Int)) = false := by exact decide_eq_false (by omega)
              have t2n : decide (m < e) = false := by exact decide_eq_false (by omega)
              have t3i : decide ((a : Int) < (r : Int)) = true := by exact decide_eq_true (by omega)
              have t3n : decide (a < r) = true := by exact decide_eq_true (by omega)
              have t4i : decide ((r : Int) < (mid : Int)) = false := by exact decide_eq_false (by omega)
              have t4n : decide (r < mid) = false := by exact decide_eq_false (by omega)
              have t5i : decide ((mid : Int) < (e : Int)) = false := by exact decide_eq_false (by omega)
              have t5n : decide (mid < e) = false := by exact decide_eq_false (by omega)
              have t6i : decide ((e : Int) < (b : Int)) = true := by exact decide_eq_true (by omega)
              have t6n : decide (e < b) = true := by exact decide_eq_true (by omega)
              have z2 : X2 = [] := List.eq_nil_of_length_eq_zero (by have := L3.out; omega)
              have Z2 := hide z2
              clear z2
              have z3 : Y1 = [] := List.eq_nil_of_length_eq_zero (by have := L4.out; omega)
              have Z3 := hide z3
              clear z3
              go_wp2_with fail
              have HD2 : Hid (d.toList = A ++ (X1 ++ (Y1 ++ (X2 ++ (Y2 ++ B))))) := hide (by rw [HDr.out, Z2.out]; simp)
              have HD3 : Hid (d.toList = A ++ (merge (ltOf cf) X1 Y1 ++ (X2 ++ (Y2 ++ B)))) := hide (by rw [HD2.out, Z3.out]; simp [merge_nil_left, merge_nil_right])
              have HD4 : Hid (d.toList = A ++ (merge (ltOf cf) X1 Y1 ++ (merge (ltOf cf) X2 Y2 ++ B))) := hide (by rw [HD3.out, Z2.out]; simp [merge_nil_left, merge_nil_right])
              go_wp2
              go_end0
              exact ⟨rfl, d, S1.out, by rw [HD4.out, HMerge.out]; simp⟩
            · rcases Nat.eq_zero_or_pos (b - e) with v | v
              · have u2 : m < e := by omega
                have t1i : decide ((r : Int) < (m : Int)) = false := by exact decide_eq_false (by omega)
                have t1n : decide (r < m) = false := by exact decide_eq_false (by omega)
                have t2i : decide ((m : Int) < (e : Int)) = true := by exact decide_eq_true (by omega)
                have t2n : decide (m < e) = true := by exact decide_eq_true (by omega)
                have t3i : decide ((a : Int) < (r : Int)) = true := by exact decide_eq_true (by omega)
                have t3n : decide (a < r) = true := by exact decide_eq_true (by omega)
                have t4i : decide ((r : Int) < (mid : Int)) = true := by exact decide_eq_true (by omega)
                have t4n : decide (r < mid) = true := by exact decide_eq_true (by omega)
                have t5i : decide ((mid : Int) < (e : Int)) = false := by exact decide_eq_false (by omega)
                have t5n : decide (mid < e) = false := by exact decide_eq_false (by omega)
                have t6i : decide ((e : Int) < (b : Int)) = false := by exact decide_eq_false (by omega)
                have t6n : decide (e < b) = false := by exact decide_eq_false (by omega)
                have z2 : X2 = [] := List.eq_nil_of_length_eq_zero (by have := L3.out; omega)
                have Z2 := hide z2
                clear z2
                have z4 : Y2 = [] := List.eq_nil_of_length_eq_zero (by have := L5.out; omega)
                have Z4 := hide z4
                clear z4
                go_wp2_with fail
                have HD2 : Hid (d.toList = A ++ (X1 ++ (Y1 ++ (X2 ++ (Y2 ++ B))))) := hide (by rw [HDr.out, Z2.out]; simp)
                refine ((IH.out a r mid (by omega)) d wr A X1 Y1 (X2 ++ (Y2 ++ B)) HS.out S1.out HD2.out s1.out s3.out HA.out L1.out L2.out (by omega) (by omega)).mono ?_
                rintro e2 w2 ⟨rfl, d2, S3a, hd2⟩
                have S3 := hide S3a
                have HS3 : Hid (d2.size = d0.size) := hide (sz_of hd2 (by simp [length_merge]; have := HLen2.out; omega))
                have HD3 := hide hd2
                clear S3a hd2
                have HD4 : Hid (d2.toList = A ++ (merge (ltOf cf) X1 Y1 ++ (merge (ltOf cf) X2 Y2 ++ B))) := hide (by rw [HD3.out, Z2.out]; simp [merge_nil_left, merge_nil_right])
                go_wp2
                go_end0
                exact ⟨rfl, d2, S3.out, by rw [HD4.out, HMerge.out]; simp⟩
              · have u2 : m < e := by omega
                have t1i : decide ((r : Int) < (m : Int)) = false := by exact decide_eq_false (by omega)
                have t1n : decide (r < m) = false := by exact decide_eq_false (by omega)
                have t2i : decide ((m : Int) < (e : Int)) = true := by exact decide_eq_true (by omega)
                have t2n : decide (m < e) = true := by exact decide_eq_true (by omega)
                have t3i : decide ((a : Int) < (r : Int)) = true := by exact decide_eq_true (by omega)
                have t3n : decide (a < r) = true := by exact decide_eq_true (by omega)
                have t4i : decide ((r : Int) < (mid : Int)) = true := by exact decide_eq_true (by omega)
                have t4n : decide (r < mid) = true := by exact decide_eq_true (by omega)
                have t5i : decide ((mid : Int) < (e : Int)) = false := by exact decide_eq_false (by omega)
                have t5n : decide (mid < e) = false := by exact decide_eq_false (by omega)
                have t6i : decide ((e : Int) < (b : Int)) = true := by exact decide_eq_true (by omega)
                have t6n : decide (e < b) = true := by exact decide_eq_true (by omega)
                have z2 : X2 = [] := List.eq_nil_of_length_eq_zero (by have := L3.out; omega)
                have Z2 := hide z2
                clear z2
                go_wp2_with fail
                have HD2 : Hid (d.toList = A ++ (X1 ++ (Y1 ++ (X2 ++ (Y2 ++ B))))) := hide (by rw [HDr.out, Z2.out]; simp)
                refine ((IH.out a r mid (by omega)) d wr A X1 Y1 (X2 ++ (Y2 ++ B)) HS.out S1.out HD2.out s1.out s3.out HA.out L1.out L2.out (by omega) (by omega)).mono ?_
                rintro e2 w2 ⟨rfl, d2, S3a, hd2⟩
                have S3 := hide S3a
                have HS3 : Hid (d2.size = d0.size) := hide (sz_of hd2 (by simp [length_merge]; have := HLen2.out; omega))
                have HD3 := hide hd2
                clear S3a hd2
                have HD4 : Hid (d2.toList = A ++ (merge (ltOf cf) X1 Y1 ++ (merge (ltOf cf) X2 Y2 ++ B))) := hide (by rw [HD3.out, Z2.out]; simp [merge_nil_left, merge_nil_right])
                go_wp2
                go_end0
                exact ⟨rfl, d2, S3.out, by rw [HD4.out, HMerge.out]; simp⟩
          · have p2 : a < r := by omega
            have q2 : r < m := by omega
            rcases Nat.eq_zero_or_pos (e - m) with u | u
            · have v : e < b := by omega
              have t1i : decide ((r : Int) < (m : Int)) = true := by exact decide_eq_true (by omega)
              have t1n : decide (r < m) = true := by exact decide_eq_true (by omega)
              have t2i : decide ((m : Int) < (e : Int)) = false := by exact decide_eq_false (by omega)
              have t2n : decide (m < e) = false := by exact decide_eq_false (by omega)
              have t3i : decide ((a : Int) < (r : Int)) = true := by exact decide_eq_true (by omega)
              have t3n : decide (a < r) = true := by exact decide_eq_true (by omega)
              have t4i : decide ((r : Int) < (mid : Int)) = false := by exact decide_eq_false (by omega)
              have t4n : decide (r < mid) = false := by exact decide_eq_false (by omega)
              have t5i : decide ((mid : Int) < (e : Int)) = true := by exact decide_eq_true (by omega)
              have t5n : decide (mid < e) = true := by exact decide_eq_true (by omega)
              have t6i : decide ((e : Int) < (b : Int)) = true := by exact decide_eq_true (by omega)
              have t6n : decide (e < b) = true := by exact decide_eq_true (by omega)
              have z3 : Y1 = [] := List.eq_nil_of_length_eq_zero (by have := L4.out; omega)
              have Z3 := hide z3
              clear z3
              go_wp2_with fail
              have HD2 : Hid (d.toList = A ++ (X1 ++ (Y1 ++ (X2 ++ (Y2 ++ B))))) := hide (by rw [HDr.out, Z3.out]; simp)
              have HD3 : Hid (d.toList = A ++ (merge (ltOf cf) X1 Y1 ++ (X2 ++ (Y2 ++ B)))) := hide (by rw [HD2.out, Z3.out]; simp [merge_nil_left, merge_nil_right])
              refine ((IH.out mid e b (by omega)) d wr (A ++ merge (ltOf cf) X1 Y1) X2 Y2 B HS.out S1.out (by rw [HD3.out]; simp) s2.out s4.out (by rw [List.length_append, length_merge, ← HA.out]; have := L1.out; have := L2.out; omega) L6.out L5.out (by omega) (by omega)).mono ?_
              rintro e3 w3 ⟨rfl, d3, S4a, hd3⟩
              have S4 := hide S4a
              have HD4 : Hid (d3.toList = A ++ (merge (ltOf cf) X1 Y1 ++ (merge (ltOf cf) X2 Y2 ++ B))) := hide (by rw [hd3]; simp)
              clear S4a hd3
              go_wp2
              go_end0
              exact ⟨rfl, d3, S4.out, by rw [HD4.out, HMerge.out]; simp⟩
            · rcases Nat.eq_zero_or_pos (b - e) with v | v
              · have u2 : m < e := by omega
                have t1i : decide ((r : Int) < (m : Int)) = true := by exact decide_eq_true (by omega)
                have t1n : decide (r < m) = true := by exact decide_eq_true (by omega)
                have t2i : decide ((m : Int) < (e : Int)) = true := by exact decide_eq_true (by omega)
                have t2n : decide (m < e) = true := by exact decide_eq_true (by omega)
                have t3i : decide ((a : Int) < (r : Int)) = true := by exact decide_eq_true (by omega)
                have t3n : decide (a < r) = true := by exact decide_eq_true (by omega)
                have t4i : decide ((r : Int) < (mid : Int)) = true := by exact decide_eq_true (by omega)
                have t4n : decide (r < mid) = true := by exact decide_eq_true (by omega)
                have t5i : decide ((mid : Int) < (e : Int)) = true := by exact decide_eq_true (by omega)
                have t5n : decide (mid < e) = true := by exact decide_eq_true (by omega)
                have t6i : decide ((e : Int) < (b : Int)) = false := by exact decide_eq_false (by omega)
                have t6n : decide (e < b) = false := by exact decide_eq_false (by omega)
                have z4 : Y2 = [] := List.eq_nil_of_length_eq_zero (by have := L5.out; omega)
                have Z4 := hide z4
                clear z4
                go_wp2_with fail
                refine (rotate_call (enc := enc) L (.func (.func g) #[] cb) blk off cap r m e d0 d w0 wr R HS.out S1.out (A ++ X1) X2 Y1 (Y2 ++ B) HDr.out (by rw [List.length_append, ← HA.out]; exact L1.out) L3.out L4.out (by omega) (by omega) (by omega)).mono ?_
                rintro e1 w1 ⟨rfl, d1, S2a, hd1⟩
                have S2 := hide S2a
                have HS2 : Hid (d1.size = d0.size) := hide (sz_of hd1 (by simp; have := HLen2.out; omega))
                have HD2 : Hid (d1.toList = A ++ (X1 ++ (Y1 ++ (X2 ++ (Y2 ++ B))))) := hide (by rw [hd1]; simp)
                clear S2a hd1 HDr
                go_wp2_with fail
                refine ((IH.out a r mid (by omega)) d1 w1 A X1 Y1 (X2 ++ (Y2 ++ B)) HS2.out S2.out HD2.out s1.out s3.out HA.out L1.out L2.out (by omega) (by omega)).mono ?_
                rintro e2 w2 ⟨rfl, d2, S3a, hd2⟩
                have S3 := hide S3a
                have HS3 : Hid (d2.size = d0.size) := hide (sz_of hd2 (by simp [length_merge]; have := HLen2.out; omega))
                have HD3 := hide hd2
                clear S3a hd2
                have HD4 : Hid (d2.toList = A ++ (merge (ltOf cf) X1 Y1 ++ (merge (ltOf cf) X2 Y2 ++ B))) := hide (by rw [HD3.out, Z4.out]; simp [merge_nil_left, merge_nil_right])
                go_wp2
                go_end0
                exact ⟨rfl, d2, S3.out, by rw [HD4.out, HMerge.out]; simp⟩
              · have u2 : m < e := by omega
                have t1i : decide ((r : Int) < (m : Int)) = true := by exact decide_eq_true (by omega)
                have t1n : decide (r < m) = true := by exact decide_eq_true (by omega)
                have t2i : decide ((m : Int) < (e : Int)) = true := by exact decide_eq_true (by omega)
                have t2n : decide (m < e) = true := by exact decide_eq_true (by omega)
                have t3i : decide ((a : Int) < (r : Int)) = true := by exact decide_eq_true (by omega)
                have t3n : decide (a < r) = true := by exact decide_eq_true (by omega)
                have t4i : decide ((r : Int) < (mid : Int)) = true := by exact decide_eq_true (by omega)
                have t4n : decide (r < mid) = true := by exact decide_eq_true (by omega)
                have t5i : decide ((mid : Int) < (e : Int)) = true := by exact decide_eq_true (by omega)
                have t5n : decide (mid < e) = true := by exact decide_eq_true (by omega)
                have t6i : decide ((e : Int) < (b : Int)) = true := by exact decide_eq_true (by omega)
                have t6n : decide (e < b) = true := by exact decide_eq_true (by omega)
                go_wp2_with fail
                refine (rotate_call (enc := enc) L (.func (.func g) #[] cb) blk off cap r m e d0 d w0 wr R HS.out S1.out (A ++ X1) X2 Y1 (Y2 ++ B) HDr.out (by rw [List.length_append, ← HA.out]; exact L1.out) L3.out L4.out (by omega) (by omega) (by omega)).mono ?_
                rintro e1 w1 ⟨rfl, d1, S2a, hd1⟩
                have S2 := hide S2a
                have HS2 : Hid (d1.size = d0.size) := hide (sz_of hd1 (by simp; have := HLen2.out; omega))
                have HD2 : Hid (d1.toList = A ++ (X1 ++ (Y1 ++ (X2 ++ (Y2 ++ B))))) := hide (by rw [hd1]; simp)
                clear S2a hd1 HDr
                go_wp2_with fail
                refine ((IH.out a r mid (by omega)) d1 w1 A X1 Y1 (X2 ++ (Y2 ++ B)) HS2.out S2.out HD2.out s1.out s3.out HA.out L1.out L2.out (by omega) (by omega)).mono ?_
                rintro e2 w2 ⟨rfl, d2, S3a, hd2⟩
                have S3 := hide S3a
                have HS3 : Hid (d2.size = d0.size) := hide (sz_of hd2 (by simp [length_merge]; have := HLen2.out; omega))
                have HD3 := hide hd2
                clear S3a hd2
                go_wp2_with fail
                refine ((IH.out mid e b (by omega)) d2 w2 (A ++ merge (ltOf cf) X1 Y1) X2 Y2 B HS3.out S3.out (by rw [HD3.out]; simp) s2.out s4.out (by rw [List.length_append, length_merge, ← HA.out]; have := L1.out; have := L2.out; omega) L6.out L5.out (by omega) (by omega)).mono ?_
                rintro e3 w3 ⟨rfl, d3, S4a, hd3⟩
                have S4 := hide S4a
                have HD4 : Hid (d3.toList = A ++ (merge (ltOf cf) X1 Y1 ++ (merge (ltOf cf) X2 Y2 ++ B))) := hide (by rw [hd3]; simp)
                clear S4a hd3
                go_wp2
                go_end0
                exact ⟨rfl, d3, S4.out, by rw [HD4.out, HMerge.out]; simp⟩
end Go.Proofs.Ytkhdghlgkljdgaa.SortW
