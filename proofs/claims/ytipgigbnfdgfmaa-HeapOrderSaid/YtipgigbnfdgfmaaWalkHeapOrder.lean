/- The walk of HeapOrder. -/
import Derived.Test.YtipgigbnfdgfmaaHI
import Derived.Test.YtipgigbnfdgfmaaSameH
import Derived.Test.YtipgigbnfdgfmaaKindsHeapOrder
import Derived.StillTailTactics
import Derived.Deep.RegionHeld3
import Derived.Deep.QuietTactic
import Derived.Deep.RegionLaw
import Derived.Deep.RegionWith
import Derived.BigQuiet
namespace Go.Proofs.Ytipgigbnfdgfmaa.heapOrder
open Go.Proofs Go.RowKit Go.Deep Go.Proofs.Ytipgigbnfdgfmaa.SortPure Go.Proofs.Ytipgigbnfdgfmaa.Types Go.Proofs.Ytipgigbnfdgfmaa.Heap Go.Proofs.Ytipgigbnfdgfmaa.Row Go.Proofs.Ytipgigbnfdgfmaa.HQ Go.Proofs.Ytipgigbnfdgfmaa.Ord Go.Proofs.Ytipgigbnfdgfmaa.Sorted Go.Proofs.Ytipgigbnfdgfmaa.HU Go.Proofs.Ytipgigbnfdgfmaa.Same Go.Proofs.YtipgigbnfdgfmaaW.PrintWords Go.Proofs.YtipgigbnfdgfmaaW.PrintLast Go.Proofs.YtipgigbnfdgfmaaW.PrintMore
set_option linter.unusedVariables false
set_option linter.unusedSimpArgs false
def retag (i : Nat) (m : M) : M := ⟨m.f0, m.f1, m.f2, (i : Int), m.f4⟩
/-- The messages with their places for numbers. -/
def tag (l : List M) : List M := l.mapIdx retag
theorem tag_take (l : List M) (k : Nat) (hk : k < l.length) : (tag l).take (k + 1) = (tag l).take k ++ [retag k l[k]] := by
  have h : k < (tag l).length := by simpa [tag] using hk
  rw [List.take_succ_eq_append_getElem h]
  simp [tag]
theorem pick {z : M} {rest R0 : List M} {i : Nat} (h : Hq (z :: rest)) (hp : (z :: rest).Perm (R0.drop i)) (hs : Srt befM R0) (hu : ∀ x ∈ R0, ∀ y ∈ R0, x.f3 = y.f3 → x = y) (hi : i < R0.length) : R0[i] = z ∧ (cutL (z :: rest) 0).Perm (R0.drop (i + 1)) := by
  have hd : R0.drop i = R0[i] :: R0.drop (i + 1) := List.drop_eq_getElem_cons hi
  rw [hd] at hp
  have hsd : Srt befM (R0[i] :: R0.drop (i + 1)) := by rw [← hd]; exact List.Pairwise.sublist (List.drop_sublist i R0) hs
  have h1 : befM z R0[i] = false := by
    rcases List.mem_cons.1 (hp.mem_iff.1 List.mem_cons_self) with e | e
    · rw [e]
      cases hb : befM R0[i] R0[i]
      · rfl
      · have := weakM.asym _ _ hb; rw [hb] at this; cases this
    · exact (srt_cons.1 hsd).1 _ e
  have h2 : befM R0[i] z = false := hq_first h (by simp) _ (hp.mem_iff.2 List.mem_cons_self)
  have hz : z ∈ R0 := by
    have := hp.mem_iff.1 (List.mem_cons_self (a := z) (l := rest))
    rw [← hd] at this
    exact List.mem_of_mem_drop this
  have e : R0[i] = z := hu _ (List.getElem_mem hi) _ hz (alike_uid h2 h1).2
  refine ⟨e, (cutL_perm (z :: rest) 0 (by simp)).trans ?_⟩
  rw [e] at hp
  exact hp.cons_inv
theorem tag_get (l : List M) (k : Nat) (h : k < (tag l).length) : ((tag l)[k]).f3 = (k : Int) := by
  simp [tag, retag]
attribute [local go_sem high] eqRun
attribute [local go_sem] max2_int min2_int max_two min_two
set_option maxHeartbeats 16000000 in
set_option maxRecDepth 100000 in
theorem walk (A0 : Option Addr) (c0 : Nat) (l0 : List S25) (hc0 : l0.length ≤ c0) (w0 : ∀ y ∈ l0, I25 y) (y0 : l0.length * 56 ≤ 140737488351232) (w : World) (hr0 : Kd.C k25 w A0 l0.length l0) :
    Calls Try.prog 4 #[.slice A0 l0.length c0] w fun e w' => e = .returned (.bool true) ∧ Below w.heap.size w w' := by
  have HR := hide hr0
  have HY := hide y0
  clear hr0 y0 w0
  go_enter Try.func4, Try.ntmps4
  go_wp2_with fail
  refine (new_call w w.heap.size).mono ?_
  rintro e w2 ⟨rfl, hq, hb⟩
  have HQ2 := hide hq
  have HB2 := hide hb
  clear hq hb
  obtain ⟨g, hg⟩ : ∃ g, w.heap.size = g := ⟨_, rfl⟩
  have HG := hide hg
  rw [hg] at HQ2 ⊢
  clear hg
  go_wp2_with fail
  -- both ways
  · obtain ⟨n, hn⟩ : ∃ n : Nat, 500 = n := ⟨_, rfl⟩
    have hnI : (500 : Int) = (n : Int) := by omega
    rw [hnI]
    have HN : Hid (n ≤ 500 ∧ n ≤ l0.length) := hide (by omega)
    clear hn hnI
    go_loopw [5, 6] (fun vi iv wr => ∃ (k : Nat) (A : Option Addr) (c : Nat) (lq : List M) (Ai : Option Addr) (ci : Nat), iv = .int .i64 k ∧ vi = .slice Ai k ci ∧ k ≤ n ∧ Hid (QAt wr g g (.slice A lq.length c) lq) ∧ Hid (OwnM wr g (.slice Ai k ci) ((tag l0).take k)) ∧ Hid (lq.Perm ((tag l0).take k)) ∧ Hid (Hq lq) ∧ Hid (∀ b, (Value.slice Ai k ci).ownBlock = some b → (Value.slice A lq.length c).ownBlock ≠ some b) ∧ Hid (Below w.heap.size w wr)) (fun _ iv _ => n - (intOf iv).toNat)
    case atStart => exact ⟨0, none, 0, [], none, 0, rfl, rfl, Nat.zero_le _, HQ2, hide (Own.nil _ _ _ _ _), hide (List.Perm.refl _), hide hq_nil, hide (fun b h => by cases h), HB2⟩
    case round =>
      obtain ⟨k, A, c, lq, Ai, ci, rfl, rfl, hk, HQ, HI, HP, HHp, HD, HB⟩ := hrel
      clear HQ2 HB2
      by_cases hlt : k < n
      · have b1 : (k : Int) < (n : Int) := by omega
        have hk5 : (k : Int) ≤ 500 := by have := HN.out; omega
        have hkl : k < l0.length := by have := HN.out; omega
        obtain ⟨ad, rfl, q0, q1, q2, q3, q4, q5, q6⟩ := at_S25 (Kd.C_below HR.out HB.out) hkl
        have bl : (k : Int) < (l0.length : Int) := by omega
        have HTG : Hid ((tag l0).take (k + 1) = (tag l0).take k ++ [retag k l0[k]]) := hide (tag_take l0 k hkl)
        obtain ⟨y, hy⟩ : ∃ y, l0[k] = y := ⟨_, rfl⟩
        rw [hy] at q0 q1 q2 q3 q4 q5 q6 HTG
        clear hy
        have HQa := hide (HQ.out.alloc (.cells #[.int .i64 y.f0.f0, .int .i64 y.f0.f1, .int .i64 y.f0.f2, .int .i64 y.f1, .int .i64 y.f2, .int .i64 y.f3, .bool y.f4] 25))
        have HIa := hide (HI.out.alloc (.cells #[.int .i64 y.f0.f0, .int .i64 y.f0.f1, .int .i64 y.f0.f2, .int .i64 y.f1, .int .i64 y.f2, .int .i64 y.f3, .bool y.f4] 25))
        have HMa := hide (Blk.new wr 25 #[.int .i64 y.f0.f0, .int .i64 y.f0.f1, .int .i64 y.f0.f2, .int .i64 y.f1, .int .i64 y.f2, .int .i64 y.f3, .bool y.f4])
        have HBa := hide (HB.out.alloc HB.out.size (.cells #[.int .i64 y.f0.f0, .int .i64 y.f0.f1, .int .i64 y.f0.f2, .int .i64 y.f1, .int .i64 y.f2, .int .i64 y.f3, .bool y.f4] 25))
        have HSa : Hid ((wr.alloc (.cells #[.int .i64 y.f0.f0, .int .i64 y.f0.f1, .int .i64 y.f0.f2, .int .i64 y.f1, .int .i64 y.f2, .int .i64 y.f3, .bool y.f4] 25)).heap.size = wr.heap.size + 1) := hide (World.size_alloc _ _)
        have HNa : Hid (∀ b, (Value.slice Ai k ci).ownBlock = some b → b ≠ wr.heap.size) := hide (fun b hb => by have := (HI.out.blk b hb).2; omega)
        have HNq : Hid (g ≠ wr.heap.size ∧ w.heap.size ≤ wr.heap.size ∧ ∀ b, (Value.slice A lq.length c).ownBlock = some b → b ≠ wr.heap.size) := hide ⟨by have := HQ.out.blk.lt; omega, HB.out.size, fun b hb => by have := (HQ.out.own.blk b hb).2; omega⟩
        obtain ⟨Wa, hWa⟩ : ∃ Wa, wr.alloc (.cells #[.int .i64 y.f0.f0, .int .i64 y.f0.f1, .int .i64 y.f0.f2, .int .i64 y.f1, .int .i64 y.f2, .int .i64 y.f3, .bool y.f4] 25) = Wa := ⟨_, rfl⟩
        obtain ⟨gm, hgm⟩ : ∃ gm, wr.heap.size = gm := ⟨_, rfl⟩
        rw [hWa] at HQa HIa HMa HBa HSa
        rw [hgm] at HMa HSa HNa HNq
        have y5 : Wa.cell? ⟨gm, 5, none⟩ = some (.int .i64 y.f3) := HMa.out.cell 5
        have fy5 : Wa.frozen? ⟨gm, 5, none⟩ = false := HMa.out.frozen 5
        have HMb : Hid (Blk (Wa.setCell ⟨gm, 5, none⟩ (.int .i64 k)) gm 25 #[.int .i64 y.f0.f0, .int .i64 y.f0.f1, .int .i64 y.f0.f2, .int .i64 y.f1, .int .i64 y.f2, .int .i64 k, .bool y.f4]) := hide (HMa.out.set_ 5 (.int .i64 k))
        have HQb := hide (HQa.out.far (p := ⟨gm, 5, none⟩) HNq.out.1 (fun e => HNq.out.2.2 _ e rfl) (.int .i64 k))
        have HIb := hide (HIa.out.only (S := fun b => b = gm) ((Only.refl Wa (fun b => b = gm)).setCell (p := ⟨gm, 5, none⟩) (.inl rfl) (.int .i64 k)) (fun b hb e => HNa.out b hb e))
        have HBb := hide (HBa.out.setCell (p := ⟨gm, 5, none⟩) (by exact HNq.out.2.1) (.int .i64 k))
        have HSb : Hid ((Wa.setCell ⟨gm, 5, none⟩ (.int .i64 k)).heap.size = gm + 1) := hide (by rw [← HSa.out]; simp [World.setCell])
        obtain ⟨Wb, hWb⟩ : ∃ Wb, Wa.setCell ⟨gm, 5, none⟩ (.int .i64 k) = Wb := ⟨_, rfl⟩
        rw [hWb] at HMb HQb HIb HBb HSb
        have v0 : Wb.cell? ⟨gm, 0, none⟩ = some (.int .i64 y.f0.f0) := HMb.out.cell 0
        have v1 : Wb.cell? ⟨gm, 1, none⟩ = some (.int .i64 y.f0.f1) := HMb.out.cell 1
        have v2 : Wb.cell? ⟨gm, 2, none⟩ = some (.int .i64 y.f0.f2) := HMb.out.cell 2
        have v3 : Wb.cell? ⟨gm, 3, none⟩ = some (.int .i64 y.f1) := HMb.out.cell 3
        have v4 : Wb.cell? ⟨gm, 4, none⟩ = some (.int .i64 y.f2) := HMb.out.cell 4
        have v5 : Wb.cell? ⟨gm, 5, none⟩ = some (.int .i64 k) := HMb.out.cell 5
        have v6 : Wb.cell? ⟨gm, 6, none⟩ = some (.bool y.f4) := HMb.out.cell 6
        have HM4 := hide (HMb.out.alloc (.cells #[.int .i64 y.f0.f0, .int .i64 y.f0.f1, .int .i64 y.f0.f2, .int .i64 y.f1, .int .i64 y.f2, .int .i64 k, .bool y.f4] 25))
        have HI4 := hide (HIb.out.alloc (.cells #[.int .i64 y.f0.f0, .int .i64 y.f0.f1, .int .i64 y.f0.f2, .int .i64 y.f1, .int .i64 y.f2, .int .i64 k, .bool y.f4] 25))
        have HQ4 := hide (HQb.out.alloc (.cells #[.int .i64 y.f0.f0, .int .i64 y.f0.f1, .int .i64 y.f0.f2, .int .i64 y.f1, .int .i64 y.f2, .int .i64 k, .bool y.f4] 25))
        have HB4 := hide (HBb.out.alloc HBb.out.size (.cells #[.int .i64 y.f0.f0, .int .i64 y.f0.f1, .int .i64 y.f0.f2, .int .i64 y.f1, .int .i64 y.f2, .int .i64 k, .bool y.f4] 25))
        have HC4 : Hid (Kd.C k25 (Wb.alloc (.cells #[.int .i64 y.f0.f0, .int .i64 y.f0.f1, .int .i64 y.f0.f2, .int .i64 y.f1, .int .i64 y.f2, .int .i64 k, .bool y.f4] 25)) (some ⟨Wb.heap.size, 0, none⟩) 1 [retag k y]) := hide (C_one (Blk.new Wb 25 _) flatM rfl k25_mk)
        have HS4 : Hid ((Wb.alloc (.cells #[.int .i64 y.f0.f0, .int .i64 y.f0.f1, .int .i64 y.f0.f2, .int .i64 y.f1, .int .i64 y.f2, .int .i64 k, .bool y.f4] 25)).heap.size = gm + 2) := hide (by rw [World.size_alloc, HSb.out])
        obtain ⟨W4, hW4⟩ : ∃ W4, Wb.alloc (.cells #[.int .i64 y.f0.f0, .int .i64 y.f0.f1, .int .i64 y.f0.f2, .int .i64 y.f1, .int .i64 y.f2, .int .i64 k, .bool y.f4] 25) = W4 := ⟨_, rfl⟩
        obtain ⟨gs, hgs⟩ : ∃ gs, Wb.heap.size = gs := ⟨_, rfl⟩
        rw [hW4] at HM4 HI4 HQ4 HB4 HC4 HS4
        rw [hgs] at HC4
        have HSg : Hid (g ≤ W4.heap.size) := hide (by have := HB4.out.size; have := HG.out; omega)
        have HFR : Hid (∀ b, (Value.slice Ai k ci).ownBlock = some b → b ≠ gm ∧ b < W4.heap.size) := hide (fun b hb => ⟨HNa.out b hb, (HI4.out.blk b hb).2⟩)
        clear HQa HIa HMa HBa HSa HQb HIb HMb HBb HNa HNq
        have hll : ((tag l0).take k).length = k := by simp [tag]; omega
        have HLL := hide hll
        clear hll
        clear HI HQ HB
        go_wp2_with ((with_reducible refine gate_builtin (b := .append) (xs := #[.tmp 31, .tmp 33]) rfl ?_); at_builtin; refine wpList_plain (by rfl) (fun K hK => ?_); refine wp1_append flatM rfl k25_open (.tmp 31) (.tmp 33) 26 rfl zM 56 Try.underlying26 infoM rfl _ (by rfl) HI4.out _ _ _ [retag k y] (by rfl) HC4.out (by omega) ?aL HSg.out ?_; (case aL => rw [HLL.out]; have := HN.out; simp only [List.length_singleton]; omega); intro A' m' c' w5 hm ho hg hblk; have hm2 : m' = k + 1 := (by rw [hm, HLL.out]; rfl); subst hm2; clear hm; have HM5 := hide (Blk.grown HM4.out hg (fun e => (HFR.out _ e.symm).1 rfl)); have x0 : w5.cell? ⟨gm, 0, none⟩ = some (.int .i64 y.f0.f0) := HM5.out.cell 0; have x1 : w5.cell? ⟨gm, 1, none⟩ = some (.int .i64 y.f0.f1) := HM5.out.cell 1; have x2 : w5.cell? ⟨gm, 2, none⟩ = some (.int .i64 y.f0.f2) := HM5.out.cell 2; have x3 : w5.cell? ⟨gm, 3, none⟩ = some (.int .i64 y.f1) := HM5.out.cell 3; have x4 : w5.cell? ⟨gm, 4, none⟩ = some (.int .i64 y.f2) := HM5.out.cell 4; have x5 : w5.cell? ⟨gm, 5, none⟩ = some (.int .i64 k) := HM5.out.cell 5; have x6 : w5.cell? ⟨gm, 6, none⟩ = some (.bool y.f4) := HM5.out.cell 6; have HO5 := hide ho; have HG5 := hide hg; have HBk5 := hide hblk; clear ho hg hblk; refine hK _ _ ?_)
        have ho := HO5.out
        have hg := HG5.out
        have hblk := HBk5.out
        have HI5 : Hid (OwnM w5 g (.slice A' (k + 1) c') ((tag l0).take (k + 1))) := hide (by rw [HTG.out]; exact ho)
        have HQ5 : Hid (QAt w5 g g (.slice A lq.length c) lq) := hide ⟨Blk.grown HQ4.out.blk hg (fun e => by have := (HI4.out.blk _ e.symm).1; have := own_blk_ne HI4.out HQ4.out.blk (by decide); exact this e.symm), HQ4.out.own.move (fun b hb => hg.block b (HQ4.out.own.blk b hb).2 (fun e => HD.out b e.symm hb))⟩
        have HB5 := hide (HB4.out.grown hg HB4.out.size (fun b e => by have := (HI4.out.blk b e).1; have := HG.out; omega))
        have HD5 : Hid (∀ b, (Value.slice A' (k + 1) c').ownBlock = some b → (Value.slice A lq.length c).ownBlock ≠ some b ∧ b < w5.heap.size) := hide (fun b hb => ⟨fun hb2 => by
          rcases hblk with q | q
          · exact HD.out b (q.symm.trans hb) hb2
          · have q2 := q.symm.trans hb
            injection q2 with q3
            have := (HQ4.out.own.blk b hb2).2
            omega, (ho.blk b hb).2⟩)
        clear ho hg hblk HI4 HQ4 HB4 HM4 HC4 HSg HFR
        have hln : lq.length = k := by rw [HP.out.length_eq]; exact HLL.out
        have hnew : ∀ x ∈ lq, ¬ isOf (retag k y).f0.f1 (retag k y).f3 x := fun x hx hq => by
          have h1 := HP.out.mem_iff.1 hx
          obtain ⟨j, hj, hje⟩ := List.getElem_of_mem h1
          have hjk : j < k := by rw [HLL.out] at hj; exact hj
          have h2 : x.f3 = (j : Int) := by rw [← hje, List.getElem_take]; exact tag_get l0 j _
          have h3 : x.f3 = (k : Int) := hq.2
          omega
        have hPu := push_new w5 g g A c lq (retag k y) HQ5.out (by have := HN.out; omega) (by have := HQ5.out.blk.lt; omega) hnew
        have HLq := hide hln
        have HPp := hide (pushL_perm lq (retag k y))
        have HHp2 := hide (hq_push HHp.out (retag k y))
        change Calls Try.prog _ _ w5 (Go.Proofs.Ytipgigbnfdgfmaa.HQ.Left w5 g g (.slice A lq.length c) (pushL lq (retag k y)) (.int .i64 0)) at hPu
        obtain ⟨lq2, hlq2⟩ : ∃ lq2, pushL lq (retag k y) = lq2 := ⟨_, rfl⟩
        rw [hlq2] at hPu HPp HHp2
        have HPu : Hid (Calls Try.prog 9 #[.pointer (some ⟨g, 0, none⟩), .agg #[.int .i64 y.f0.f0, .int .i64 y.f0.f1, .int .i64 y.f0.f2, .int .i64 y.f1, .int .i64 y.f2, .int .i64 k, .bool y.f4]] w5 (Go.Proofs.Ytipgigbnfdgfmaa.HQ.Left w5 g g (.slice A lq.length c) lq2 (.int .i64 0))) := hide hPu
        clear hln hnew hPu hlq2
        refine HPu.out.mono ?_
        rintro e w6 ⟨rfl, A6, c6, hq6, ho6, hn6⟩
        have HI6 := hide (HI5.out.only ho6 (fun b hb e => by
          rcases e with e | e
          · exact (own_blk_ne HI5.out HQ5.out.blk (by decide)) (by rw [← e]; exact hb)
          · exact (HD5.out b hb).1 e))
        have HB6 := hide (HB5.out.trans (ho6.below HB5.out.size (fun b e => by
          rcases e with e | e
          · have := HG.out; omega
          · have := (HQ5.out.own.blk b e).1; have := HG.out; omega)))
        have HD6 : Hid (∀ b, (Value.slice A' (k + 1) c').ownBlock = some b → (Value.slice A6 lq2.length c6).ownBlock ≠ some b) := hide (fun b hb hb2 => by
          rcases hn6 b hb2 with q | q
          · exact (HD5.out b hb).1 q
          · have := (HD5.out b hb).2; omega)
        go_wp2_with fail
        go_roundw
        case rel => exact ⟨k + 1, A6, c6, lq2, A', c', by go_num, rfl, by omega, hide hq6, HI6, hide (HPp.out.trans (by rw [HTG.out]; exact (HP.out.cons _).trans (List.perm_append_comm (l₁ := [retag k y])))), HHp2, HD6, HB6⟩
        case measure => simp [intOf]; omega
      · have b1 : ¬ (k : Int) < (n : Int) := by omega
        obtain rfl : k = n := by omega
        obtain ⟨S, hS⟩ : ∃ S, (tag l0).take k = S := ⟨_, rfl⟩
        have hll : ((tag l0).take k).length = k := by have := HN.out; simp [tag]; omega
        rw [hS] at hll HI HP
        obtain ⟨Aj, cj, hvj, hcj, hCj, _⟩ := HI.out.reads flatM rfl k25_mk
        injection hvj with e1 e2 e3
        subst e1 e3
        have HSo := hide (sorted_call Ai ci S hcj (by rw [hll]; have := HN.out; omega) wr hCj)
        rw [hll] at HSo
        clear e2
        have HU : Hid (∀ x ∈ S, ∀ y ∈ S, x.f3 = y.f3 → x = y) := hide (fun x hx y hy e => by
          rw [← hS] at hx hy
          obtain ⟨i, hi, rfl⟩ := List.getElem_of_mem hx
          obtain ⟨j, hj, rfl⟩ := List.getElem_of_mem hy
          rw [List.getElem_take, List.getElem_take] at e
          rw [tag_get, tag_get] at e
          have : i = j := by omega
          subst this
          rfl)
        have HLL := hide hll
        clear hS hll hCj hcj hk hlt b1
        go_wp2_with fail
        refine HSo.out.mono ?_
        rintro e w4 ⟨vS, rfl, hoS, hbS⟩
        obtain ⟨As, cs, hvs, _, _⟩ := hoS.slice
        subst hvs
        have HD4 : Hid (∀ b, (Value.slice As (isort befM S).length cs).ownBlock = some b → (Value.slice A lq.length c).ownBlock ≠ some b) := hide (fun b hb hb2 => by have h1 := (hoS.blk b hb).1; have h2 := (HQ.out.own.blk b hb2).2; omega)
        have HQ4 := hide (HQ.out.below hbS)
        have HB4 := hide (below_step HB.out hbS)
        have HW4 := hide hoS
        have HP4 : Hid (lq.Perm ((isort befM S).drop 0)) := hide (HP.out.trans (perm_isort S).symm)
        have HU4 : Hid (∀ x ∈ isort befM S, ∀ y ∈ isort befM S, x.f3 = y.f3 → x = y) := hide (fun x hx y hy e => HU.out x ((perm_isort S).mem_iff.1 hx) y ((perm_isort S).mem_iff.1 hy) e)
        have HSr := hide (srt_isort weakM S)
        have HRl : Hid ((isort befM S).length = k) := hide (by rw [length_isort]; exact HLL.out)
        obtain ⟨R0, hR0⟩ : ∃ R0, isort befM S = R0 := ⟨_, rfl⟩
        obtain ⟨bw, hbw⟩ : ∃ bw, wr.heap.size = bw := ⟨_, rfl⟩
        rw [hR0] at HD4 HW4 HP4 HU4 HSr HRl ⊢
        rw [hbw] at HW4
        clear hR0 hbw hoS hbS HSo HU HP HQ HI HD HB HLL
        rw [HRl.out]
        rw [HRl.out] at HD4 
        go_wp2_with fail
        go_loopw [9] (fun iv wr => ∃ (i : Nat) (A : Option Addr) (c : Nat) (lq : List M), iv = .int .i64 i ∧ i ≤ k ∧ Hid (QAt wr g g (.slice A lq.length c) lq) ∧ Hid (OwnM wr bw (.slice As R0.length cs) R0) ∧ Hid (lq.Perm (R0.drop i)) ∧ Hid (Hq lq) ∧ Hid (∀ b, (Value.slice As k cs).ownBlock = some b → (Value.slice A lq.length c).ownBlock ≠ some b) ∧ Hid (Below w.heap.size w wr)) (fun iv _ => k - (intOf iv).toNat)
        case atStart => exact ⟨0, A, c, lq, rfl, Nat.zero_le _, HQ4, HW4, HP4, HHp, HD4, HB4⟩
        case round =>
          obtain ⟨i, A, c, lq, rfl, hi, HQ, HW, HP, HHq, HD, HB⟩ := hrel
          clear HQ4 HW4 HP4 HHp HD4 HB4
          have hk5 : (k : Int) ≤ 500 := by have := HN.out; omega
          by_cases hlt : i < k
          · have t1 : (i : Int) < (k : Int) := by omega
            have hir : i < R0.length := by rw [HRl.out]; exact hlt
            obtain ⟨z, rest, hzr⟩ : ∃ z rest, lq = z :: rest := by
              cases lq with
              | nil => have := HP.out.length_eq; simp at this; omega
              | cons z rest => exact ⟨z, rest, rfl⟩
            subst hzr
            obtain ⟨hz, hp2⟩ := pick HHq.out HP.out HSr.out HU4.out hir
            have HP2 := hide hp2
            have HHq2 := hide (hq_cut HHq.out 0 (by simp))
            have hlen2 : (cutL (z :: rest) 0).length = k - i - 1 := by rw [hp2.length_eq, List.length_drop, HRl.out]; omega
            have hlz : (z :: rest).length ≤ 16384 := by rw [HP.out.length_eq, List.length_drop, HRl.out]; omega
            obtain ⟨Aw, cw, hvw, _, hCw, _⟩ := HW.out.reads flatM rfl k25_mk
            cases hvw
            have HPo := hide (pop_some wr g g A c z rest HQ.out hlz)
            have HQ0 := hide HQ.out
            go_wp2_with fail
            refine HPo.out.mono ?_
            rintro e w5 ⟨rfl, hq5, ho5⟩
            have HW5 : Hid (OwnM w5 bw (.slice As R0.length cs) R0) := hide (HW.out.only ho5 (fun b hb e => by
              rcases e with e | e
              · exact own_blk_ne HW.out HQ0.out.blk (by decide) (by rw [← e]; exact hb)
              · exact HD.out b (by cases As <;> exact hb) e))
            have HB5 := hide (HB.out.trans (ho5.below HB.out.size (fun b e => by
              rcases e with e | e
              · have := HG.out; omega
              · have := (HQ0.out.own.blk b e).1; have := HG.out; omega)))
            have HQ5 := hide hq5
            clear hCw hq5 ho5 HPo HQ HQ0 HW HB hp2 HP HHq
            rename_i K1 h1 K2 h2
            have HK := hide h1
            clear h1
            go_wp2_with fail
            have HQ6 := hide (HQ5.out.alloc (.cells #[.int .i64 z.f0.f0, .int .i64 z.f0.f1, .int .i64 z.f0.f2, .int .i64 z.f1, .int .i64 z.f2, .int .i64 z.f3, .bool z.f4] 25))
            have HW6 := hide (HW5.out.alloc (.cells #[.int .i64 z.f0.f0, .int .i64 z.f0.f1, .int .i64 z.f0.f2, .int .i64 z.f1, .int .i64 z.f2, .int .i64 z.f3, .bool z.f4] 25))
            have HM6 := hide (Blk.new w5 25 #[.int .i64 z.f0.f0, .int .i64 z.f0.f1, .int .i64 z.f0.f2, .int .i64 z.f1, .int .i64 z.f2, .int .i64 z.f3, .bool z.f4])
            have HB6 := hide (HB5.out.alloc HB5.out.size (.cells #[.int .i64 z.f0.f0, .int .i64 z.f0.f1, .int .i64 z.f0.f2, .int .i64 z.f1, .int .i64 z.f2, .int .i64 z.f3, .bool z.f4] 25))
            generalize w5.alloc (.cells #[.int .i64 z.f0.f0, .int .i64 z.f0.f1, .int .i64 z.f0.f2, .int .i64 z.f1, .int .i64 z.f2, .int .i64 z.f3, .bool z.f4] 25) = w6 at HQ6 HW6 HM6 HB6 ⊢
            generalize w5.heap.size = gm at HM6 ⊢
            refine HK.out _ _ ?_
            clear HK K1 HQ5 HW5 HB5
            have m0 : w6.cell? ⟨gm, 0, none⟩ = some (.int .i64 z.f0.f0) := HM6.out.cell 0
            have m1 : w6.cell? ⟨gm, 1, none⟩ = some (.int .i64 z.f0.f1) := HM6.out.cell 1
            have m2 : w6.cell? ⟨gm, 2, none⟩ = some (.int .i64 z.f0.f2) := HM6.out.cell 2
            have m3 : w6.cell? ⟨gm, 3, none⟩ = some (.int .i64 z.f1) := HM6.out.cell 3
            have m4 : w6.cell? ⟨gm, 4, none⟩ = some (.int .i64 z.f2) := HM6.out.cell 4
            have m5 : w6.cell? ⟨gm, 5, none⟩ = some (.int .i64 z.f3) := HM6.out.cell 5
            have m6 : w6.cell? ⟨gm, 6, none⟩ = some (.bool z.f4) := HM6.out.cell 6
            obtain ⟨Av, cv, hvv, _, hCv, _⟩ := HW6.out.reads flatM rfl k25_mk
            injection hvv with e1 e2 e3
            subst e1 e3
            clear e2
            obtain ⟨ad, rfl, q0, q1, q2, q3, q4, q5, q6⟩ := at_S25 hCv hir
            rw [hz] at q0 q1 q2 q3 q4 q5 q6
            obtain ⟨d, hd⟩ : ∃ d, k - i - 1 = d := ⟨_, rfl⟩
            have hdI : (k : Int) - (i : Int) - 1 = (d : Int) := by omega
            have HLe : Hid (∀ nq, Calls Try.prog 10 #[.pointer (some ⟨g, 0, none⟩)] (w6.drewN nq) fun e w'' => e = .returned (.int .i64 (d : Nat)) ∧ ∃ m, w'' = w6.drewN m) := hide (fun nq => Calls.quiet_of_same (n := nq) (by have := len_call g (w6.drewN nq) g A c _ (HQ6.out.drewN nq); rw [hlen2, hd] at this; exact this))
            have n1 := eqM_refl z
            unfold eqM at n1
            clear hCv hz hlz
            go_wp2_with fail
            refine wp_region_quiet_lit (by kernel_rfl) (Lex.lexB_of _ (by kernel_rfl) (by kernel_rfl)) ?_
            repeat (go_big_quiet_step ((go_at_call 10; exact HLe.out _)))
            refine wpQuiet_nil ?_
            intro _ hw'
            obtain ⟨nq, hw''⟩ := hw'
            subst hw''
            go_wp2_with fail
            go_roundw
            case rel => exact ⟨i + 1, _, _, _, by go_num, by omega, hide (HQ6.out.drewN nq), hide (HW6.out.drewN nq), HP2, HHq2, hide (fun b hb e => HD.out b hb (by cases A <;> exact e)), hide (below_drewN HB6.out nq)⟩
            case measure => simp [intOf]; omega
          · have t1 : ¬ (i : Int) < (k : Int) := by omega
            have hil : i = k := by omega
            have hnil : lq = [] := by
              have := HP.out.length_eq
              rw [List.length_drop, HRl.out, hil, Nat.sub_self] at this
              exact List.eq_nil_of_length_eq_zero this
            subst hnil
            subst hil
            have HPo := hide (pop_none wr g g A c HQ.out)
            unfold zA at HPo
            go_wp2_with fail
            refine HPo.out.mono ?_
            rintro e w5 ⟨rfl, hb5⟩
            have HB5 := hide (below_step HB.out hb5)
            clear hb5 HPo
            go_wp2_with fail
            go_ret
            exact ⟨rfl, HB5.out.alloc HB5.out.size _⟩
  · obtain ⟨n, hn⟩ : ∃ n : Nat, l0.length = n := ⟨_, rfl⟩
    have hnI : (l0.length : Int) = (n : Int) := by omega
    rw [hnI]
    have HN : Hid (n ≤ 500 ∧ n ≤ l0.length) := hide (by omega)
    clear hn hnI
    go_loopw [5, 6] (fun vi iv wr => ∃ (k : Nat) (A : Option Addr) (c : Nat) (lq : List M) (Ai : Option Addr) (ci : Nat), iv = .int .i64 k ∧ vi = .slice Ai k ci ∧ k ≤ n ∧ Hid (QAt wr g g (.slice A lq.length c) lq) ∧ Hid (OwnM wr g (.slice Ai k ci) ((tag l0).take k)) ∧ Hid (lq.Perm ((tag l0).take k)) ∧ Hid (Hq lq) ∧ Hid (∀ b, (Value.slice Ai k ci).ownBlock = some b → (Value.slice A lq.length c).ownBlock ≠ some b) ∧ Hid (Below w.heap.size w wr)) (fun _ iv _ => n - (intOf iv).toNat)
    case atStart => exact ⟨0, none, 0, [], none, 0, rfl, rfl, Nat.zero_le _, HQ2, hide (Own.nil _ _ _ _ _), hide (List.Perm.refl _), hide hq_nil, hide (fun b h => by cases h), HB2⟩
    case round =>
      obtain ⟨k, A, c, lq, Ai, ci, rfl, rfl, hk, HQ, HI, HP, HHp, HD, HB⟩ := hrel
      clear HQ2 HB2
      by_cases hlt : k < n
      · have b1 : (k : Int) < (n : Int) := by omega
        have hk5 : (k : Int) ≤ 500 := by have := HN.out; omega
        have hkl : k < l0.length := by have := HN.out; omega
        obtain ⟨ad, rfl, q0, q1, q2, q3, q4, q5, q6⟩ := at_S25 (Kd.C_below HR.out HB.out) hkl
        have bl : (k : Int) < (l0.length : Int) := by omega
        have HTG : Hid ((tag l0).take (k + 1) = (tag l0).take k ++ [retag k l0[k]]) := hide (tag_take l0 k hkl)
        obtain ⟨y, hy⟩ : ∃ y, l0[k] = y := ⟨_, rfl⟩
        rw [hy] at q0 q1 q2 q3 q4 q5 q6 HTG
        clear hy
        have HQa := hide (HQ.out.alloc (.cells #[.int .i64 y.f0.f0, .int .i64 y.f0.f1, .int .i64 y.f0.f2, .int .i64 y.f1, .int .i64 y.f2, .int .i64 y.f3, .bool y.f4] 25))
        have HIa := hide (HI.out.alloc (.cells #[.int .i64 y.f0.f0, .int .i64 y.f0.f1, .int .i64 y.f0.f2, .int .i64 y.f1, .int .i64 y.f2, .int .i64 y.f3, .bool y.f4] 25))
        have HMa := hide (Blk.new wr 25 #[.int .i64 y.f0.f0, .int .i64 y.f0.f1, .int .i64 y.f0.f2, .int .i64 y.f1, .int .i64 y.f2, .int .i64 y.f3, .bool y.f4])
        have HBa := hide (HB.out.alloc HB.out.size (.cells #[.int .i64 y.f0.f0, .int .i64 y.f0.f1, .int .i64 y.f0.f2, .int .i64 y.f1, .int .i64 y.f2, .int .i64 y.f3, .bool y.f4] 25))
        have HSa : Hid ((wr.alloc (.cells #[.int .i64 y.f0.f0, .int .i64 y.f0.f1, .int .i64 y.f0.f2, .int .i64 y.f1, .int .i64 y.f2, .int .i64 y.f3, .bool y.f4] 25)).heap.size = wr.heap.size + 1) := hide (World.size_alloc _ _)
        have HNa : Hid (∀ b, (Value.slice Ai k ci).ownBlock = some b → b ≠ wr.heap.size) := hide (fun b hb => by have := (HI.out.blk b hb).2; omega)
        have HNq : Hid (g ≠ wr.heap.size ∧ w.heap.size ≤ wr.heap.size ∧ ∀ b, (Value.slice A lq.length c).ownBlock = some b → b ≠ wr.heap.size) := hide ⟨by have := HQ.out.blk.lt; omega, HB.out.size, fun b hb => by have := (HQ.out.own.blk b hb).2; omega⟩
        obtain ⟨Wa, hWa⟩ : ∃ Wa, wr.alloc (.cells #[.int .i64 y.f0.f0, .int .i64 y.f0.f1, .int .i64 y.f0.f2, .int .i64 y.f1, .int .i64 y.f2, .int .i64 y.f3, .bool y.f4] 25) = Wa := ⟨_, rfl⟩
        obtain ⟨gm, hgm⟩ : ∃ gm, wr.heap.size = gm := ⟨_, rfl⟩
        rw [hWa] at HQa HIa HMa HBa HSa
        rw [hgm] at HMa HSa HNa HNq
        have y5 : Wa.cell? ⟨gm, 5, none⟩ = some (.int .i64 y.f3) := HMa.out.cell 5
        have fy5 : Wa.frozen? ⟨gm, 5, none⟩ = false := HMa.out.frozen 5
        have HMb : Hid (Blk (Wa.setCell ⟨gm, 5, none⟩ (.int .i64 k)) gm 25 #[.int .i64 y.f0.f0, .int .i64 y.f0.f1, .int .i64 y.f0.f2, .int .i64 y.f1, .int .i64 y.f2, .int .i64 k, .bool y.f4]) := hide (HMa.out.set_ 5 (.int .i64 k))
        have HQb := hide (HQa.out.far (p := ⟨gm, 5, none⟩) HNq.out.1 (fun e => HNq.out.2.2 _ e rfl) (.int .i64 k))
        have HIb := hide (HIa.out.only (S := fun b => b = gm) ((Only.refl Wa (fun b => b = gm)).setCell (p := ⟨gm, 5, none⟩) (.inl rfl) (.int .i64 k)) (fun b hb e => HNa.out b hb e))
        have HBb := hide (HBa.out.setCell (p := ⟨gm, 5, none⟩) (by exact HNq.out.2.1) (.int .i64 k))
        have HSb : Hid ((Wa.setCell ⟨gm, 5, none⟩ (.int .i64 k)).heap.size = gm + 1) := hide (by rw [← HSa.out]; simp [World.setCell])
        obtain ⟨Wb, hWb⟩ : ∃ Wb, Wa.setCell ⟨gm, 5, none⟩ (.int .i64 k) = Wb := ⟨_, rfl⟩
        rw [hWb] at HMb HQb HIb HBb HSb
        have v0 : Wb.cell? ⟨gm, 0, none⟩ = some (.int .i64 y.f0.f0) := HMb.out.cell 0
        have v1 : Wb.cell? ⟨gm, 1, none⟩ = some (.int .i64 y.f0.f1) := HMb.out.cell 1
        have v2 : Wb.cell? ⟨gm, 2, none⟩ = some (.int .i64 y.f0.f2) := HMb.out.cell 2
        have v3 : Wb.cell? ⟨gm, 3, none⟩ = some (.int .i64 y.f1) := HMb.out.cell 3
        have v4 : Wb.cell? ⟨gm, 4, none⟩ = some (.int .i64 y.f2) := HMb.out.cell 4
        have v5 : Wb.cell? ⟨gm, 5, none⟩ = some (.int .i64 k) := HMb.out.cell 5
        have v6 : Wb.cell? ⟨gm, 6, none⟩ = some (.bool y.f4) := HMb.out.cell 6
        have HM4 := hide (HMb.out.alloc (.cells #[.int .i64 y.f0.f0, .int .i64 y.f0.f1, .int .i64 y.f0.f2, .int .i64 y.f1, .int .i64 y.f2, .int .i64 k, .bool y.f4] 25))
        have HI4 := hide (HIb.out.alloc (.cells #[.int .i64 y.f0.f0, .int .i64 y.f0.f1, .int .i64 y.f0.f2, .int .i64 y.f1, .int .i64 y.f2, .int .i64 k, .bool y.f4] 25))
        have HQ4 := hide (HQb.out.alloc (.cells #[.int .i64 y.f0.f0, .int .i64 y.f0.f1, .int .i64 y.f0.f2, .int .i64 y.f1, .int .i64 y.f2, .int .i64 k, .bool y.f4] 25))
        have HB4 := hide (HBb.out.alloc HBb.out.size (.cells #[.int .i64 y.f0.f0, .int .i64 y.f0.f1, .int .i64 y.f0.f2, .int .i64 y.f1, .int .i64 y.f2, .int .i64 k, .bool y.f4] 25))
        have HC4 : Hid (Kd.C k25 (Wb.alloc (.cells #[.int .i64 y.f0.f0, .int .i64 y.f0.f1, .int .i64 y.f0.f2, .int .i64 y.f1, .int .i64 y.f2, .int .i64 k, .bool y.f4] 25)) (some ⟨Wb.heap.size, 0, none⟩) 1 [retag k y]) := hide (C_one (Blk.new Wb 25 _) flatM rfl k25_mk)
        have HS4 : Hid ((Wb.alloc (.cells #[.int .i64 y.f0.f0, .int .i64 y.f0.f1, .int .i64 y.f0.f2, .int .i64 y.f1, .int .i64 y.f2, .int .i64 k, .bool y.f4] 25)).heap.size = gm + 2) := hide (by rw [World.size_alloc, HSb.out])
        obtain ⟨W4, hW4⟩ : ∃ W4, Wb.alloc (.cells #[.int .i64 y.f0.f0, .int .i64 y.f0.f1, .int .i64 y.f0.f2, .int .i64 y.f1, .int .i64 y.f2, .int .i64 k, .bool y.f4] 25) = W4 := ⟨_, rfl⟩
        obtain ⟨gs, hgs⟩ : ∃ gs, Wb.heap.size = gs := ⟨_, rfl⟩
        rw [hW4] at HM4 HI4 HQ4 HB4 HC4 HS4
        rw [hgs] at HC4
        have HSg : Hid (g ≤ W4.heap.size) := hide (by have := HB4.out.size; have := HG.out; omega)
        have HFR : Hid (∀ b, (Value.slice Ai k ci).ownBlock = some b → b ≠ gm ∧ b < W4.heap.size) := hide (fun b hb => ⟨HNa.out b hb, (HI4.out.blk b hb).2⟩)
        clear HQa HIa HMa HBa HSa HQb HIb HMb HBb HNa HNq
        have hll : ((tag l0).take k).length = k := by simp [tag]; omega
        have HLL := hide hll
        clear hll
        clear HI HQ HB
        go_wp2_with ((with_reducible refine gate_builtin (b := .append) (xs := #[.tmp 31, .tmp 33]) rfl ?_); at_builtin; refine wpList_plain (by rfl) (fun K hK => ?_); refine wp1_append flatM rfl k25_open (.tmp 31) (.tmp 33) 26 rfl zM 56 Try.underlying26 infoM rfl _ (by rfl) HI4.out _ _ _ [retag k y] (by rfl) HC4.out (by omega) ?aL HSg.out ?_; (case aL => rw [HLL.out]; have := HN.out; simp only [List.length_singleton]; omega); intro A' m' c' w5 hm ho hg hblk; have hm2 : m' = k + 1 := (by rw [hm, HLL.out]; rfl); subst hm2; clear hm; have HM5 := hide (Blk.grown HM4.out hg (fun e => (HFR.out _ e.symm).1 rfl)); have x0 : w5.cell? ⟨gm, 0, none⟩ = some (.int .i64 y.f0.f0) := HM5.out.cell 0; have x1 : w5.cell? ⟨gm, 1, none⟩ = some (.int .i64 y.f0.f1) := HM5.out.cell 1; have x2 : w5.cell? ⟨gm, 2, none⟩ = some (.int .i64 y.f0.f2) := HM5.out.cell 2; have x3 : w5.cell? ⟨gm, 3, none⟩ = some (.int .i64 y.f1) := HM5.out.cell 3; have x4 : w5.cell? ⟨gm, 4, none⟩ = some (.int .i64 y.f2) := HM5.out.cell 4; have x5 : w5.cell? ⟨gm, 5, none⟩ = some (.int .i64 k) := HM5.out.cell 5; have x6 : w5.cell? ⟨gm, 6, none⟩ = some (.bool y.f4) := HM5.out.cell 6; have HO5 := hide ho; have HG5 := hide hg; have HBk5 := hide hblk; clear ho hg hblk; refine hK _ _ ?_)
        have ho := HO5.out
        have hg := HG5.out
        have hblk := HBk5.out
        have HI5 : Hid (OwnM w5 g (.slice A' (k + 1) c') ((tag l0).take (k + 1))) := hide (by rw [HTG.out]; exact ho)
        have HQ5 : Hid (QAt w5 g g (.slice A lq.length c) lq) := hide ⟨Blk.grown HQ4.out.blk hg (fun e => by have := (HI4.out.blk _ e.symm).1; have := own_blk_ne HI4.out HQ4.out.blk (by decide); exact this e.symm), HQ4.out.own.move (fun b hb => hg.block b (HQ4.out.own.blk b hb).2 (fun e => HD.out b e.symm hb))⟩
        have HB5 := hide (HB4.out.grown hg HB4.out.size (fun b e => by have := (HI4.out.blk b e).1; have := HG.out; omega))
        have HD5 : Hid (∀ b, (Value.slice A' (k + 1) c').ownBlock = some b → (Value.slice A lq.length c).ownBlock ≠ some b ∧ b < w5.heap.size) := hide (fun b hb => ⟨fun hb2 => by
          rcases hblk with q | q
          · exact HD.out b (q.symm.trans hb) hb2
          · have q2 := q.symm.trans hb
            injection q2 with q3
            have := (HQ4.out.own.blk b hb2).2
            omega, (ho.blk b hb).2⟩)
        clear ho hg hblk HI4 HQ4 HB4 HM4 HC4 HSg HFR
        have hln : lq.length = k := by rw [HP.out.length_eq]; exact HLL.out
        have hnew : ∀ x ∈ lq, ¬ isOf (retag k y).f0.f1 (retag k y).f3 x := fun x hx hq => by
          have h1 := HP.out.mem_iff.1 hx
          obtain ⟨j, hj, hje⟩ := List.getElem_of_mem h1
          have hjk : j < k := by rw [HLL.out] at hj; exact hj
          have h2 : x.f3 = (j : Int) := by rw [← hje, List.getElem_take]; exact tag_get l0 j _
          have h3 : x.f3 = (k : Int) := hq.2
          omega
        have hPu := push_new w5 g g A c lq (retag k y) HQ5.out (by have := HN.out; omega) (by have := HQ5.out.blk.lt; omega) hnew
        have HLq := hide hln
        have HPp := hide (pushL_perm lq (retag k y))
        have HHp2 := hide (hq_push HHp.out (retag k y))
        change Calls Try.prog _ _ w5 (Go.Proofs.Ytipgigbnfdgfmaa.HQ.Left w5 g g (.slice A lq.length c) (pushL lq (retag k y)) (.int .i64 0)) at hPu
        obtain ⟨lq2, hlq2⟩ : ∃ lq2, pushL lq (retag k y) = lq2 := ⟨_, rfl⟩
        rw [hlq2] at hPu HPp HHp2
        have HPu : Hid (Calls Try.prog 9 #[.pointer (some ⟨g, 0, none⟩), .agg #[.int .i64 y.f0.f0, .int .i64 y.f0.f1, .int .i64 y.f0.f2, .int .i64 y.f1, .int .i64 y.f2, .int .i64 k, .bool y.f4]] w5 (Go.Proofs.Ytipgigbnfdgfmaa.HQ.Left w5 g g (.slice A lq.length c) lq2 (.int .i64 0))) := hide hPu
        clear hln hnew hPu hlq2
        refine HPu.out.mono ?_
        rintro e w6 ⟨rfl, A6, c6, hq6, ho6, hn6⟩
        have HI6 := hide (HI5.out.only ho6 (fun b hb e => by
          rcases e with e | e
          · exact (own_blk_ne HI5.out HQ5.out.blk (by decide)) (by rw [← e]; exact hb)
          · exact (HD5.out b hb).1 e))
        have HB6 := hide (HB5.out.trans (ho6.below HB5.out.size (fun b e => by
          rcases e with e | e
          · have := HG.out; omega
          · have := (HQ5.out.own.blk b e).1; have := HG.out; omega)))
        have HD6 : Hid (∀ b, (Value.slice A' (k + 1) c').ownBlock = some b → (Value.slice A6 lq2.length c6).ownBlock ≠ some b) := hide (fun b hb hb2 => by
          rcases hn6 b hb2 with q | q
          · exact (HD5.out b hb).1 q
          · have := (HD5.out b hb).2; omega)
        go_wp2_with fail
        go_roundw
        case rel => exact ⟨k + 1, A6, c6, lq2, A', c', by go_num, rfl, by omega, hide hq6, HI6, hide (HPp.out.trans (by rw [HTG.out]; exact (HP.out.cons _).trans (List.perm_append_comm (l₁ := [retag k y])))), HHp2, HD6, HB6⟩
        case measure => simp [intOf]; omega
      · have b1 : ¬ (k : Int) < (n : Int) := by omega
        obtain rfl : k = n := by omega
        obtain ⟨S, hS⟩ : ∃ S, (tag l0).take k = S := ⟨_, rfl⟩
        have hll : ((tag l0).take k).length = k := by have := HN.out; simp [tag]; omega
        rw [hS] at hll HI HP
        obtain ⟨Aj, cj, hvj, hcj, hCj, _⟩ := HI.out.reads flatM rfl k25_mk
        injection hvj with e1 e2 e3
        subst e1 e3
        have HSo := hide (sorted_call Ai ci S hcj (by rw [hll]; have := HN.out; omega) wr hCj)
        rw [hll] at HSo
        clear e2
        have HU : Hid (∀ x ∈ S, ∀ y ∈ S, x.f3 = y.f3 → x = y) := hide (fun x hx y hy e => by
          rw [← hS] at hx hy
          obtain ⟨i, hi, rfl⟩ := List.getElem_of_mem hx
          obtain ⟨j, hj, rfl⟩ := List.getElem_of_mem hy
          rw [List.getElem_take, List.getElem_take] at e
          rw [tag_get, tag_get] at e
          have : i = j := by omega
          subst this
          rfl)
        have HLL := hide hll
        clear hS hll hCj hcj hk hlt b1
        go_wp2_with fail
        refine HSo.out.mono ?_
        rintro e w4 ⟨vS, rfl, hoS, hbS⟩
        obtain ⟨As, cs, hvs, _, _⟩ := hoS.slice
        subst hvs
        have HD4 : Hid (∀ b, (Value.slice As (isort befM S).length cs).ownBlock = some b → (Value.slice A lq.length c).ownBlock ≠ some b) := hide (fun b hb hb2 => by have h1 := (hoS.blk b hb).1; have h2 := (HQ.out.own.blk b hb2).2; omega)
        have HQ4 := hide (HQ.out.below hbS)
        have HB4 := hide (below_step HB.out hbS)
        have HW4 := hide hoS
        have HP4 : Hid (lq.Perm ((isort befM S).drop 0)) := hide (HP.out.trans (perm_isort S).symm)
        have HU4 : Hid (∀ x ∈ isort befM S, ∀ y ∈ isort befM S, x.f3 = y.f3 → x = y) := hide (fun x hx y hy e => HU.out x ((perm_isort S).mem_iff.1 hx) y ((perm_isort S).mem_iff.1 hy) e)
        have HSr := hide (srt_isort weakM S)
        have HRl : Hid ((isort befM S).length = k) := hide (by rw [length_isort]; exact HLL.out)
        obtain ⟨R0, hR0⟩ : ∃ R0, isort befM S = R0 := ⟨_, rfl⟩
        obtain ⟨bw, hbw⟩ : ∃ bw, wr.heap.size = bw := ⟨_, rfl⟩
        rw [hR0] at HD4 HW4 HP4 HU4 HSr HRl ⊢
        rw [hbw] at HW4
        clear hR0 hbw hoS hbS HSo HU HP HQ HI HD HB HLL
        rw [HRl.out]
        rw [HRl.out] at HD4 
        go_wp2_with fail
        go_loopw [9] (fun iv wr => ∃ (i : Nat) (A : Option Addr) (c : Nat) (lq : List M), iv = .int .i64 i ∧ i ≤ k ∧ Hid (QAt wr g g (.slice A lq.length c) lq) ∧ Hid (OwnM wr bw (.slice As R0.length cs) R0) ∧ Hid (lq.Perm (R0.drop i)) ∧ Hid (Hq lq) ∧ Hid (∀ b, (Value.slice As k cs).ownBlock = some b → (Value.slice A lq.length c).ownBlock ≠ some b) ∧ Hid (Below w.heap.size w wr)) (fun iv _ => k - (intOf iv).toNat)
        case atStart => exact ⟨0, A, c, lq, rfl, Nat.zero_le _, HQ4, HW4, HP4, HHp, HD4, HB4⟩
        case round =>
          obtain ⟨i, A, c, lq, rfl, hi, HQ, HW, HP, HHq, HD, HB⟩ := hrel
          clear HQ4 HW4 HP4 HHp HD4 HB4
          have hk5 : (k : Int) ≤ 500 := by have := HN.out; omega
          by_cases hlt : i < k
          · have t1 : (i : Int) < (k : Int) := by omega
            have hir : i < R0.length := by rw [HRl.out]; exact hlt
            obtain ⟨z, rest, hzr⟩ : ∃ z rest, lq = z :: rest := by
              cases lq with
              | nil => have := HP.out.length_eq; simp at this; omega
              | cons z rest => exact ⟨z, rest, rfl⟩
            subst hzr
            obtain ⟨hz, hp2⟩ := pick HHq.out HP.out HSr.out HU4.out hir
            have HP2 := hide hp2
            have HHq2 := hide (hq_cut HHq.out 0 (by simp))
            have hlen2 : (cutL (z :: rest) 0).length = k - i - 1 := by rw [hp2.length_eq, List.length_drop, HRl.out]; omega
            have hlz : (z :: rest).length ≤ 16384 := by rw [HP.out.length_eq, List.length_drop, HRl.out]; omega
            obtain ⟨Aw, cw, hvw, _, hCw, _⟩ := HW.out.reads flatM rfl k25_mk
            cases hvw
            have HPo := hide (pop_some wr g g A c z rest HQ.out hlz)
            have HQ0 := hide HQ.out
            go_wp2_with fail
            refine HPo.out.mono ?_
            rintro e w5 ⟨rfl, hq5, ho5⟩
            have HW5 : Hid (OwnM w5 bw (.slice As R0.length cs) R0) := hide (HW.out.only ho5 (fun b hb e => by
              rcases e with e | e
              · exact own_blk_ne HW.out HQ0.out.blk (by decide) (by rw [← e]; exact hb)
              · exact HD.out b (by cases As <;> exact hb) e))
            have HB5 := hide (HB.out.trans (ho5.below HB.out.size (fun b e => by
              rcases e with e | e
              · have := HG.out; omega
              · have := (HQ0.out.own.blk b e).1; have := HG.out; omega)))
            have HQ5 := hide hq5
            clear hCw hq5 ho5 HPo HQ HQ0 HW HB hp2 HP HHq
            rename_i K1 h1 K2 h2
            have HK := hide h1
            clear h1
            go_wp2_with fail
            have HQ6 := hide (HQ5.out.alloc (.cells #[.int .i64 z.f0.f0, .int .i64 z.f0.f1, .int .i64 z.f0.f2, .int .i64 z.f1, .int .i64 z.f2, .int .i64 z.f3, .bool z.f4] 25))
            have HW6 := hide (HW5.out.alloc (.cells #[.int .i64 z.f0.f0, .int .i64 z.f0.f1, .int .i64 z.f0.f2, .int .i64 z.f1, .int .i64 z.f2, .int .i64 z.f3, .bool z.f4] 25))
            have HM6 := hide (Blk.new w5 25 #[.int .i64 z.f0.f0, .int .i64 z.f0.f1, .int .i64 z.f0.f2, .int .i64 z.f1, .int .i64 z.f2, .int .i64 z.f3, .bool z.f4])
            have HB6 := hide (HB5.out.alloc HB5.out.size (.cells #[.int .i64 z.f0.f0, .int .i64 z.f0.f1, .int .i64 z.f0.f2, .int .i64 z.f1, .int .i64 z.f2, .int .i64 z.f3, .bool z.f4] 25))
            generalize w5.alloc (.cells #[.int .i64 z.f0.f0, .int .i64 z.f0.f1, .int .i64 z.f0.f2, .int .i64 z.f1, .int .i64 z.f2, .int .i64 z.f3, .bool z.f4] 25) = w6 at HQ6 HW6 HM6 HB6 ⊢
            generalize w5.heap.size = gm at HM6 ⊢
            refine HK.out _ _ ?_
            clear HK K1 HQ5 HW5 HB5
            have m0 : w6.cell? ⟨gm, 0, none⟩ = some (.int .i64 z.f0.f0) := HM6.out.cell 0
            have m1 : w6.cell? ⟨gm, 1, none⟩ = some (.int .i64 z.f0.f1) := HM6.out.cell 1
            have m2 : w6.cell? ⟨gm, 2, none⟩ = some (.int .i64 z.f0.f2) := HM6.out.cell 2
            have m3 : w6.cell? ⟨gm, 3, none⟩ = some (.int .i64 z.f1) := HM6.out.cell 3
            have m4 : w6.cell? ⟨gm, 4, none⟩ = some (.int .i64 z.f2) := HM6.out.cell 4
            have m5 : w6.cell? ⟨gm, 5, none⟩ = some (.int .i64 z.f3) := HM6.out.cell 5
            have m6 : w6.cell? ⟨gm, 6, none⟩ = some (.bool z.f4) := HM6.out.cell 6
            obtain ⟨Av, cv, hvv, _, hCv, _⟩ := HW6.out.reads flatM rfl k25_mk
            injection hvv with e1 e2 e3
            subst e1 e3
            clear e2
            obtain ⟨ad, rfl, q0, q1, q2, q3, q4, q5, q6⟩ := at_S25 hCv hir
            rw [hz] at q0 q1 q2 q3 q4 q5 q6
            obtain ⟨d, hd⟩ : ∃ d, k - i - 1 = d := ⟨_, rfl⟩
            have hdI : (k : Int) - (i : Int) - 1 = (d : Int) := by omega
            have HLe : Hid (∀ nq, Calls Try.prog 10 #[.pointer (some ⟨g, 0, none⟩)] (w6.drewN nq) fun e w'' => e = .returned (.int .i64 (d : Nat)) ∧ ∃ m, w'' = w6.drewN m) := hide (fun nq => Calls.quiet_of_same (n := nq) (by have := len_call g (w6.drewN nq) g A c _ (HQ6.out.drewN nq); rw [hlen2, hd] at this; exact this))
            have n1 := eqM_refl z
            unfold eqM at n1
            clear hCv hz hlz
            go_wp2_with fail
            refine wp_region_quiet_lit (by kernel_rfl) (Lex.lexB_of _ (by kernel_rfl) (by kernel_rfl)) ?_
            repeat (go_big_quiet_step ((go_at_call 10; exact HLe.out _)))
            refine wpQuiet_nil ?_
            intro _ hw'
            obtain ⟨nq, hw''⟩ := hw'
            subst hw''
            go_wp2_with fail
            go_roundw
            case rel => exact ⟨i + 1, _, _, _, by go_num, by omega, hide (HQ6.out.drewN nq), hide (HW6.out.drewN nq), HP2, HHq2, hide (fun b hb e => HD.out b hb (by cases A <;> exact e)), hide (below_drewN HB6.out nq)⟩
            case measure => simp [intOf]; omega
          · have t1 : ¬ (i : Int) < (k : Int) := by omega
            have hil : i = k := by omega
            have hnil : lq = [] := by
              have := HP.out.length_eq
              rw [List.length_drop, HRl.out, hil, Nat.sub_self] at this
              exact List.eq_nil_of_length_eq_zero this
            subst hnil
            subst hil
            have HPo := hide (pop_none wr g g A c HQ.out)
            unfold zA at HPo
            go_wp2_with fail
            refine HPo.out.mono ?_
            rintro e w5 ⟨rfl, hb5⟩
            have HB5 := hide (below_step HB.out hb5)
            clear hb5 HPo
            go_wp2_with fail
            go_ret
            exact ⟨rfl, HB5.out.alloc HB5.out.size _⟩
end Go.Proofs.Ytipgigbnfdgfmaa.heapOrder
