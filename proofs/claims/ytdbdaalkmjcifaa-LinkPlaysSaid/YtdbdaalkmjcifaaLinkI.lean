/- The contract of link's Take, for every way. No law is proved here. -/
import Derived.Test.YtdbdaalkmjcifaaLinkH
set_option linter.unusedVariables false
set_option linter.unusedSimpArgs false
namespace Go.Proofs.Ytdbdaalkmjcifaa.Link
open Go.Proofs Go.RowKit Go.Sort Go.Proofs.Ytdbdaalkmjcifaa.Types Go.Proofs.Ytdbdaalkmjcifaa.Heap Go.Proofs.Ytdbdaalkmjcifaa.Row Go.Proofs.YtdbdaalkmjcifaaW.PrintWords Go.Proofs.YtdbdaalkmjcifaaW.PrintLast Go.Proofs.YtdbdaalkmjcifaaW.PrintMore
set_option maxHeartbeats 8000000 in
set_option maxRecDepth 100000 in
theorem take_call (w : World) (base p : Nat) (L : Lk) (most : Int) (A : Option Addr) (c : Nat) (l : List Pc) (n : Int) (h : WayAt tW w base p L most (.slice A l.length c) l) (hm : most ≠ 0) (hbase : base ≤ w.heap.size) (hl : l.length * 64 ≤ 140737488355328) (j : Nat) (x : Pc) (hx : l[j]? = some x) (hp : plc L n l.length = j) :
    Calls Try.prog 17 #[.pointer (some ⟨p, 0, none⟩), .int .i64 n] w (Left tW w base p L most (.slice A l.length c) (l.eraseIdx j) (.tuple #[.agg (c35 x).toArray, .int .i64 0])) := by
  obtain ⟨hj, hx⟩ := List.getElem?_eq_some_iff.1 hx
  have hu35 := Try.underlying35
  have hu33 := Try.underlying33
  have hu31 := Try.underlying31
  have HB0 : Hid (Below w.heap.size w (w.alloc (.cells (c35 z35).toArray 35))) := hide ((Below.refl w.heap.size w).alloc (Nat.le_refl _) _)
  have HA := hide (fun W hW => at_call W base p L most A c l n hW hm (by omega) (by omega))
  rw [hp] at HA
  have HW := hide h
  have HWx := hide (h.alloc (.cells (c35 z35).toArray 35))
  have HJ := hide hj
  have HX : Hid (∀ h, l[j]'h = x) := hide (fun _ => hx)
  have b1 : (j : Int) < (l.length : Int) := by omega
  have HL := hide hl
  have HBase := hide hbase
  obtain ⟨Q, hQ⟩ : ∃ Q, Left tW w base p L most (.slice A l.length c) (l.eraseIdx j) (.tuple #[.agg (c35 x).toArray, .int .i64 0]) = Q := ⟨_, rfl⟩
  rw [hQ]
  have HQ := hide hQ
  clear h hp hx hm hl hj hQ hbase
  unfold c35 at HB0 HWx
  go_enter Try.func17, Try.ntmps17
  go_wp2_with fail
  have HN0 := hide (Blk.new w 35 #[.int .i64 0, .int .i64 0, .int .i64 0, .int .i64 0, .int .i64 0, .int .i64 0, .bool false, .int .i64 0])
  refine (HA.out _ HWx.out).mono ?_
  rintro e w1 ⟨rfl, hb1⟩
  have HB1 := hide (below_step HB0.out hb1)
  have HN1 := hide (HN0.out.below' hb1)
  have HW1 := hide (HWx.out.below hb1)
  have c5 := HW1.out.c5
  clear hb1 HN0 HB0 HWx HA
  obtain ⟨A', c', hv, hlc, hC, _⟩ := HW1.out.own.reads flatP rfl k35_mk
  cases hv
  obtain ⟨ad, hA, q0, q1, q2, q3, q4, q5, q6, q7⟩ := at_S35 hC HJ.out
  cases hA
  rw [HX.out HJ.out] at q0 q1 q2 q3 q4 q5 q6 q7
  have HC1 := hide hC
  have HLc := hide hlc
  clear hC hlc
  go_wp2_with fail
  have HB2 := hide (HB1.out.alloc HB1.out.size (.cells #[.int .i64 x.f0.f0.f0, .int .i64 x.f0.f0.f1, .int .i64 x.f0.f0.f2, .int .i64 x.f0.f1, .int .i64 x.f0.f2, .int .i64 x.f0.f3, .bool x.f0.f4, .int .i64 x.f1] 35))
  have HW2 := hide (HW1.out.alloc (.cells #[.int .i64 x.f0.f0.f0, .int .i64 x.f0.f0.f1, .int .i64 x.f0.f0.f2, .int .i64 x.f0.f1, .int .i64 x.f0.f2, .int .i64 x.f0.f3, .bool x.f0.f4, .int .i64 x.f1] 35))
  have HN2 := hide (HN1.out.alloc (.cells #[.int .i64 x.f0.f0.f0, .int .i64 x.f0.f0.f1, .int .i64 x.f0.f0.f2, .int .i64 x.f0.f1, .int .i64 x.f0.f2, .int .i64 x.f0.f3, .bool x.f0.f4, .int .i64 x.f1] 35))
  have HC2 := hide (C_below HC1.out ((Below.refl w1.heap.size w1).alloc (Nat.le_refl _) (.cells #[.int .i64 x.f0.f0.f0, .int .i64 x.f0.f0.f1, .int .i64 x.f0.f0.f2, .int .i64 x.f0.f1, .int .i64 x.f0.f2, .int .i64 x.f0.f3, .bool x.f0.f4, .int .i64 x.f1] 35)))
  have HX2 := hide (Blk.new w1 35 #[.int .i64 x.f0.f0.f0, .int .i64 x.f0.f0.f1, .int .i64 x.f0.f0.f2, .int .i64 x.f0.f1, .int .i64 x.f0.f2, .int .i64 x.f0.f3, .bool x.f0.f4, .int .i64 x.f1])
  have HG : Hid (w.heap.size ≤ w1.heap.size) := hide HB1.out.size
  clear HB1 HW1 HN1 HC1 q0 q1 q2 q3 q4 q5 q6 q7 c5
  generalize w1.alloc (.cells #[.int .i64 x.f0.f0.f0, .int .i64 x.f0.f0.f1, .int .i64 x.f0.f0.f2, .int .i64 x.f0.f1, .int .i64 x.f0.f2, .int .i64 x.f0.f3, .bool x.f0.f4, .int .i64 x.f1] 35) = W at HB2 HW2 HN2 HC2 HX2 ⊢
  generalize w1.heap.size = gx at HX2 HG ⊢
  have HOW : Hid (∀ b, (Value.slice (some ad) l.length c).ownBlock = some b → b < w.heap.size) := hide (fun b hb => (HW.out.own.blk b hb).2)
  have c5a : W.drew.cell? ⟨p, 5, none⟩ = some (.slice (some ad) l.length c) := HW2.out.drew.c5
  have hbs : base ≤ W.heap.size := Nat.le_trans HBase.out HB2.out.size
  have d1 : (j : Int) ≤ (c : Int) := by have := HLc.out; omega
  obtain ⟨j1, hj1⟩ : ∃ j1, j + 1 = j1 := ⟨_, rfl⟩
  have d4 : (l.length : Int) ≤ 2199023255552 := by have := HL.out; omega
  have d2 : (j1 : Int) ≤ (l.length : Int) := by omega
  have wr : IntKind.i64.wrap ((j : Int) + 1) = (j1 : Int) := by
    have : wrap64 ((j : Int) + 1) = (j : Int) + 1 := by unfold wrap64; omega
    rw [i64_w, this]
    omega
  have d3 : (l.length : Int) ≤ (c : Int) := by have := HLc.out; omega
  have HOt := hide (Own.take HW2.out.own.drew flatP (m := j) (by omega))
  rename_i K1 h1
  have HK := hide h1
  clear h1
  go_region_law ((first
    | (refine step_append flatP rfl k35_open rfl (.tmp 32) (.tmp 39) 50 rfl zP 64 Try.underlying50 infoP rfl _ (by rfl) HOt.out _ _ _ (l.drop j1) (by rfl) (C_drop HC2.out rfl (by omega) HLc.out) (by omega) (by have := HL.out; simp only [List.length_take, List.length_drop]; omega) hbs ?_
       intro A' m' c' w5 hm' ho hg hblk
       have HP5 := hide (Blk.grown HW2.out.drew.blk hg (fun e => HW2.out.ne p e.symm rfl))
       have HN5 := hide (Blk.grown HN2.out.drew hg (fun e => Nat.lt_irrefl _ (HOW.out _ e.symm)))
       have HX5 := hide (Blk.grown HX2.out.drew hg (fun e => by have := HOW.out _ e.symm; have := HG.out; omega))
       have HOn5 := hide ((only_of_below HB2.out (fun b => b = p ∨ some b = (Value.slice (some ad) l.length c).ownBlock)).drew.trans (only_of_grown (S := fun b => b = p ∨ some b = (Value.slice (some ad) l.length c).ownBlock) hg (fun i e => .inl (.inr e.symm))))
       have HBk5 := hide (hblk)
       have HOw5 := hide ho
       have HM5 := hide hm'
       clear hblk ho hg hm'
       have k5 : w5.cell? ⟨p, 5, none⟩ = some (.slice (some ad) l.length c) := HP5.out.cell 5
       have k5f : w5.frozen? ⟨p, 5, none⟩ = false := HP5.out.frozen 5)))
  all_goals (
    have hl' : m' = (l.eraseIdx j).length := by rw [HM5.out, List.length_take, List.length_drop, List.length_eraseIdx]; have := HJ.out; split <;> omega
    have he' : l.take j ++ l.drop j1 = l.eraseIdx j := by rw [← hj1, List.eraseIdx_eq_take_drop_succ]
    rw [he'] at HOw5
    subst hl'
    have HNe : Hid (∀ b, (Value.slice A' (l.eraseIdx j).length c').ownBlock = some b → b ≠ p ∧ (some b = (Value.slice (some ad) l.length c).ownBlock ∨ w.heap.size ≤ b) ∧ b ≠ w.heap.size) := hide (fun b hb => by
      rcases HBk5.out with q | q
      · exact ⟨HW2.out.ne b (q.symm.trans hb), .inl (hb.symm.trans q), by have := HOW.out b (q.symm.trans hb); omega⟩
      · have q2 := q.symm.trans hb
        injection q2 with q3
        have q5 : W.heap.size = b := q3
        have q6 := HB2.out.size
        have q7 := HW2.out.blk.lt
        have q8 := HN2.out.lt
        exact ⟨by omega, .inr (by omega), by omega⟩)
    have HO6 := hide (HOn5.out.setCell (p := ⟨p, 5, none⟩) (.inl (.inl rfl)) (.slice A' (l.eraseIdx j).length c'))
    have HP6 := hide (Blk.set_ HP5.out 5 (.slice A' (l.eraseIdx j).length c'))
    have HR6 := hide (HOw5.out.only (S := fun b => b = p) ((Only.refl w5 (fun b => b = p)).setCell (p := ⟨p, 5, none⟩) (.inl rfl) (.slice A' (l.eraseIdx j).length c')) (fun b hb e => (HNe.out b hb).1 e))
    have hpg : w.heap.size ≠ p := by have := HW.out.blk.lt; omega
    have hpx : gx ≠ p := by have := HW.out.blk.lt; have := HG.out; omega
    have HN6 := hide (Blk.far HN5.out (p := ⟨p, 5, none⟩) hpg (.slice A' (l.eraseIdx j).length c'))
    have HX6 := hide (Blk.far HX5.out (p := ⟨p, 5, none⟩) hpx (.slice A' (l.eraseIdx j).length c'))
    generalize w5.setCell ⟨p, 5, none⟩ (.slice A' (l.eraseIdx j).length c') = w6 at HO6 HP6 HR6 HN6 HX6 ⊢
    refine HK.out _ _ ?_
    clear HK K1 HP5 HN5 HX5 HOn5 HBk5 HOw5 HM5 k5 k5f c5a HOt HB2 HW2 HN2 HC2 HX2
    obtain ⟨x0, x1, x2, x3, x4, x5, x6, x7⟩ := blk8 HX6.out
    have z0 : w6.cell? ⟨w.heap.size, 0, none⟩ = some (.int .i64 0) := HN6.out.cell 0
    have f0 : w6.frozen? ⟨w.heap.size, 0, none⟩ = false := HN6.out.frozen 0
    have z1 : w6.cell? ⟨w.heap.size, 1, none⟩ = some (.int .i64 0) := HN6.out.cell 1
    have f1 : w6.frozen? ⟨w.heap.size, 1, none⟩ = false := HN6.out.frozen 1
    have z2 : w6.cell? ⟨w.heap.size, 2, none⟩ = some (.int .i64 0) := HN6.out.cell 2
    have f2 : w6.frozen? ⟨w.heap.size, 2, none⟩ = false := HN6.out.frozen 2
    have z3 : w6.cell? ⟨w.heap.size, 3, none⟩ = some (.int .i64 0) := HN6.out.cell 3
    have f3 : w6.frozen? ⟨w.heap.size, 3, none⟩ = false := HN6.out.frozen 3
    have z4 : w6.cell? ⟨w.heap.size, 4, none⟩ = some (.int .i64 0) := HN6.out.cell 4
    have f4 : w6.frozen? ⟨w.heap.size, 4, none⟩ = false := HN6.out.frozen 4
    have z5 : w6.cell? ⟨w.heap.size, 5, none⟩ = some (.int .i64 0) := HN6.out.cell 5
    have f5 : w6.frozen? ⟨w.heap.size, 5, none⟩ = false := HN6.out.frozen 5
    have z6 : w6.cell? ⟨w.heap.size, 6, none⟩ = some (.bool false) := HN6.out.cell 6
    have f6 : w6.frozen? ⟨w.heap.size, 6, none⟩ = false := HN6.out.frozen 6
    have z7 : w6.cell? ⟨w.heap.size, 7, none⟩ = some (.int .i64 0) := HN6.out.cell 7
    have f7 : w6.frozen? ⟨w.heap.size, 7, none⟩ = false := HN6.out.frozen 7
    go_wp2_with fail
    all_goals (
      have hs := (((((((((Only.refl w6 (fun b => b = w.heap.size)).setCell (p := ⟨w.heap.size, 0, none⟩) (.inl rfl) (.int .i64 x.f0.f0.f0)).setCell (p := ⟨w.heap.size, 1, none⟩) (.inl rfl) (.int .i64 x.f0.f0.f1)).setCell (p := ⟨w.heap.size, 2, none⟩) (.inl rfl) (.int .i64 x.f0.f0.f2)).setCell (p := ⟨w.heap.size, 3, none⟩) (.inl rfl) (.int .i64 x.f0.f1)).setCell (p := ⟨w.heap.size, 4, none⟩) (.inl rfl) (.int .i64 x.f0.f2)).setCell (p := ⟨w.heap.size, 5, none⟩) (.inl rfl) (.int .i64 x.f0.f3)).setCell (p := ⟨w.heap.size, 6, none⟩) (.inl rfl) (.bool x.f0.f4)).setCell (p := ⟨w.heap.size, 7, none⟩) (.inl rfl) (.int .i64 x.f1))
      have hn := (Blk.set_ (Blk.set_ (Blk.set_ (Blk.set_ (Blk.set_ (Blk.set_ (Blk.set_ (Blk.set_ HN6.out 0 (.int .i64 x.f0.f0.f0)) 1 (.int .i64 x.f0.f0.f1)) 2 (.int .i64 x.f0.f0.f2)) 3 (.int .i64 x.f0.f1)) 4 (.int .i64 x.f0.f2)) 5 (.int .i64 x.f0.f3)) 6 (.bool x.f0.f4)) 7 (.int .i64 x.f1))
      have hrm : Hid (Left tW w base p L most (.slice (some ad) l.length c) (l.eraseIdx j) (.tuple #[.agg (c35 x).toArray, .int .i64 0]) (.returned (.tuple #[.agg (c35 x).toArray, .int .i64 0])) _) := hide ⟨rfl, A', c', ⟨HP6.out.only hs (fun q => hpg q.symm), HR6.out.only hs (fun b hb e => (HNe.out b hb).2.2 e), fun b hb => (HNe.out b hb).1⟩, HO6.out.step hs (fun i e hlt => by omega), fun b hb => (HNe.out b hb).2.1⟩
      rw [HQ.out] at hrm
      refine bodyPost_ret (v := .tuple #[.agg #[.int .i64 x.f0.f0.f0, .int .i64 x.f0.f0.f1, .int .i64 x.f0.f0.f2, .int .i64 x.f0.f1, .int .i64 x.f0.f2, .int .i64 x.f0.f3, .bool x.f0.f4, .int .i64 x.f1], .int .i64 0]) ?_ rfl hrm.out
      refine results_list (rs := [.cell 4 35, .tmp 5]) rfl (by simp) ?_
      exact Vals.cell w.heap.size 35 #[.int .i64 x.f0.f0.f0, .int .i64 x.f0.f0.f1, .int .i64 x.f0.f0.f2, .int .i64 x.f0.f1, .int .i64 x.f0.f2, .int .i64 x.f0.f3, .bool x.f0.f4, .int .i64 x.f1] (0, 0) _ rfl hn hu35 rfl (by kernel_rfl) (Vals.tmp Vals.nil)))
end Go.Proofs.Ytdbdaalkmjcifaa.Link
