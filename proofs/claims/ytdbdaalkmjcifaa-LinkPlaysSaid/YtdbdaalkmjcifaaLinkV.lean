/- The contracts of the reference's ways (isochronref11): Take. No law is proved here. -/
import Derived.Test.YtdbdaalkmjcifaaLinkS
set_option linter.unusedVariables false
set_option linter.unusedSimpArgs false
namespace Go.Proofs.Ytdbdaalkmjcifaa.Link
open Go.Proofs Go.RowKit Go.Sort Go.Proofs.Ytdbdaalkmjcifaa.Types Go.Proofs.Ytdbdaalkmjcifaa.Heap Go.Proofs.Ytdbdaalkmjcifaa.Row Go.Proofs.YtdbdaalkmjcifaaW.PrintWords Go.Proofs.YtdbdaalkmjcifaaW.PrintLast Go.Proofs.YtdbdaalkmjcifaaW.PrintMore
set_option maxHeartbeats 4000000 in
set_option maxRecDepth 100000 in
theorem rtake_none (w : World) (base p : Nat) (L : Lk) (most : Int) (A : Option Addr) (c : Nat) (n : Int) (h : WayAt tR w base p L most (.slice A 0 c) []) :
    Calls Try.prog 22 #[.pointer (some ⟨p, 0, none⟩), .int .i64 n] w fun e w' => e = .returned (.tuple #[.agg (c35 z35).toArray, .int .i64 6]) ∧ Below w.heap.size w w' := by
  have hu35 := Try.underlying35
  have hu33 := Try.underlying33
  have hu31 := Try.underlying31
  have HB0 : Hid (Below w.heap.size w (w.alloc (.cells #[.int .i64 0, .int .i64 0, .int .i64 0, .int .i64 0, .int .i64 0, .int .i64 0, .bool false, .int .i64 0] 35))) := hide ((Below.refl w.heap.size w).alloc (Nat.le_refl _) _)
  have HN0 := hide (Blk.new w 35 #[.int .i64 0, .int .i64 0, .int .i64 0, .int .i64 0, .int .i64 0, .int .i64 0, .bool false, .int .i64 0])
  have HA := hide (rpeek_none _ base p L most A c n (h.alloc (.cells #[.int .i64 0, .int .i64 0, .int .i64 0, .int .i64 0, .int .i64 0, .int .i64 0, .bool false, .int .i64 0] 35)))
  clear h
  unfold c35 at *
  go_enter Try.func22, Try.ntmps22
  go_wp2_with fail
  refine HA.out.mono ?_
  rintro e w1 ⟨rfl, hb1⟩
  have HB1 := hide (below_step HB0.out hb1)
  have HN1 := hide (HN0.out.below' hb1)
  clear hb1 HB0 HN0 HA
  obtain ⟨g, hg⟩ : ∃ g, w.heap.size = g := ⟨_, rfl⟩
  have HG := hide hg
  rw [hg] at HN1 ⊢
  clear hg
  have hz : c35 z35 = [.int .i64 0, .int .i64 0, .int .i64 0, .int .i64 0, .int .i64 0, .int .i64 0, .bool false, .int .i64 0] := rfl
  unfold c35 at hz
  rw [hz]
  rename_i K1 h1 K2 h2
  have HKc := hide h1
  clear h1
  go_wp2_with fail
  have HB2 := hide (HB1.out.alloc HB1.out.size (.cells #[.int .i64 0, .int .i64 0, .int .i64 0, .int .i64 0, .int .i64 0, .int .i64 0, .bool false, .int .i64 0] 35))
  have HN2 := hide (HN1.out.alloc (.cells #[.int .i64 0, .int .i64 0, .int .i64 0, .int .i64 0, .int .i64 0, .int .i64 0, .bool false, .int .i64 0] 35))
  generalize w1.alloc (.cells #[.int .i64 0, .int .i64 0, .int .i64 0, .int .i64 0, .int .i64 0, .int .i64 0, .bool false, .int .i64 0] 35) = w2 at HB2 HN2 ⊢
  refine HKc.out _ _ ?_
  clear HKc K1 HB1 HN1
  have z0 : w2.cell? ⟨g, 0, none⟩ = some (.int .i64 0) := HN2.out.cell 0
  have f0 : w2.frozen? ⟨g, 0, none⟩ = false := HN2.out.frozen 0
  have z1 : w2.cell? ⟨g, 1, none⟩ = some (.int .i64 0) := HN2.out.cell 1
  have f1 : w2.frozen? ⟨g, 1, none⟩ = false := HN2.out.frozen 1
  have z2 : w2.cell? ⟨g, 2, none⟩ = some (.int .i64 0) := HN2.out.cell 2
  have f2 : w2.frozen? ⟨g, 2, none⟩ = false := HN2.out.frozen 2
  have z3 : w2.cell? ⟨g, 3, none⟩ = some (.int .i64 0) := HN2.out.cell 3
  have f3 : w2.frozen? ⟨g, 3, none⟩ = false := HN2.out.frozen 3
  have z4 : w2.cell? ⟨g, 4, none⟩ = some (.int .i64 0) := HN2.out.cell 4
  have f4 : w2.frozen? ⟨g, 4, none⟩ = false := HN2.out.frozen 4
  have z5 : w2.cell? ⟨g, 5, none⟩ = some (.int .i64 0) := HN2.out.cell 5
  have f5 : w2.frozen? ⟨g, 5, none⟩ = false := HN2.out.frozen 5
  have z6 : w2.cell? ⟨g, 6, none⟩ = some (.bool false) := HN2.out.cell 6
  have f6 : w2.frozen? ⟨g, 6, none⟩ = false := HN2.out.frozen 6
  have z7 : w2.cell? ⟨g, 7, none⟩ = some (.int .i64 0) := HN2.out.cell 7
  have f7 : w2.frozen? ⟨g, 7, none⟩ = false := HN2.out.frozen 7
  go_wp2_with fail
  have hb := HB2.out.trans ((((((((((Only.refl w2 (fun b => b = g)).setCell (p := ⟨g, 0, none⟩) (.inl rfl) (.int .i64 0)).setCell (p := ⟨g, 1, none⟩) (.inl rfl) (.int .i64 0)).setCell (p := ⟨g, 2, none⟩) (.inl rfl) (.int .i64 0)).setCell (p := ⟨g, 3, none⟩) (.inl rfl) (.int .i64 0)).setCell (p := ⟨g, 4, none⟩) (.inl rfl) (.int .i64 0)).setCell (p := ⟨g, 5, none⟩) (.inl rfl) (.int .i64 0)).setCell (p := ⟨g, 6, none⟩) (.inl rfl) (.bool false)).setCell (p := ⟨g, 7, none⟩) (.inl rfl) (.int .i64 0)).below HB2.out.size (fun b hb => by have := HG.out; omega))
  have hn := (Blk.set_ (Blk.set_ (Blk.set_ (Blk.set_ (Blk.set_ (Blk.set_ (Blk.set_ (Blk.set_ HN2.out 0 (.int .i64 0)) 1 (.int .i64 0)) 2 (.int .i64 0)) 3 (.int .i64 0)) 4 (.int .i64 0)) 5 (.int .i64 0)) 6 (.bool false)) 7 (.int .i64 0))
  refine bodyPost_ret (v := .tuple #[.agg #[.int .i64 0, .int .i64 0, .int .i64 0, .int .i64 0, .int .i64 0, .int .i64 0, .bool false, .int .i64 0], .int .i64 6]) ?_ rfl ⟨rfl, hb⟩
  refine results_list (rs := [.cell 4 35, .tmp 5]) rfl (by simp) ?_
  exact Vals.cell g 35 #[.int .i64 0, .int .i64 0, .int .i64 0, .int .i64 0, .int .i64 0, .int .i64 0, .bool false, .int .i64 0] (0, 0) _ rfl hn hu35 rfl (by kernel_rfl) (Vals.tmp Vals.nil)
set_option maxHeartbeats 8000000 in
set_option maxRecDepth 100000 in
theorem rtake_call (w : World) (base p : Nat) (L : Lk) (most : Int) (A : Option Addr) (c : Nat) (l : List Pc) (n : Int) (h : WayAt tR w base p L most (.slice A l.length c) l) (hbase : base ≤ w.heap.size) (hl : l.length * 64 ≤ 140737488355328) (j : Nat) (x : Pc) (hx : l[j]? = some x) (hp : plc L n l.length = j) :
    Calls Try.prog 22 #[.pointer (some ⟨p, 0, none⟩), .int .i64 n] w (Left tR w base p L most (.slice A l.length c) (l.eraseIdx j) (.tuple #[.agg (c35 x).toArray, .int .i64 0])) := by
  have hu35 := Try.underlying35
  have hu33 := Try.underlying33
  have hu31 := Try.underlying31
  obtain ⟨hj, hx'⟩ := List.getElem?_eq_some_iff.1 hx
  have HH := hide h
  have HB0 : Hid (Below w.heap.size w (w.alloc (.cells #[.int .i64 0, .int .i64 0, .int .i64 0, .int .i64 0, .int .i64 0, .int .i64 0, .bool false, .int .i64 0] 35))) := hide ((Below.refl w.heap.size w).alloc (Nat.le_refl _) _)
  have HN0 := hide (Blk.new w 35 #[.int .i64 0, .int .i64 0, .int .i64 0, .int .i64 0, .int .i64 0, .int .i64 0, .bool false, .int .i64 0])
  have HW0 := hide (h.alloc (.cells #[.int .i64 0, .int .i64 0, .int .i64 0, .int .i64 0, .int .i64 0, .int .i64 0, .bool false, .int .i64 0] 35))
  have HPk := hide (fun W hW => rpeek_call W base p L most A c l n hW (by omega) j x hx hp)
  have HPl := hide (fun W hW => rplace_call W base p L most A c l n hW (by omega) (by omega))
  rw [hp] at HPl
  have HJ := hide hj
  have HL := hide hl
  have HBase := hide hbase
  have hlen0 : ((l.length : Int) == 0) = false := by rw [beq_eq_false_iff_ne]; omega
  have hlen1 : (l.length == 0) = false := by rw [beq_eq_false_iff_ne]; omega
  clear h hx hx' hp hj hl hbase
  unfold c35 at *
  go_enter Try.func22, Try.ntmps22
  go_wp2_with fail
  refine (HPk.out _ HW0.out).mono ?_
  rintro e w1 ⟨rfl, hb1⟩
  have HB1 := hide (below_step HB0.out hb1)
  have HN1 := hide (HN0.out.below' hb1)
  have HW1 := hide (HW0.out.below hb1)
  clear hb1 HB0 HN0 HW0 HPk
  obtain ⟨g, hg⟩ : ∃ g, w.heap.size = g := ⟨_, rfl⟩
  have HG := hide hg
  rw [hg] at HN1 ⊢
  clear hg
  rename_i K1 h1 K2 h2
  have HKc := hide h1
  clear h1
  go_wp2_with fail
  have HB2 := hide (HB1.out.alloc HB1.out.size (.cells #[.int .i64 x.f0.f0.f0, .int .i64 x.f0.f0.f1, .int .i64 x.f0.f0.f2, .int .i64 x.f0.f1, .int .i64 x.f0.f2, .int .i64 x.f0.f3, .bool x.f0.f4, .int .i64 x.f1] 35))
  have HN2 := hide (HN1.out.alloc (.cells #[.int .i64 x.f0.f0.f0, .int .i64 x.f0.f0.f1, .int .i64 x.f0.f0.f2, .int .i64 x.f0.f1, .int .i64 x.f0.f2, .int .i64 x.f0.f3, .bool x.f0.f4, .int .i64 x.f1] 35))
  have HW2 := hide (HW1.out.alloc (.cells #[.int .i64 x.f0.f0.f0, .int .i64 x.f0.f0.f1, .int .i64 x.f0.f0.f2, .int .i64 x.f0.f1, .int .i64 x.f0.f2, .int .i64 x.f0.f3, .bool x.f0.f4, .int .i64 x.f1] 35))
  have HX2 := hide (Blk.new w1 35 #[.int .i64 x.f0.f0.f0, .int .i64 x.f0.f0.f1, .int .i64 x.f0.f0.f2, .int .i64 x.f0.f1, .int .i64 x.f0.f2, .int .i64 x.f0.f3, .bool x.f0.f4, .int .i64 x.f1])
  generalize w1.alloc (.cells #[.int .i64 x.f0.f0.f0, .int .i64 x.f0.f0.f1, .int .i64 x.f0.f0.f2, .int .i64 x.f0.f1, .int .i64 x.f0.f2, .int .i64 x.f0.f3, .bool x.f0.f4, .int .i64 x.f1] 35) = w2 at HB2 HN2 HW2 HX2 ⊢
  have HGx : Hid (g ≤ w1.heap.size) := hide (by have := HB1.out.size; have := HG.out; omega)
  generalize w1.heap.size = gx at HX2 HGx ⊢
  refine HKc.out _ _ ?_
  clear HKc K1 HB1 HN1 HW1
  obtain ⟨A', c', hv, hlc, hC, _⟩ := HW2.out.own.reads flatP rfl k35_mk
  cases hv
  obtain ⟨ad, hA, _⟩ := at_S35 hC HJ.out
  subst hA
  have HC2 := hide hC
  have HLc := hide hlc
  clear hC hlc
  have d1 : (j : Int) ≤ (c : Int) := by have := HLc.out; have := HJ.out; omega
  obtain ⟨j1, hj1⟩ : ∃ j1, j + 1 = j1 := ⟨_, rfl⟩
  have d2 : (j1 : Int) ≤ (l.length : Int) := by have := HJ.out; omega
  have d3 : (l.length : Int) ≤ (c : Int) := by have := HLc.out; omega
  have d5 : (j : Int) ≤ (l.length : Int) := by have := HJ.out; omega
  have wr : IntKind.i64.wrap ((j : Int) + 1) = (j1 : Int) := by
    have h0 : wrap64 ((j : Int) + 1) = (j : Int) + 1 := by have := HL.out; have := HJ.out; unfold wrap64; omega
    rw [i64_w, h0]
    omega
  have E1 : Hid (OwnP (w2.alloc (.cells #[] 35)) w2.heap.size (.slice (some ⟨w2.heap.size, 0, none⟩) 0 0) []) := hide (Own.empty w2 _ _ (Nat.le_refl _))
  have BW1 : Hid (Below w2.heap.size w2 (w2.alloc (.cells #[] 35))) := hide ((Below.refl w2.heap.size w2).alloc (Nat.le_refl _) _)
  have S1 := hide (C_take (C_below HC2.out BW1.out) (m := j) (by have := HJ.out; omega))
  have c5e : (w2.alloc (.cells #[] 35)).cell? ⟨p, 5, none⟩ = some (.slice (some ad) l.length c) := (HW2.out.alloc _).c5
  have hpl : p < g := by have := HH.out.blk.lt; have := HG.out; omega
  have hpg : g ≠ p := by omega
  have hpg' : p ≠ g := by omega
  have hpx : gx ≠ p := by have := HGx.out; omega
  have hpx' : p ≠ gx := by have := HGx.out; omega
  have wr64 : wrap64 ((j : Int) + 1) = (j1 : Int) := by rw [← i64_w]; exact wr
  by_cases hkc : c = j1
  · have hz0 : l.length - j1 = 0 := by omega
    have hdr : l.drop j1 = [] := List.drop_of_length_le (by omega)
    have HE : Hid (([] : List Pc) ++ l.take j ++ [] = l.eraseIdx j) := hide (by rw [List.append_nil, List.nil_append, List.eraseIdx_eq_take_drop_succ, hj1, hdr, List.append_nil])
    have T2 : Hid (Kd.C k35 w2 (some ad) 0 ([] : List Pc)) := hide ⟨rfl, by omega, fun h => absurd h (by omega)⟩
    clear hdr
    go_wp2_with (first
      | (go_at_call 33; refine (HPl.out _ HW2.out).mono ?_; rintro e w3 ⟨rfl, hw⟩; subst hw)
      | ((with_reducible refine gate_builtin (b := .append) (xs := #[.tmp 23, .tmp 29]) rfl ?_); at_builtin; refine wp_append flatP rfl k35_open rfl (.tmp 23) (.tmp 29) 50 rfl zP 64 Try.underlying50 infoP rfl _ rfl E1.out _ _ _ (l.take j) rfl S1.out (by omega) ?aL ?aB ?_; (case aL => have := HL.out; have := HJ.out; first | (simp; done) | (simp; omega)); (case aB => exact BW1.out.size); intro v1 w4 ho hg; have E2 := hide ho; have BW2 := hide (BW1.out.grown hg BW1.out.size (fun b hb => (E1.out.blk b hb).1)); have c5f : w4.cell? ⟨p, 5, none⟩ = some (.slice (some ad) l.length c) := (HW2.out.below BW2.out).c5; clear ho hg E1 S1)
      | ((with_reducible refine gate_builtin (b := .append) (xs := #[.tmp 32, .tmp 39]) rfl ?_); at_builtin; refine wp_append flatP rfl k35_open rfl (.tmp 32) (.tmp 39) 50 rfl zP 64 Try.underlying50 infoP rfl _ rfl E2.out _ _ _ [] rfl (C_below T2.out BW2.out) (by omega) ?cL ?cB ?_; (case cL => have := HL.out; have := HJ.out; first | (simp; done) | (simp; omega)); (case cB => exact BW2.out.size); intro v2 w5 ho hg; rw [HE.out] at ho; obtain ⟨A4, c4, hv4, _, _⟩ := ho.slice; subst hv4; have E4 := hide ho; have BW4 := hide (BW2.out.grown hg BW2.out.size (fun b hb => (E2.out.blk b hb).1)); have c5g : w5.cell? ⟨p, 5, none⟩ = some (.slice (some ad) l.length c) := (HW2.out.below BW4.out).c5; have f5g : w5.frozen? ⟨p, 5, none⟩ = false := (HW2.out.below BW4.out).blk.frozen 5; obtain ⟨x0, x1, x2, x3, x4, x5, x6, x7⟩ := blk8 (HX2.out.below' BW4.out); have z0 : w5.cell? ⟨g, 0, none⟩ = some (.int .i64 0) := (HN2.out.below' BW4.out).cell 0; have f0 : w5.frozen? ⟨g, 0, none⟩ = false := (HN2.out.below' BW4.out).frozen 0; have z1 : w5.cell? ⟨g, 1, none⟩ = some (.int .i64 0) := (HN2.out.below' BW4.out).cell 1; have f1 : w5.frozen? ⟨g, 1, none⟩ = false := (HN2.out.below' BW4.out).frozen 1; have z2 : w5.cell? ⟨g, 2, none⟩ = some (.int .i64 0) := (HN2.out.below' BW4.out).cell 2; have f2 : w5.frozen? ⟨g, 2, none⟩ = false := (HN2.out.below' BW4.out).frozen 2; have z3 : w5.cell? ⟨g, 3, none⟩ = some (.int .i64 0) := (HN2.out.below' BW4.out).cell 3; have f3 : w5.frozen? ⟨g, 3, none⟩ = false := (HN2.out.below' BW4.out).frozen 3; have z4 : w5.cell? ⟨g, 4, none⟩ = some (.int .i64 0) := (HN2.out.below' BW4.out).cell 4; have f4 : w5.frozen? ⟨g, 4, none⟩ = false := (HN2.out.below' BW4.out).frozen 4; have z5 : w5.cell? ⟨g, 5, none⟩ = some (.int .i64 0) := (HN2.out.below' BW4.out).cell 5; have f5 : w5.frozen? ⟨g, 5, none⟩ = false := (HN2.out.below' BW4.out).frozen 5; have z6 : w5.cell? ⟨g, 6, none⟩ = some (.bool false) := (HN2.out.below' BW4.out).cell 6; have f6 : w5.frozen? ⟨g, 6, none⟩ = false := (HN2.out.below' BW4.out).frozen 6; have z7 : w5.cell? ⟨g, 7, none⟩ = some (.int .i64 0) := (HN2.out.below' BW4.out).cell 7; have f7 : w5.frozen? ⟨g, 7, none⟩ = false := (HN2.out.below' BW4.out).frozen 7; clear ho hg E2))
    have hB5 := below_step HB2.out BW4.out
    have hsz : base ≤ w3.heap.size := Nat.le_trans HBase.out HB2.out.size
    have hgl := HN2.out.lt
    have hown : ∀ b, (Value.slice A4 (l.eraseIdx j).length c4).ownBlock = some b → w3.heap.size ≤ b := fun b hb => (E4.out.blk b hb).1
    have hs := (((((((((Only.refl (w5.setCell ⟨p, 5, none⟩ (.slice A4 (l.eraseIdx j).length c4)) (fun b => b = g)).setCell (p := ⟨g, 0, none⟩) (.inl rfl) (.int .i64 x.f0.f0.f0)).setCell (p := ⟨g, 1, none⟩) (.inl rfl) (.int .i64 x.f0.f0.f1)).setCell (p := ⟨g, 2, none⟩) (.inl rfl) (.int .i64 x.f0.f0.f2)).setCell (p := ⟨g, 3, none⟩) (.inl rfl) (.int .i64 x.f0.f1)).setCell (p := ⟨g, 4, none⟩) (.inl rfl) (.int .i64 x.f0.f2)).setCell (p := ⟨g, 5, none⟩) (.inl rfl) (.int .i64 x.f0.f3)).setCell (p := ⟨g, 6, none⟩) (.inl rfl) (.bool x.f0.f4)).setCell (p := ⟨g, 7, none⟩) (.inl rfl) (.int .i64 x.f1))
    have hn := (Blk.set_ (Blk.set_ (Blk.set_ (Blk.set_ (Blk.set_ (Blk.set_ (Blk.set_ (Blk.set_ (Blk.far (HN2.out.below' BW4.out) (p := ⟨p, 5, none⟩) hpg (.slice A4 (l.eraseIdx j).length c4)) 0 (.int .i64 x.f0.f0.f0)) 1 (.int .i64 x.f0.f0.f1)) 2 (.int .i64 x.f0.f0.f2)) 3 (.int .i64 x.f0.f1)) 4 (.int .i64 x.f0.f2)) 5 (.int .i64 x.f0.f3)) 6 (.bool x.f0.f4)) 7 (.int .i64 x.f1))
    have hr6 := (E4.out.lower hsz).only (S := fun b => b = p) ((Only.refl w5 (fun b => b = p)).setCell (p := ⟨p, 5, none⟩) (.inl rfl) (.slice A4 (l.eraseIdx j).length c4)) (fun b hb e => by have := hown b hb; omega)
    have hp6 := Blk.set_ (HW2.out.below BW4.out).blk 5 (.slice A4 (l.eraseIdx j).length c4)
    have hO6 := (only_of_below hB5 (fun b => b = p ∨ some b = (Value.slice (some ad) l.length c).ownBlock)).setCell (p := ⟨p, 5, none⟩) (.inl (.inl rfl)) (.slice A4 (l.eraseIdx j).length c4)
    refine bodyPost_ret (v := .tuple #[.agg #[.int .i64 x.f0.f0.f0, .int .i64 x.f0.f0.f1, .int .i64 x.f0.f0.f2, .int .i64 x.f0.f1, .int .i64 x.f0.f2, .int .i64 x.f0.f3, .bool x.f0.f4, .int .i64 x.f1], .int .i64 0]) ?_ rfl ⟨rfl, A4, c4, ⟨hp6.only hs hpg', hr6.only hs (fun b hb e => by have := hown b hb; omega), fun b hb e => by have := hown b hb; omega⟩, hO6.step hs (fun i e hlt => by have := HG.out; omega), fun b hb => .inr (by have := hown b hb; have := HB2.out.size; omega)⟩
    refine results_list (rs := [.cell 4 35, .tmp 5]) rfl (by simp) ?_
    exact Vals.cell g 35 #[.int .i64 x.f0.f0.f0, .int .i64 x.f0.f0.f1, .int .i64 x.f0.f0.f2, .int .i64 x.f0.f1, .int .i64 x.f0.f2, .int .i64 x.f0.f3, .bool x.f0.f4, .int .i64 x.f1] (0, 0) _ rfl hn hu35 rfl (by kernel_rfl) (Vals.tmp Vals.nil)
  · have T1 := C_drop (k := 8) (c := c) (m := j1) HC2.out rfl (by omega) HLc.out
    rw [if_neg hkc] at T1
    have T2 := hide T1
    have HE : Hid (([] : List Pc) ++ l.take j ++ l.drop j1 = l.eraseIdx j) := hide (by rw [List.nil_append, List.eraseIdx_eq_take_drop_succ, hj1])
    clear T1
    go_wp2_with (first
      | (go_at_call 33; refine (HPl.out _ HW2.out).mono ?_; rintro e w3 ⟨rfl, hw⟩; subst hw)
      | ((with_reducible refine gate_builtin (b := .append) (xs := #[.tmp 23, .tmp 29]) rfl ?_); at_builtin; refine wp_append flatP rfl k35_open rfl (.tmp 23) (.tmp 29) 50 rfl zP 64 Try.underlying50 infoP rfl _ rfl E1.out _ _ _ (l.take j) rfl S1.out (by omega) ?aL ?aB ?_; (case aL => have := HL.out; have := HJ.out; first | (simp; done) | (simp; omega)); (case aB => exact BW1.out.size); intro v1 w4 ho hg; have E2 := hide ho; have BW2 := hide (BW1.out.grown hg BW1.out.size (fun b hb => (E1.out.blk b hb).1)); have c5f : w4.cell? ⟨p, 5, none⟩ = some (.slice (some ad) l.length c) := (HW2.out.below BW2.out).c5; clear ho hg E1 S1)
      | ((with_reducible refine gate_builtin (b := .append) (xs := #[.tmp 32, .tmp 39]) rfl ?_); at_builtin; refine wp_append flatP rfl k35_open rfl (.tmp 32) (.tmp 39) 50 rfl zP 64 Try.underlying50 infoP rfl _ rfl E2.out _ _ _ (l.drop j1) rfl (C_below T2.out BW2.out) (by omega) ?cL ?cB ?_; (case cL => have := HL.out; have := HJ.out; first | (simp; done) | (simp; omega)); (case cB => exact BW2.out.size); intro v2 w5 ho hg; rw [HE.out] at ho; obtain ⟨A4, c4, hv4, _, _⟩ := ho.slice; subst hv4; have E4 := hide ho; have BW4 := hide (BW2.out.grown hg BW2.out.size (fun b hb => (E2.out.blk b hb).1)); have c5g : w5.cell? ⟨p, 5, none⟩ = some (.slice (some ad) l.length c) := (HW2.out.below BW4.out).c5; have f5g : w5.frozen? ⟨p, 5, none⟩ = false := (HW2.out.below BW4.out).blk.frozen 5; obtain ⟨x0, x1, x2, x3, x4, x5, x6, x7⟩ := blk8 (HX2.out.below' BW4.out); have z0 : w5.cell? ⟨g, 0, none⟩ = some (.int .i64 0) := (HN2.out.below' BW4.out).cell 0; have f0 : w5.frozen? ⟨g, 0, none⟩ = false := (HN2.out.below' BW4.out).frozen 0; have z1 : w5.cell? ⟨g, 1, none⟩ = some (.int .i64 0) := (HN2.out.below' BW4.out).cell 1; have f1 : w5.frozen? ⟨g, 1, none⟩ = false := (HN2.out.below' BW4.out).frozen 1; have z2 : w5.cell? ⟨g, 2, none⟩ = some (.int .i64 0) := (HN2.out.below' BW4.out).cell 2; have f2 : w5.frozen? ⟨g, 2, none⟩ = false := (HN2.out.below' BW4.out).frozen 2; have z3 : w5.cell? ⟨g, 3, none⟩ = some (.int .i64 0) := (HN2.out.below' BW4.out).cell 3; have f3 : w5.frozen? ⟨g, 3, none⟩ = false := (HN2.out.below' BW4.out).frozen 3; have z4 : w5.cell? ⟨g, 4, none⟩ = some (.int .i64 0) := (HN2.out.below' BW4.out).cell 4; have f4 : w5.frozen? ⟨g, 4, none⟩ = false := (HN2.out.below' BW4.out).frozen 4; have z5 : w5.cell? ⟨g, 5, none⟩ = some (.int .i64 0) := (HN2.out.below' BW4.out).cell 5; have f5 : w5.frozen? ⟨g, 5, none⟩ = false := (HN2.out.below' BW4.out).frozen 5; have z6 : w5.cell? ⟨g, 6, none⟩ = some (.bool false) := (HN2.out.below' BW4.out).cell 6; have f6 : w5.frozen? ⟨g, 6, none⟩ = false := (HN2.out.below' BW4.out).frozen 6; have z7 : w5.cell? ⟨g, 7, none⟩ = some (.int .i64 0) := (HN2.out.below' BW4.out).cell 7; have f7 : w5.frozen? ⟨g, 7, none⟩ = false := (HN2.out.below' BW4.out).frozen 7; clear ho hg E2))
    have hB5 := below_step HB2.out BW4.out
    have hsz : base ≤ w3.heap.size := Nat.le_trans HBase.out HB2.out.size
    have hgl := HN2.out.lt
    have hown : ∀ b, (Value.slice A4 (l.eraseIdx j).length c4).ownBlock = some b → w3.heap.size ≤ b := fun b hb => (E4.out.blk b hb).1
    have hs := (((((((((Only.refl (w5.setCell ⟨p, 5, none⟩ (.slice A4 (l.eraseIdx j).length c4)) (fun b => b = g)).setCell (p := ⟨g, 0, none⟩) (.inl rfl) (.int .i64 x.f0.f0.f0)).setCell (p := ⟨g, 1, none⟩) (.inl rfl) (.int .i64 x.f0.f0.f1)).setCell (p := ⟨g, 2, none⟩) (.inl rfl) (.int .i64 x.f0.f0.f2)).setCell (p := ⟨g, 3, none⟩) (.inl rfl) (.int .i64 x.f0.f1)).setCell (p := ⟨g, 4, none⟩) (.inl rfl) (.int .i64 x.f0.f2)).setCell (p := ⟨g, 5, none⟩) (.inl rfl) (.int .i64 x.f0.f3)).setCell (p := ⟨g, 6, none⟩) (.inl rfl) (.bool x.f0.f4)).setCell (p := ⟨g, 7, none⟩) (.inl rfl) (.int .i64 x.f1))
    have hn := (Blk.set_ (Blk.set_ (Blk.set_ (Blk.set_ (Blk.set_ (Blk.set_ (Blk.set_ (Blk.set_ (Blk.far (HN2.out.below' BW4.out) (p := ⟨p, 5, none⟩) hpg (.slice A4 (l.eraseIdx j).length c4)) 0 (.int .i64 x.f0.f0.f0)) 1 (.int .i64 x.f0.f0.f1)) 2 (.int .i64 x.f0.f0.f2)) 3 (.int .i64 x.f0.f1)) 4 (.int .i64 x.f0.f2)) 5 (.int .i64 x.f0.f3)) 6 (.bool x.f0.f4)) 7 (.int .i64 x.f1))
    have hr6 := (E4.out.lower hsz).only (S := fun b => b = p) ((Only.refl w5 (fun b => b = p)).setCell (p := ⟨p, 5, none⟩) (.inl rfl) (.slice A4 (l.eraseIdx j).length c4)) (fun b hb e => by have := hown b hb; omega)
    have hp6 := Blk.set_ (HW2.out.below BW4.out).blk 5 (.slice A4 (l.eraseIdx j).length c4)
    have hO6 := (only_of_below hB5 (fun b => b = p ∨ some b = (Value.slice (some ad) l.length c).ownBlock)).setCell (p := ⟨p, 5, none⟩) (.inl (.inl rfl)) (.slice A4 (l.eraseIdx j).length c4)
    refine bodyPost_ret (v := .tuple #[.agg #[.int .i64 x.f0.f0.f0, .int .i64 x.f0.f0.f1, .int .i64 x.f0.f0.f2, .int .i64 x.f0.f1, .int .i64 x.f0.f2, .int .i64 x.f0.f3, .bool x.f0.f4, .int .i64 x.f1], .int .i64 0]) ?_ rfl ⟨rfl, A4, c4, ⟨hp6.only hs hpg', hr6.only hs (fun b hb e => by have := hown b hb; omega), fun b hb e => by have := hown b hb; omega⟩, hO6.step hs (fun i e hlt => by have := HG.out; omega), fun b hb => .inr (by have := hown b hb; have := HB2.out.size; omega)⟩
    refine results_list (rs := [.cell 4 35, .tmp 5]) rfl (by simp) ?_
    exact Vals.cell g 35 #[.int .i64 x.f0.f0.f0, .int .i64 x.f0.f0.f1, .int .i64 x.f0.f0.f2, .int .i64 x.f0.f1, .int .i64 x.f0.f2, .int .i64 x.f0.f3, .bool x.f0.f4, .int .i64 x.f1] (0, 0) _ rfl hn hu35 rfl (by kernel_rfl) (Vals.tmp Vals.nil)
end Go.Proofs.Ytdbdaalkmjcifaa.Link
