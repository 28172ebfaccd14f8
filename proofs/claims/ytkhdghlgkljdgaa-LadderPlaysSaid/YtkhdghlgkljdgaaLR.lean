/- The reference's ladder: what each of its functions does. No law is proved here. -/
import Derived.Test.YtkhdghlgkljdgaaLO
import Derived.Test.YtkhdghlgkljdgaaRef02H
import Derived.StillTailTactics
import Derived.Deep.QuietTactic
namespace Go.Proofs.Ytkhdghlgkljdgaa.LQ
open Go.Proofs Go.Proofs.Ytkhdghlgkljdgaa.CQ Go.Shelf Go.RowKit Go.Deep Go.Sort Go.Proofs.Ytkhdghlgkljdgaa.SortPure Go.Proofs.Ytkhdghlgkljdgaa.Types Go.Proofs.Ytkhdghlgkljdgaa.Heap Go.Proofs.Ytkhdghlgkljdgaa.Row Go.Proofs.Ytkhdghlgkljdgaa.Ord Go.Proofs.Ytkhdghlgkljdgaa.Sorted Go.Proofs.YtkhdghlgkljdgaaW.PrintWords Go.Proofs.YtkhdghlgkljdgaaW.PrintLast Go.Proofs.YtkhdghlgkljdgaaW.PrintMore
set_option linter.unusedVariables false
set_option linter.unusedSimpArgs false
theorem ans7 {w w1 : World} (z : M) {cs : M} (hR : Blk w1 w.heap.size 25 (cM cs).toArray) (hb : Below w.heap.size w w1) : Blk (w1.setCells w.heap.size 0 (c25 z)) w.heap.size 25 (cM z).toArray ∧ Below w.heap.size w (w1.setCells w.heap.size 0 (c25 z)) :=
  ⟨set7 cs z hR, hb.trans ((only_set7 w1 w.heap.size z).below hb.size (fun i e => Nat.le_of_eq e.symm))⟩
abbrev tR : TypeId := 57
/-- A heap of the reference's at r, whose list is sl; the list's cells lie from block F on. -/
structure RAt (w : World) (F r : Nat) (A : Option Addr) (c : Nat) (sl : List M) : Prop where
  blk : Blk w r tR #[.slice A sl.length c]
  row : Kd.C k25 w A sl.length sl
  cap : sl.length ≤ c
  far : ∀ ad, A = some ad → 0 < sl.length → F ≤ ad.block
theorem RAt.below {w w' : World} {F r : Nat} {A : Option Addr} {c : Nat} {sl : List M} (h : RAt w F r A c sl) (hb : Below w.heap.size w w') : RAt w' F r A c sl := ⟨h.blk.below' hb, C_below h.row hb, h.cap, h.far⟩
theorem RAt.only {w w' : World} {F r : Nat} {A : Option Addr} {c : Nat} {sl : List M} {S : Nat → Prop} (h : RAt w F r A c sl) (hO : Only w w' S) (hr : ¬ S r) (hA : ∀ ad, A = some ad → 0 < sl.length → ¬ S ad.block) : RAt w' F r A c sl := ⟨h.blk.only hO hr, C_only h.row hO hA, h.cap, h.far⟩
theorem rnew_bad (w : World) {wd : Int} (hw : wd < 1 ∨ 16384 < wd) : Calls Try.prog 18 #[.int .i64 wd] w fun e w' => e = .returned (.tuple #[.pointer none, .int .i64 1]) ∧ w' = w := by
  by_cases h1 : wd < 1
  · have h2 : decide (wd < 1) = true := decide_eq_true h1
    go_enter Try.func18, Try.ntmps18
    go_wp2
    refine bodyPost_ret (v := .tuple #[.pointer none, .int .i64 1]) ?_ rfl ⟨rfl, rfl⟩
    exact results_list (rs := [.tmp 2, .tmp 3]) rfl (by simp) (Vals.tmp (Vals.tmp Vals.nil))
  · have h3 : 16384 < wd := by omega
    have h4 : wd > 16384 := h3
    go_enter Try.func18, Try.ntmps18
    go_wp2
    refine bodyPost_ret (v := .tuple #[.pointer none, .int .i64 1]) ?_ rfl ⟨rfl, rfl⟩
    exact results_list (rs := [.tmp 2, .tmp 3]) rfl (by simp) (Vals.tmp (Vals.tmp Vals.nil))
theorem rnew_call (w : World) (F : Nat) {wd : Int} (h1 : 1 ≤ wd) (h2 : wd ≤ 16384) : Calls Try.prog 18 #[.int .i64 wd] w fun e w' => e = .returned (.tuple #[.pointer (some ⟨w.heap.size, 0, none⟩), .int .i64 0]) ∧ RAt w' F w.heap.size none 0 [] ∧ Below w.heap.size w w' := by
  have n1 : ¬ wd < 1 := by omega
  have n2 : ¬ wd > 16384 := by omega
  go_enter Try.func18, Try.ntmps18
  go_wp2_with fail
  refine bodyPost_ret (v := .tuple #[.pointer (some ⟨w.heap.size, 0, none⟩), .int .i64 0]) ?_ rfl ⟨rfl, ⟨Blk.new _ _ _, ⟨rfl, by simp, fun h => absurd h (by simp)⟩, Nat.le_refl _, fun ad h => by cases h⟩, (Below.refl _ _).alloc (Nat.le_refl _) _⟩
  exact results_list (rs := [.tmp 2, .tmp 3]) rfl (by simp) (Vals.tmp (Vals.tmp Vals.nil))
set_option maxHeartbeats 4000000 in
set_option maxRecDepth 100000 in
theorem rfind_call (w : World) (F r : Nat) (A : Option Addr) (c : Nat) (sl : List M) (x y : Int) (h : RAt w F r A c sl) (hl : sl.length ≤ 16384) :
    Calls Try.prog 41 #[.pointer (some ⟨r, 0, none⟩), .int .i64 x, .int .i64 y] w fun e w' => ((e = .returned (.int .i64 (-1)) ∧ ∀ m ∈ sl, ¬ isOf x y m) ∨ ∃ k : Nat, ∃ hk : k < sl.length, e = .returned (.int .i64 k) ∧ isOf x y sl[k]) ∧ Below w.heap.size w w' := by
  have H := hide h
  have hl5 : (sl.length : Int) ≤ 16384 := by omega
  clear h
  go_enter Try.func41, Try.ntmps41
  go_wp2_with fail
  go_loopw [7] (fun iv wr => ∃ k : Nat, k ≤ sl.length ∧ iv = .int .i64 k ∧ Hid (∀ m ∈ sl.take k, ¬ isOf x y m) ∧ Hid (Below w.heap.size w wr)) (fun iv _ => sl.length - (intOf iv).toNat)
  case atStart => exact ⟨0, Nat.zero_le _, rfl, hide (fun m hm => by simp at hm), hide (Below.refl _ _)⟩
  case round =>
    obtain ⟨k, hk, rfl, HT, HB⟩ := hrel
    have c0 : wr.cell? ⟨r, 0, none⟩ = some (.slice A sl.length c) := (H.out.below HB.out).blk.cell 0
    by_cases hlt : k < sl.length
    · have b1 : (k : Int) < (sl.length : Int) := by omega
      obtain ⟨ad, rfl, q0, q1, q2, q3, q4, q5, q6⟩ := at_S25 (C_below H.out.row HB.out) hlt
      have hstep : ¬ isOf x y sl[k] → Hid (∀ m ∈ sl.take (k + 1), ¬ isOf x y m) := fun hn => hide (fun m hm => by
        rw [List.take_succ_eq_append_getElem hlt] at hm
        rcases List.mem_append.1 hm with e | e
        · exact HT.out m e
        · rw [List.mem_singleton.1 e]; exact hn)
      by_cases e1 : sl[k].f0.f1 = x
      · have n1 : (sl[k].f0.f1 == x) = true := by simpa using e1
        by_cases e5 : sl[k].f3 = y
        · have n5 : (sl[k].f3 == y) = true := by simpa using e5
          go_wp2_with fail
          go_ret
          exact ⟨.inr ⟨k, hlt, rfl, e1, e5⟩, HB.out⟩
        · have n5 : (sl[k].f3 == y) = false := by simpa using e5
          have HS := hstep (fun q => e5 q.2)
          go_wp2_with fail
          go_roundw
          case rel => exact ⟨k + 1, by omega, by go_num, HS, HB⟩
          case measure => simp [intOf]; omega
      · have n1 : (sl[k].f0.f1 == x) = false := by simpa using e1
        have HS := hstep (fun q => e1 q.1)
        go_wp2_with fail
        go_roundw
        case rel => exact ⟨k + 1, by omega, by go_num, HS, HB⟩
        case measure => simp [intOf]; omega
    · have b1 : ¬ (k : Int) < (sl.length : Int) := by omega
      have hkl : k = sl.length := by omega
      go_wp2_with fail
      go_ret
      exact ⟨.inl ⟨rfl, fun m hm h1 h2 => HT.out m (by rw [hkl, List.take_length]; exact hm) ⟨h1, h2⟩⟩, HB.out⟩
set_option maxHeartbeats 4000000 in
set_option maxRecDepth 100000 in
theorem rfirst_none (w : World) (F r : Nat) (A : Option Addr) (c : Nat) (h : RAt w F r A c []) :
    Calls Try.prog 31 #[.pointer (some ⟨r, 0, none⟩)] w fun e w' => e = .returned (.tuple #[zA, .int .i64 6]) ∧ Below w.heap.size w w' := by
  unfold zA
  have HB := hide ((Below.refl w.heap.size w).alloc (Nat.le_refl _) (.cells #[.int .i64 0, .int .i64 0, .int .i64 0, .int .i64 0, .int .i64 0, .int .i64 0, .bool false] 25))
  have HR := hide (Blk.new w 25 #[.int .i64 0, .int .i64 0, .int .i64 0, .int .i64 0, .int .i64 0, .int .i64 0, .bool false])
  have c0 : (w.alloc (.cells #[.int .i64 0, .int .i64 0, .int .i64 0, .int .i64 0, .int .i64 0, .int .i64 0, .bool false] 25)).cell? ⟨r, 0, none⟩ = some (.slice A 0 c) := (h.below HB.out).blk.cell 0
  clear h
  go_enter Try.func31, Try.ntmps31
  go_wp2_with fail
  refine bodyPost_ret (v := .tuple #[.agg #[.int .i64 0, .int .i64 0, .int .i64 0, .int .i64 0, .int .i64 0, .int .i64 0, .bool false], .int .i64 6]) ?_ rfl ⟨rfl, HB.out⟩
  refine results_list (rs := [.cell 2 25, .tmp 3]) rfl (by simp) ?_
  exact Vals.cell w.heap.size 25 _ (0, 0) _ rfl HR.out Try.underlying25 rfl (by kernel_rfl) (Vals.tmp Vals.nil)
set_option maxHeartbeats 4000000 in
set_option maxRecDepth 100000 in
theorem rpush_twice (w : World) (F r : Nat) (A : Option Addr) (c : Nat) (sl : List M) (m : M) (h : RAt w F r A c sl) (hl : sl.length ≤ 16384) (hn : ∃ x ∈ sl, isOf m.f0.f1 m.f3 x) :
    Calls Try.prog 30 #[.pointer (some ⟨r, 0, none⟩), .agg #[.int .i64 m.f0.f0, .int .i64 m.f0.f1, .int .i64 m.f0.f2, .int .i64 m.f1, .int .i64 m.f2, .int .i64 m.f3, .bool m.f4]] w fun e w' => e = .returned (.int .i64 8) ∧ Below w.heap.size w w' := by
  have HB := hide ((Below.refl w.heap.size w).alloc (Nat.le_refl _) (.cells #[.int .i64 m.f0.f0, .int .i64 m.f0.f1, .int .i64 m.f0.f2, .int .i64 m.f1, .int .i64 m.f2, .int .i64 m.f3, .bool m.f4] 25))
  have HX := hide (Blk.new w 25 #[.int .i64 m.f0.f0, .int .i64 m.f0.f1, .int .i64 m.f0.f2, .int .i64 m.f1, .int .i64 m.f2, .int .i64 m.f3, .bool m.f4])
  have HF := hide ((rfind_call _ F r A c sl m.f0.f1 m.f3 (h.below HB.out) hl).mono (R' := fun e w' => (∃ k : Nat, e = .returned (.int .i64 k)) ∧ Below (w.alloc (.cells #[.int .i64 m.f0.f0, .int .i64 m.f0.f1, .int .i64 m.f0.f2, .int .i64 m.f1, .int .i64 m.f2, .int .i64 m.f3, .bool m.f4] 25)).heap.size (w.alloc (.cells #[.int .i64 m.f0.f0, .int .i64 m.f0.f1, .int .i64 m.f0.f2, .int .i64 m.f1, .int .i64 m.f2, .int .i64 m.f3, .bool m.f4] 25)) w') (fun e w' hh => ⟨by
    rcases hh.1 with ⟨_, q⟩ | ⟨k, hk, e, _⟩
    · obtain ⟨x, hx, hq⟩ := hn
      exact absurd hq (q x hx)
    · exact ⟨k, e⟩, hh.2⟩))
  clear h hn
  have x1 := HX.out.cell 1
  have x5 := HX.out.cell 5
  go_enter Try.func30, Try.ntmps30
  go_wp2_with fail
  refine HF.out.mono ?_
  rintro e w2 ⟨⟨k, rfl⟩, hb⟩
  have hk0 : (0 : Int) ≤ (k : Int) := by omega
  have HB2 := hide (below_step HB.out hb)
  clear hb HF HX HB x1 x5
  go_wp2_with fail
  go_ret
  exact ⟨rfl, HB2.out⟩
set_option maxHeartbeats 4000000 in
set_option maxRecDepth 100000 in
theorem rpush_new (w : World) (F r : Nat) (A : Option Addr) (c : Nat) (sl : List M) (m : M) (h : RAt w F r A c sl) (hl : sl.length < 16384) (hF : F ≤ w.heap.size) (hn : ∀ x ∈ sl, ¬ isOf m.f0.f1 m.f3 x) :
    Calls Try.prog 30 #[.pointer (some ⟨r, 0, none⟩), .agg #[.int .i64 m.f0.f0, .int .i64 m.f0.f1, .int .i64 m.f0.f2, .int .i64 m.f1, .int .i64 m.f2, .int .i64 m.f3, .bool m.f4]] w fun e w' => e = .returned (.int .i64 0) ∧ (∃ A' c', RAt w' F r A' c' (ins befM sl m) ∧ ∀ ad, A' = some ad → 0 < (ins befM sl m).length → w.heap.size ≤ ad.block) ∧ Only w w' (fun b => b = r) := by
  have HB := hide ((Below.refl w.heap.size w).alloc (Nat.le_refl _) (.cells #[.int .i64 m.f0.f0, .int .i64 m.f0.f1, .int .i64 m.f0.f2, .int .i64 m.f1, .int .i64 m.f2, .int .i64 m.f3, .bool m.f4] 25))
  have HX := hide (Blk.new w 25 #[.int .i64 m.f0.f0, .int .i64 m.f0.f1, .int .i64 m.f0.f2, .int .i64 m.f1, .int .i64 m.f2, .int .i64 m.f3, .bool m.f4])
  have HR1 := hide (h.below HB.out)
  have HF := hide ((rfind_call _ F r A c sl m.f0.f1 m.f3 (h.below HB.out) (by omega)).mono (R' := fun e w' => e = .returned (.int .i64 (-1)) ∧ Below (w.alloc (.cells #[.int .i64 m.f0.f0, .int .i64 m.f0.f1, .int .i64 m.f0.f2, .int .i64 m.f1, .int .i64 m.f2, .int .i64 m.f3, .bool m.f4] 25)).heap.size (w.alloc (.cells #[.int .i64 m.f0.f0, .int .i64 m.f0.f1, .int .i64 m.f0.f2, .int .i64 m.f1, .int .i64 m.f2, .int .i64 m.f3, .bool m.f4] 25)) w') (fun e w' hh => ⟨by
    rcases hh.1 with ⟨e, _⟩ | ⟨k, hk, _, q⟩
    · exact e
    · exact absurd q (hn _ (List.getElem_mem hk)), hh.2⟩))
  have hlI : (sl.length : Int) < 16384 := by omega
  have HL := hide hl
  have HFF := hide hF
  clear h hn hl hF
  have x1 := HX.out.cell 1
  have x5 := HX.out.cell 5
  go_enter Try.func30, Try.ntmps30
  go_wp2_with fail
  refine HF.out.mono ?_
  rintro e w2 ⟨rfl, hb⟩
  have HB2 := hide (below_step HB.out hb)
  have HR2 := hide (HR1.out.below hb)
  have HX2 := hide (HX.out.below' hb)
  clear hb HF HX HB HR1 x1 x5
  have c0 : w2.cell? ⟨r, 0, none⟩ = some (.slice A sl.length c) := HR2.out.blk.cell 0
  go_wp2_with fail
  have HIn := hide (fun W (hC : Kd.C k25 W A sl.length sl) => Ref02.insert_call A c sl m HR2.out.cap (by have := HL.out; omega) W hC)
  have c0d : w2.drew.cell? ⟨r, 0, none⟩ = some (.slice A sl.length c) := c0
  have HRow := hide HR2.out.row
  have HRowd : Hid (Kd.C k25 w2.drew A sl.length sl) := hide (C_below HR2.out.row (below_drewN (Below.refl _ _) 1))
  unfold Made c25 at HIn
  have HWz : Hid (w.heap.size ≤ w2.heap.size) := hide HB2.out.size
  have HSz : Hid (F ≤ w2.heap.size) := hide (Nat.le_trans HFF.out HB2.out.size)
  obtain ⟨gx, hgx⟩ : ∃ gx, w.heap.size = gx := ⟨_, rfl⟩
  rw [hgx] at HX2 ⊢
  have x0 : w2.cell? ⟨gx, 0, none⟩ = some (.int .i64 m.f0.f0) := HX2.out.cell 0
  have y0 : w2.drew.cell? ⟨gx, 0, none⟩ = some (.int .i64 m.f0.f0) := HX2.out.cell 0
  have x1 : w2.cell? ⟨gx, 1, none⟩ = some (.int .i64 m.f0.f1) := HX2.out.cell 1
  have y1 : w2.drew.cell? ⟨gx, 1, none⟩ = some (.int .i64 m.f0.f1) := HX2.out.cell 1
  have x2 : w2.cell? ⟨gx, 2, none⟩ = some (.int .i64 m.f0.f2) := HX2.out.cell 2
  have y2 : w2.drew.cell? ⟨gx, 2, none⟩ = some (.int .i64 m.f0.f2) := HX2.out.cell 2
  have x3 : w2.cell? ⟨gx, 3, none⟩ = some (.int .i64 m.f1) := HX2.out.cell 3
  have y3 : w2.drew.cell? ⟨gx, 3, none⟩ = some (.int .i64 m.f1) := HX2.out.cell 3
  have x4 : w2.cell? ⟨gx, 4, none⟩ = some (.int .i64 m.f2) := HX2.out.cell 4
  have y4 : w2.drew.cell? ⟨gx, 4, none⟩ = some (.int .i64 m.f2) := HX2.out.cell 4
  have x5 : w2.cell? ⟨gx, 5, none⟩ = some (.int .i64 m.f3) := HX2.out.cell 5
  have y5 : w2.drew.cell? ⟨gx, 5, none⟩ = some (.int .i64 m.f3) := HX2.out.cell 5
  have x6 : w2.cell? ⟨gx, 6, none⟩ = some (.bool m.f4) := HX2.out.cell 6
  have y6 : w2.drew.cell? ⟨gx, 6, none⟩ = some (.bool m.f4) := HX2.out.cell 6
  clear hgx
  go_region_with (go_at_call 42; refine (HIn.out _ (by first | exact HRow.out | exact HRowd.out)).mono ?_; rintro e w3 ⟨v3, rfl, ho3, hb3⟩; obtain ⟨A3, c3, hv3, _, _⟩ := ho3.slice; subst hv3; have HO3 := hide ho3; have HB3 := hide hb3; have HR3 := hide (HR2.out.blk.drew.below' hb3); have k0 : w3.cell? ⟨r, 0, none⟩ = some (.slice A sl.length c) := HR3.out.cell 0; have kf : w3.frozen? ⟨r, 0, none⟩ = false := HR3.out.frozen 0; clear ho3 hb3)
  all_goals (
    go_wp2_with fail
    go_ret
    have hO4 : OwnM (w3.setCell ⟨r, 0, none⟩ (.slice A3 (ins befM sl m).length c3)) w2.drew.heap.size (.slice A3 (ins befM sl m).length c3) (ins befM sl m) := HO3.out.only (S := fun b => b = r) ((Only.refl w3 (fun b => b = r)).setCell (p := ⟨r, 0, none⟩) (.inl rfl) _) (fun b hb e => own_blk_ne HO3.out HR3.out (by decide) (by rw [← e]; exact hb))
    obtain ⟨A4, c4, hv4, hc4, hC4, hb4⟩ := hO4.reads flatM rfl k25_mk
    cases hv4
    have hfar : ∀ ad, A3 = some ad → w2.heap.size ≤ ad.block := fun ad e => (hO4.blk ad.block (hb4 ad e).symm).1
    refine ⟨rfl, ⟨A3, c3, ⟨HR3.out.set_ 0 _, hC4, hc4, fun ad e _ => Nat.le_trans HSz.out (hfar ad e)⟩, fun ad e _ => Nat.le_trans HWz.out (hfar ad e)⟩, ?_⟩
    exact ((only_of_below (below_step (below_drewN HB2.out 1) HB3.out) (fun b => b = r)).setCell (p := ⟨r, 0, none⟩) (.inl rfl) _))
end Go.Proofs.Ytkhdghlgkljdgaa.LQ
