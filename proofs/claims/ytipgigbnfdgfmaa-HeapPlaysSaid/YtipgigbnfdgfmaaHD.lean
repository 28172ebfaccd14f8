/- The heap's Push, First, Pop, Cut, All. No law is proved here. -/
import Derived.Test.YtipgigbnfdgfmaaHC
namespace Go.Proofs.Ytipgigbnfdgfmaa.HQ
open Go.Proofs Go.Shelf Go.RowKit Go.Deep Go.Sort Go.Proofs.Ytipgigbnfdgfmaa.Types Go.Proofs.Ytipgigbnfdgfmaa.Heap Go.Proofs.Ytipgigbnfdgfmaa.Row Go.Proofs.Ytipgigbnfdgfmaa.Ord Go.Proofs.Ytipgigbnfdgfmaa.Sorted Go.Proofs.Ytipgigbnfdgfmaa.HU Go.Proofs.YtipgigbnfdgfmaaW.PrintWords Go.Proofs.YtipgigbnfdgfmaaW.PrintLast Go.Proofs.YtipgigbnfdgfmaaW.PrintMore
set_option linter.unusedVariables false
set_option linter.unusedSimpArgs false
/-- The sending of a message. -/
def isOf (x y : Int) (m : M) : Prop := m.f0.f1 = x ∧ m.f3 = y
theorem QAt.has {w : World} {base g c : Nat} {A : Option Addr} {l : List M} (h : QAt w base g (.slice A l.length c) l) : HF.Has w w g c A l := by
  obtain ⟨A2, c2, hv2, _, hC, _⟩ := h.own.reads flatM rfl k25_mk
  cases hv2
  exact ⟨h.c0, h.blk.lt, hC, Below.refl _ _⟩
theorem find_none (w : World) (base g : Nat) (A : Option Addr) (c : Nat) (l : List M) (x y : Int) (h : QAt w base g (.slice A l.length c) l) (hl : l.length ≤ 16384) (hn : ∀ m ∈ l, ¬ isOf x y m) :
    Calls Try.prog 22 #[.pointer (some ⟨g, 0, none⟩), .int .i64 x, .int .i64 y] w fun e w' => e = .returned (.int .i64 (-1)) ∧ Below w.heap.size w w' := by
  refine (HF.find_call g c A l (by omega) w h.has x y).mono ?_
  rintro e w' ⟨hr, hb⟩
  rcases hr with ⟨rfl, _⟩ | ⟨k, hk, _, h2⟩
  · exact ⟨rfl, hb⟩
  · rw [List.getElem?_eq_getElem hk] at h2
    exact absurd h2 (hn _ (List.getElem_mem hk))
/-- What stands of a sending: the first place is not told, a place is. -/
theorem find_some (w : World) (base g : Nat) (A : Option Addr) (c : Nat) (l : List M) (x y : Int) (h : QAt w base g (.slice A l.length c) l) (hl : l.length ≤ 16384) (hn : ∃ m ∈ l, isOf x y m) :
    Calls Try.prog 22 #[.pointer (some ⟨g, 0, none⟩), .int .i64 x, .int .i64 y] w fun e w' => (∃ k : Nat, ∃ hk : k < l.length, e = .returned (.int .i64 k) ∧ isOf x y l[k]) ∧ Below w.heap.size w w' := by
  refine (HF.find_call g c A l (by omega) w h.has x y).mono ?_
  rintro e w' ⟨hr, hb⟩
  refine ⟨?_, hb⟩
  rcases hr with ⟨rfl, h2⟩ | ⟨k, hk, rfl, h2⟩
  · obtain ⟨m, hm, hq⟩ := hn
    obtain ⟨j, hj, rfl⟩ := List.getElem_of_mem hm
    have := h2 j hj
    rw [List.getElem?_eq_getElem hj] at this
    exact absurd hq this
  · rw [List.getElem?_eq_getElem hk] at h2
    exact ⟨k, hk, rfl, h2⟩
set_option maxHeartbeats 4000000 in
set_option maxRecDepth 100000 in
theorem push_twice (w : World) (base g : Nat) (A : Option Addr) (c : Nat) (l : List M) (m : M) (h : QAt w base g (.slice A l.length c) l) (hl : l.length ≤ 16384) (hn : ∃ x ∈ l, isOf m.f0.f1 m.f3 x) :
    Calls Try.prog 9 #[.pointer (some ⟨g, 0, none⟩), .agg (cM m).toArray] w fun e w' => e = .returned (.int .i64 8) ∧ Below w.heap.size w w' := by
  have HB := hide ((Below.refl w.heap.size w).alloc (Nat.le_refl _) (.cells (cM m).toArray 25))
  have HQ1 := hide (h.alloc (.cells (cM m).toArray 25))
  have HX := hide (Blk.new w 25 (cM m).toArray)
  have HN := hide (none_call g _ _ HQ1.out.blk)
  have HF := hide (find_some _ base g A c l m.f0.f1 m.f3 HQ1.out hl hn)
  clear h hn
  unfold cM c25 at HB HQ1 HX HN HF ⊢
  have x1 := HX.out.cell 1
  have x5 := HX.out.cell 5
  go_enter Try.func9, Try.ntmps9
  go_wp2_with (first
    | (go_at_call 21; refine HN.out.mono ?_; rintro e w' ⟨rfl, rfl⟩)
    | (go_at_call 22; refine HF.out.mono ?_; rintro e w' ⟨⟨k, hk, rfl, hq⟩, hb⟩; have hk0 : (0 : Int) ≤ (k : Int) := by omega))
  go_ret
  exact ⟨rfl, below_step HB.out hb⟩
set_option maxHeartbeats 4000000 in
set_option maxRecDepth 100000 in
theorem push_new (w : World) (base g : Nat) (A : Option Addr) (c : Nat) (l : List M) (m : M) (h : QAt w base g (.slice A l.length c) l) (hl : l.length < 16384) (hbase : base ≤ w.heap.size) (hn : ∀ x ∈ l, ¬ isOf m.f0.f1 m.f3 x) :
    Calls Try.prog 9 #[.pointer (some ⟨g, 0, none⟩), .agg (cM m).toArray] w (Left w base g (.slice A l.length c) (upA befM (l ++ [m]).toArray l.length).toList (.int .i64 0)) := by
  have HB := hide ((Below.refl w.heap.size w).alloc (Nat.le_refl _) (.cells (cM m).toArray 25))
  have HQ1 := hide (h.alloc (.cells (cM m).toArray 25))
  have HX := hide (Blk.new w 25 (cM m).toArray)
  have HN := hide (none_call g _ _ HQ1.out.blk)
  have HF := hide (find_none _ base g A c l m.f0.f1 m.f3 HQ1.out (by omega) hn)
  have HP := hide (fun W hW hb => push_call W base g A c l m hW hl hb)
  have HBase := hide hbase
  have HL := hide hl
  obtain ⟨Q, hQ⟩ : ∃ Q, Left w base g (.slice A l.length c) (upA befM (l ++ [m]).toArray l.length).toList (.int .i64 0) = Q := ⟨_, rfl⟩
  rw [hQ]
  have HQ := hide hQ
  have hlI : (l.length : Int) < 16384 := by omega
  clear h hn hQ hl hbase
  unfold cM c25 at HB HQ1 HX HN HF HP ⊢
  have x1 := HX.out.cell 1
  have x5 := HX.out.cell 5
  go_enter Try.func9, Try.ntmps9
  go_wp2_with (first
    | (go_at_call 21; refine HN.out.mono ?_; rintro e w' ⟨rfl, rfl⟩)
    | (go_at_call 22; refine HF.out.mono ?_; rintro e w2 ⟨rfl, hb⟩; have HB2 := hide (below_step HB.out hb); have HQ2 := hide (HQ1.out.below hb); have HX2 := hide (HX.out.below' hb); have c0 := HQ2.out.c0; clear hb HB HQ1 HX HN HF x1 x5))
  have HOn2 : Hid (Only w w2.drew (fun b => b = g ∨ (Value.slice A l.length c).ownBlock = some b)) := hide ((only_of_below HB2.out _).drew)
  have HSz : Hid (w.heap.size ≤ w2.drew.heap.size) := hide HB2.out.size
  have HS2 : Hid (base ≤ w2.heap.size) := hide (Nat.le_trans HBase.out HB2.out.size)
  obtain ⟨gx, hgx⟩ : ∃ gx, w.heap.size = gx := ⟨_, rfl⟩
  have HGX := hide hgx
  rw [hgx] at HX2 HB2 ⊢
  clear hgx
  have x0 : w2.cell? ⟨gx, 0, none⟩ = some (.int .i64 m.f0.f0) := HX2.out.cell 0
  have y0 : w2.drew.cell? ⟨gx, 0, none⟩ = some (.int .i64 m.f0.f0) := HX2.out.cell 0
  have x1 : w2.cell? ⟨gx, 1, none⟩ = some (.int .i64 m.f0.f1) := HX2.out.cell 1
  have y1 : w2.drew.cell? ⟨gx, 1, none⟩ = some (.int .i64 m.f0.f1) := HX2.out.cell 1
  have x2 : w2.cell? ⟨gx, 2, none⟩ = some (.int .i64 m.f0.f2) := HX2.out.cell 2
  have y2 : w2.drew.cell? ⟨gx, 2, none⟩ = some (.int .i64 m.f0.f2) := HX2.out.cell 2
  have x3 : w2.cell? ⟨gx, 3, none⟩ = some (.int .i64 m.f1) := HX2.out.cell 3
  have y3 : w2.drew.cell? ⟨gx, 3, none⟩ = some (.int .i64 m.f1) := HX2.out.cell 3
  have x4 : w2.cell? ⟨gx, 4, none⟩ = some (.int .i64 m.f2) := HX2.out.cell 4
  have y4 : w2.drew.cell? ⟨gx, 4, none⟩ = some (.int .i64 m.f2) := HX2.out.cell 4
  have x5 : w2.cell? ⟨gx, 5, none⟩ = some (.int .i64 m.f3) := HX2.out.cell 5
  have y5 : w2.drew.cell? ⟨gx, 5, none⟩ = some (.int .i64 m.f3) := HX2.out.cell 5
  have x6 : w2.cell? ⟨gx, 6, none⟩ = some (.bool m.f4) := HX2.out.cell 6
  have y6 : w2.drew.cell? ⟨gx, 6, none⟩ = some (.bool m.f4) := HX2.out.cell 6
  go_region_with (go_at_call 23; refine (HP.out _ (by first | exact HQ2.out | exact HQ2.out.drew) (by exact HS2.out)).mono ?_; rintro e w3 ⟨rfl, A', c', hq, ho, hn⟩; have HQ3 := hide hq; have HO3 := hide ho; have HN3 := hide hn; clear hq ho hn)
  all_goals (
    go_wp2_with fail
    rw [← HQ.out]
    refine ⟨rfl, A', c', HQ3.out, HOn2.out.trans HO3.out, fun b hb => ?_⟩
    rcases HN3.out b hb with q | q
    · exact .inl q
    · exact .inr (Nat.le_trans HSz.out q))
def zA : Value := .agg #[.int .i64 0, .int .i64 0, .int .i64 0, .int .i64 0, .int .i64 0, .int .i64 0, .bool false]
/-- Behind the seven stores into the block of an answer. -/
theorem ans7 {w W : World} {B gr : Nat} (z : M) (hR : Blk W gr 25 #[.int .i64 0, .int .i64 0, .int .i64 0, .int .i64 0, .int .i64 0, .int .i64 0, .bool false]) (hB : Below B w W) (h : B ≤ gr) :
    Blk (W.setCells gr 0 (c25 z)) gr 25 #[.int .i64 z.f0.f0, .int .i64 z.f0.f1, .int .i64 z.f0.f2, .int .i64 z.f1, .int .i64 z.f2, .int .i64 z.f3, .bool z.f4] ∧ Below B w (W.setCells gr 0 (c25 z)) := by
  unfold c25
  simp only [World.setCells]
  refine ⟨?_, ?_⟩
  · have := ((((((hR.set_ 0 (.int .i64 z.f0.f0)).set_ 1 (.int .i64 z.f0.f1)).set_ 2 (.int .i64 z.f0.f2)).set_ 3 (.int .i64 z.f1)).set_ 4 (.int .i64 z.f2)).set_ 5 (.int .i64 z.f3)).set_ 6 (.bool z.f4)
    exact this
  · exact ((((((hB.setCell (by exact h) _).setCell (by exact h) _).setCell (by exact h) _).setCell (by exact h) _).setCell (by exact h) _).setCell (by exact h) _).setCell (by exact h) _
set_option maxHeartbeats 4000000 in
set_option maxRecDepth 100000 in
theorem cut_none (w : World) (base g : Nat) (A : Option Addr) (c : Nat) (l : List M) (x y : Int) (h : QAt w base g (.slice A l.length c) l) (hl : l.length ≤ 16384) (hn : ∀ m ∈ l, ¬ isOf x y m) :
    Calls Try.prog 11 #[.pointer (some ⟨g, 0, none⟩), .int .i64 x, .int .i64 y] w fun e w' => e = .returned (.tuple #[zA, .int .i64 6]) ∧ Below w.heap.size w w' := by
  unfold zA
  have HB := hide ((Below.refl w.heap.size w).alloc (Nat.le_refl _) (.cells #[.int .i64 0, .int .i64 0, .int .i64 0, .int .i64 0, .int .i64 0, .int .i64 0, .bool false] 25))
  have HQ1 := hide (h.alloc (.cells #[.int .i64 0, .int .i64 0, .int .i64 0, .int .i64 0, .int .i64 0, .int .i64 0, .bool false] 25))
  have HR := hide (Blk.new w 25 #[.int .i64 0, .int .i64 0, .int .i64 0, .int .i64 0, .int .i64 0, .int .i64 0, .bool false])
  have HN := hide (none_call g _ _ HQ1.out.blk)
  have HF := hide (find_none _ base g A c l x y HQ1.out (by omega) hn)
  clear h hn hl
  go_enter Try.func11, Try.ntmps11
  go_wp2_with (first
    | (go_at_call 21; refine HN.out.mono ?_; rintro e w' ⟨rfl, rfl⟩)
    | (go_at_call 22; refine HF.out.mono ?_; rintro e w2 ⟨rfl, hb⟩; have HB2 := hide (below_step HB.out hb); have HR2 := hide (HR.out.below' hb); clear hb HB HQ1 HN HF HR; have r0 : w2.cell? ⟨w.heap.size, 0, none⟩ = some (.int .i64 0) := HR2.out.cell 0; have v0 : w2.frozen? ⟨w.heap.size, 0, none⟩ = false := HR2.out.frozen 0; have r1 : w2.cell? ⟨w.heap.size, 1, none⟩ = some (.int .i64 0) := HR2.out.cell 1; have v1 : w2.frozen? ⟨w.heap.size, 1, none⟩ = false := HR2.out.frozen 1; have r2 : w2.cell? ⟨w.heap.size, 2, none⟩ = some (.int .i64 0) := HR2.out.cell 2; have v2 : w2.frozen? ⟨w.heap.size, 2, none⟩ = false := HR2.out.frozen 2; have r3 : w2.cell? ⟨w.heap.size, 3, none⟩ = some (.int .i64 0) := HR2.out.cell 3; have v3 : w2.frozen? ⟨w.heap.size, 3, none⟩ = false := HR2.out.frozen 3; have r4 : w2.cell? ⟨w.heap.size, 4, none⟩ = some (.int .i64 0) := HR2.out.cell 4; have v4 : w2.frozen? ⟨w.heap.size, 4, none⟩ = false := HR2.out.frozen 4; have r5 : w2.cell? ⟨w.heap.size, 5, none⟩ = some (.int .i64 0) := HR2.out.cell 5; have v5 : w2.frozen? ⟨w.heap.size, 5, none⟩ = false := HR2.out.frozen 5; have r6 : w2.cell? ⟨w.heap.size, 6, none⟩ = some (.bool false) := HR2.out.cell 6; have v6 : w2.frozen? ⟨w.heap.size, 6, none⟩ = false := HR2.out.frozen 6))
  have hch : (((((((w2.setCell ⟨w.heap.size, 0, none⟩ (.int .i64 0)).setCell ⟨w.heap.size, 1, none⟩ (.int .i64 0)).setCell ⟨w.heap.size, 2, none⟩ (.int .i64 0)).setCell ⟨w.heap.size, 3, none⟩ (.int .i64 0)).setCell ⟨w.heap.size, 4, none⟩ (.int .i64 0)).setCell ⟨w.heap.size, 5, none⟩ (.int .i64 0)).setCell ⟨w.heap.size, 6, none⟩ (.bool false)) = w2.setCells w.heap.size 0 (c25 default) := rfl
  rw [hch]
  obtain ⟨e1, e2⟩ := ans7 default HR2.out HB2.out (Nat.le_refl _)
  refine bodyPost_ret (v := .tuple #[.agg #[.int .i64 0, .int .i64 0, .int .i64 0, .int .i64 0, .int .i64 0, .int .i64 0, .bool false], .int .i64 6]) ?_ rfl ⟨rfl, e2⟩
  refine results_list (rs := [.cell 6 25, .tmp 7]) rfl (by simp) ?_
  exact Vals.cell w.heap.size 25 _ (0, 0) _ rfl e1 Try.underlying25 rfl (by kernel_rfl) (Vals.tmp Vals.nil)
set_option maxHeartbeats 4000000 in
set_option maxRecDepth 100000 in
theorem first_none (w : World) (base g : Nat) (A : Option Addr) (c : Nat) (h : QAt w base g (.slice A 0 c) []) :
    Calls Try.prog 16 #[.pointer (some ⟨g, 0, none⟩)] w fun e w' => e = .returned (.tuple #[zA, .int .i64 6]) ∧ Below w.heap.size w w' := by
  unfold zA
  have HB := hide ((Below.refl w.heap.size w).alloc (Nat.le_refl _) (.cells #[.int .i64 0, .int .i64 0, .int .i64 0, .int .i64 0, .int .i64 0, .int .i64 0, .bool false] 25))
  have HQ1 := hide (h.alloc (.cells #[.int .i64 0, .int .i64 0, .int .i64 0, .int .i64 0, .int .i64 0, .int .i64 0, .bool false] 25))
  have HR := hide (Blk.new w 25 #[.int .i64 0, .int .i64 0, .int .i64 0, .int .i64 0, .int .i64 0, .int .i64 0, .bool false])
  have HN := hide (none_call g _ _ HQ1.out.blk)
  have c0 := HQ1.out.c0
  clear h
  go_enter Try.func16, Try.ntmps16
  go_wp2_with (first
    | (go_at_call 21; refine HN.out.mono ?_; rintro e w' ⟨rfl, rfl⟩))
  refine bodyPost_ret (v := .tuple #[.agg #[.int .i64 0, .int .i64 0, .int .i64 0, .int .i64 0, .int .i64 0, .int .i64 0, .bool false], .int .i64 6]) ?_ rfl ⟨rfl, HB.out⟩
  refine results_list (rs := [.cell 2 25, .tmp 3]) rfl (by simp) ?_
  exact Vals.cell w.heap.size 25 _ (0, 0) _ rfl HR.out Try.underlying25 rfl (by kernel_rfl) (Vals.tmp Vals.nil)
set_option maxHeartbeats 4000000 in
set_option maxRecDepth 100000 in
theorem first_some (w : World) (base g : Nat) (A : Option Addr) (c : Nat) (z : M) (l : List M) (h : QAt w base g (.slice A (z :: l).length c) (z :: l)) (hl : (z :: l).length ≤ 16384) :
    Calls Try.prog 16 #[.pointer (some ⟨g, 0, none⟩)] w fun e w' => e = .returned (.tuple #[.agg #[.int .i64 z.f0.f0, .int .i64 z.f0.f1, .int .i64 z.f0.f2, .int .i64 z.f1, .int .i64 z.f2, .int .i64 z.f3, .bool z.f4], .int .i64 0]) ∧ Below w.heap.size w w' := by
  have HB := hide ((Below.refl w.heap.size w).alloc (Nat.le_refl _) (.cells #[.int .i64 0, .int .i64 0, .int .i64 0, .int .i64 0, .int .i64 0, .int .i64 0, .bool false] 25))
  have HQ1 := hide (h.alloc (.cells #[.int .i64 0, .int .i64 0, .int .i64 0, .int .i64 0, .int .i64 0, .int .i64 0, .bool false] 25))
  have HR := hide (Blk.new w 25 #[.int .i64 0, .int .i64 0, .int .i64 0, .int .i64 0, .int .i64 0, .int .i64 0, .bool false])
  have HN := hide (none_call g _ _ HQ1.out.blk)
  have c0 := HQ1.out.c0
  obtain ⟨n, hn⟩ : ∃ n, (z :: l).length = n := ⟨_, rfl⟩
  have hpos : 0 < (z :: l).length := by simp
  obtain ⟨A1, c1, hv1, _, hA⟩ := HQ1.out.own.slice
  cases hv1
  obtain ⟨b, rfl⟩ := hA hpos
  obtain ⟨A2, c2, hv2, _, hC, _⟩ := HQ1.out.own.reads flatM rfl k25_mk
  cases hv2
  obtain ⟨ad, had, p0, p1, p2, p3, p4, p5, p6⟩ := at_S25 hC hpos
  cases had
  rw [Addr.add_lit, Nat.zero_add, Nat.zero_mul] at p0 p1 p2 p3 p4 p5 p6
  simp only [List.getElem_cons_zero, Nat.zero_add] at p0 p1 p2 p3 p4 p5 p6
  have n1 : ((n : Int) == 0) = false := by rw [beq_eq_false_iff_ne]; omega
  have n2 : (0 : Int) < (n : Int) := by omega
  have n3 : (n : Int) ≤ 16384 := by omega
  rw [hn] at c0
  clear h hC hl hpos
  go_enter Try.func16, Try.ntmps16
  have r0 : (w.alloc (.cells #[.int .i64 0, .int .i64 0, .int .i64 0, .int .i64 0, .int .i64 0, .int .i64 0, .bool false] 25)).cell? ⟨w.heap.size, 0, none⟩ = some (.int .i64 0) := HR.out.cell 0
  have v0 : (w.alloc (.cells #[.int .i64 0, .int .i64 0, .int .i64 0, .int .i64 0, .int .i64 0, .int .i64 0, .bool false] 25)).frozen? ⟨w.heap.size, 0, none⟩ = false := HR.out.frozen 0
  have r1 : (w.alloc (.cells #[.int .i64 0, .int .i64 0, .int .i64 0, .int .i64 0, .int .i64 0, .int .i64 0, .bool false] 25)).cell? ⟨w.heap.size, 1, none⟩ = some (.int .i64 0) := HR.out.cell 1
  have v1 : (w.alloc (.cells #[.int .i64 0, .int .i64 0, .int .i64 0, .int .i64 0, .int .i64 0, .int .i64 0, .bool false] 25)).frozen? ⟨w.heap.size, 1, none⟩ = false := HR.out.frozen 1
  have r2 : (w.alloc (.cells #[.int .i64 0, .int .i64 0, .int .i64 0, .int .i64 0, .int .i64 0, .int .i64 0, .bool false] 25)).cell? ⟨w.heap.size, 2, none⟩ = some (.int .i64 0) := HR.out.cell 2
  have v2 : (w.alloc (.cells #[.int .i64 0, .int .i64 0, .int .i64 0, .int .i64 0, .int .i64 0, .int .i64 0, .bool false] 25)).frozen? ⟨w.heap.size, 2, none⟩ = false := HR.out.frozen 2
  have r3 : (w.alloc (.cells #[.int .i64 0, .int .i64 0, .int .i64 0, .int .i64 0, .int .i64 0, .int .i64 0, .bool false] 25)).cell? ⟨w.heap.size, 3, none⟩ = some (.int .i64 0) := HR.out.cell 3
  have v3 : (w.alloc (.cells #[.int .i64 0, .int .i64 0, .int .i64 0, .int .i64 0, .int .i64 0, .int .i64 0, .bool false] 25)).frozen? ⟨w.heap.size, 3, none⟩ = false := HR.out.frozen 3
  have r4 : (w.alloc (.cells #[.int .i64 0, .int .i64 0, .int .i64 0, .int .i64 0, .int .i64 0, .int .i64 0, .bool false] 25)).cell? ⟨w.heap.size, 4, none⟩ = some (.int .i64 0) := HR.out.cell 4
  have v4 : (w.alloc (.cells #[.int .i64 0, .int .i64 0, .int .i64 0, .int .i64 0, .int .i64 0, .int .i64 0, .bool false] 25)).frozen? ⟨w.heap.size, 4, none⟩ = false := HR.out.frozen 4
  have r5 : (w.alloc (.cells #[.int .i64 0, .int .i64 0, .int .i64 0, .int .i64 0, .int .i64 0, .int .i64 0, .bool false] 25)).cell? ⟨w.heap.size, 5, none⟩ = some (.int .i64 0) := HR.out.cell 5
  have v5 : (w.alloc (.cells #[.int .i64 0, .int .i64 0, .int .i64 0, .int .i64 0, .int .i64 0, .int .i64 0, .bool false] 25)).frozen? ⟨w.heap.size, 5, none⟩ = false := HR.out.frozen 5
  have r6 : (w.alloc (.cells #[.int .i64 0, .int .i64 0, .int .i64 0, .int .i64 0, .int .i64 0, .int .i64 0, .bool false] 25)).cell? ⟨w.heap.size, 6, none⟩ = some (.bool false) := HR.out.cell 6
  have v6 : (w.alloc (.cells #[.int .i64 0, .int .i64 0, .int .i64 0, .int .i64 0, .int .i64 0, .int .i64 0, .bool false] 25)).frozen? ⟨w.heap.size, 6, none⟩ = false := HR.out.frozen 6
  go_wp2_with (first
    | (go_at_call 21; refine HN.out.mono ?_; rintro e w' ⟨rfl, rfl⟩))
  refine bodyPost_ret (v := .tuple #[.agg #[.int .i64 z.f0.f0, .int .i64 z.f0.f1, .int .i64 z.f0.f2, .int .i64 z.f1, .int .i64 z.f2, .int .i64 z.f3, .bool z.f4], .int .i64 0]) ?_ rfl ⟨rfl, (Below.refl w.heap.size w).alloc (Nat.le_refl _) _⟩
  refine results_list (rs := [.cell 2 25, .tmp 3]) rfl (by simp) ?_
  exact Vals.cell w.heap.size 25 _ (0, 0) _ rfl (heap_alloc_new w _) Try.underlying25 rfl (by kernel_rfl) (Vals.tmp Vals.nil)
set_option maxHeartbeats 4000000 in
set_option maxRecDepth 100000 in
theorem cut_some (w : World) (base g : Nat) (A : Option Addr) (c : Nat) (l : List M) (x y : Int) (h : QAt w base g (.slice A l.length c) l) (hl : l.length ≤ 16384) (hn : ∃ m ∈ l, isOf x y m) :
    Calls Try.prog 11 #[.pointer (some ⟨g, 0, none⟩), .int .i64 x, .int .i64 y] w fun e w' => ∃ k : Nat, ∃ hk : k < l.length, isOf x y l[k] ∧ e = .returned (.tuple #[.agg (cM l[k]).toArray, .int .i64 0]) ∧ QAt w' base g (.slice A (cutL l k).length c) (cutL l k) ∧ Only w w' (fun b => b = g ∨ (Value.slice A l.length c).ownBlock = some b) := by
  have HB := hide ((Below.refl w.heap.size w).alloc (Nat.le_refl _) (.cells #[.int .i64 0, .int .i64 0, .int .i64 0, .int .i64 0, .int .i64 0, .int .i64 0, .bool false] 25))
  have HQ1 := hide (h.alloc (.cells #[.int .i64 0, .int .i64 0, .int .i64 0, .int .i64 0, .int .i64 0, .int .i64 0, .bool false] 25))
  have HR := hide (Blk.new w 25 #[.int .i64 0, .int .i64 0, .int .i64 0, .int .i64 0, .int .i64 0, .int .i64 0, .bool false])
  have HN := hide (none_call g _ _ HQ1.out.blk)
  have HF := hide (find_some _ base g A c l x y HQ1.out (by omega) hn)
  have HGR : Hid (w.heap.size ≠ g ∧ (Value.slice A l.length c).ownBlock ≠ some w.heap.size) := hide ⟨by have := h.blk.lt; omega, fun e => by have := (h.own.blk _ e).2; omega⟩
  have HL := hide hl
  have HO1 : Hid (Only w (w.alloc (.cells #[.int .i64 0, .int .i64 0, .int .i64 0, .int .i64 0, .int .i64 0, .int .i64 0, .bool false] 25)) (fun b => b = g ∨ (Value.slice A l.length c).ownBlock = some b)) := hide (only_of_below HB.out _)
  clear h hn hl
  go_enter Try.func11, Try.ntmps11
  go_wp2_with (first
    | (go_at_call 21; refine HN.out.mono ?_; rintro e w' ⟨rfl, rfl⟩))
  refine HF.out.mono ?_
  rintro e w2 ⟨⟨k, hk, rfl, hq⟩, hb⟩
  have hk0 : ¬ (k : Int) < 0 := by omega
  have HIs := hide hq
  have HQ2 := hide (HQ1.out.below hb)
  have HR2 := hide (HR.out.below' hb)
  have HO2 := hide (HO1.out.trans (only_of_below hb _))
  clear hb HB HQ1 HN HF HR HO1
  have HCut := hide (cut_call w2 base g A c l k HQ2.out hk HL.out)
  obtain ⟨z, hz⟩ : ∃ z, l[k] = z := ⟨_, rfl⟩
  rw [show l[k]?.getD default = z by rw [List.getElem?_eq_getElem hk]; exact hz] at HCut
  have HZ := hide hz
  clear hz
  unfold cM c25 at HCut
  go_wp2_with (first
    | (go_at_call 24; refine HCut.out.mono ?_; rintro e w3 ⟨rfl, hqq, ho⟩; have HQ3 := hide hqq; have HR3 := hide (HR2.out.only ho (fun e => by rcases e with e | e; exact HGR.out.1 e; exact HGR.out.2 e)); have HO3 := hide (HO2.out.trans ho); clear hqq ho HQ2 HR2 HO2; have r0 : w3.cell? ⟨w.heap.size, 0, none⟩ = some (.int .i64 0) := HR3.out.cell 0; have v0 : w3.frozen? ⟨w.heap.size, 0, none⟩ = false := HR3.out.frozen 0; have r1 : w3.cell? ⟨w.heap.size, 1, none⟩ = some (.int .i64 0) := HR3.out.cell 1; have v1 : w3.frozen? ⟨w.heap.size, 1, none⟩ = false := HR3.out.frozen 1; have r2 : w3.cell? ⟨w.heap.size, 2, none⟩ = some (.int .i64 0) := HR3.out.cell 2; have v2 : w3.frozen? ⟨w.heap.size, 2, none⟩ = false := HR3.out.frozen 2; have r3 : w3.cell? ⟨w.heap.size, 3, none⟩ = some (.int .i64 0) := HR3.out.cell 3; have v3 : w3.frozen? ⟨w.heap.size, 3, none⟩ = false := HR3.out.frozen 3; have r4 : w3.cell? ⟨w.heap.size, 4, none⟩ = some (.int .i64 0) := HR3.out.cell 4; have v4 : w3.frozen? ⟨w.heap.size, 4, none⟩ = false := HR3.out.frozen 4; have r5 : w3.cell? ⟨w.heap.size, 5, none⟩ = some (.int .i64 0) := HR3.out.cell 5; have v5 : w3.frozen? ⟨w.heap.size, 5, none⟩ = false := HR3.out.frozen 5; have r6 : w3.cell? ⟨w.heap.size, 6, none⟩ = some (.bool false) := HR3.out.cell 6; have v6 : w3.frozen? ⟨w.heap.size, 6, none⟩ = false := HR3.out.frozen 6))
  have hch : (((((((w3.setCell ⟨w.heap.size, 0, none⟩ (.int .i64 z.f0.f0)).setCell ⟨w.heap.size, 1, none⟩ (.int .i64 z.f0.f1)).setCell ⟨w.heap.size, 2, none⟩ (.int .i64 z.f0.f2)).setCell ⟨w.heap.size, 3, none⟩ (.int .i64 z.f1)).setCell ⟨w.heap.size, 4, none⟩ (.int .i64 z.f2)).setCell ⟨w.heap.size, 5, none⟩ (.int .i64 z.f3)).setCell ⟨w.heap.size, 6, none⟩ (.bool z.f4)) = w3.setCells w.heap.size 0 (c25 z) := rfl
  rw [hch]
  obtain ⟨e1, e2, e3⟩ := fin7 z HQ3.out HR3.out HO3.out (fun e => HGR.out.1 e.symm) (by have := HGR.out.2; cases A <;> exact this) (Nat.le_refl _)
  refine bodyPost_ret (v := .tuple #[.agg #[.int .i64 z.f0.f0, .int .i64 z.f0.f1, .int .i64 z.f0.f2, .int .i64 z.f1, .int .i64 z.f2, .int .i64 z.f3, .bool z.f4], .int .i64 0]) ?_ rfl ⟨k, hk, HIs.out, by rw [HZ.out]; rfl, e1, e3⟩
  refine results_list (rs := [.cell 6 25, .tmp 7]) rfl (by simp) ?_
  exact Vals.cell w.heap.size 25 _ (0, 0) _ rfl e2 Try.underlying25 rfl (by kernel_rfl) (Vals.tmp Vals.nil)
end Go.Proofs.Ytipgigbnfdgfmaa.HQ
