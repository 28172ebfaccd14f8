/- The contracts of cmp's and event's comparisons: what each answers, and that it only draws and lays blocks. No law is proved here. -/
import Derived.Test.YtkhdghlgkljdgaaTypes
import Derived.Test.YtkhdghlgkljdgaaHeap
import Derived.Sort.Grow
import Derived.StillTailTactics
import Derived.Deep.RegionHeld3
import Derived.Deep.QuietTactic
import Derived.BigQuiet
import Derived.Lib.Hide
import Derived.Test.YtkhdghlgkljdgaaWEqStruct
namespace Go.Proofs.Ytkhdghlgkljdgaa.Ord
open Go.RowKit Go.Sort Go.Proofs.Ytkhdghlgkljdgaa.Types Go.Proofs.Ytkhdghlgkljdgaa.Heap Go.Proofs.YtkhdghlgkljdgaaW.PrintWords Go.Proofs.YtkhdghlgkljdgaaW.PrintLast Go.Proofs.YtkhdghlgkljdgaaW.PrintMore
set_option linter.unusedVariables false
set_option linter.unusedSimpArgs false
theorem unhide {p : Prop} (h : Hid p) : p := h
/-- The world has drawn, and bears new blocks; nothing else. -/
def Gr (w w' : World) : Prop := ∃ q os, w' = grow (w.drewN q) os
theorem Gr.refl (w : World) : Gr w w := ⟨0, #[], by rw [grow_empty]; rfl⟩
theorem Gr.trans {a b c : World} (h : Gr a b) (k : Gr b c) : Gr a c := by
  obtain ⟨q, os, rfl⟩ := h
  obtain ⟨r, os', rfl⟩ := k
  exact ⟨q + r, os ++ os', by show grow (grow ((a.drewN q).drewN r) os) os' = _; rw [grow_grow, World.drewN_drewN]⟩
theorem Gr.alloc {a b : World} (h : Gr a b) (o : Obj) : Gr a (b.alloc o) := h.trans ⟨0, #[o], by rw [alloc_eq_grow]; rfl⟩
theorem Gr.drew {a b : World} (h : Gr a b) : Gr a b.drew := h.trans ⟨1, #[], by rw [grow_empty]; rfl⟩
theorem Gr.drewN {a b : World} (h : Gr a b) (n : Nat) : Gr a (b.drewN n) := h.trans ⟨n, #[], by rw [grow_empty]⟩
theorem Gr.below {a b : World} (h : Gr a b) : Below a.heap.size a b := by
  obtain ⟨q, os, rfl⟩ := h
  exact ⟨rfl, rfl, rfl, by show a.heap.size ≤ (a.heap ++ os).size; simp, fun i hi => by show (a.heap ++ os)[i]? = _; rw [Array.getElem?_append_left hi]⟩

def sg (a b : Int) : Int := if a < b then -1 else if a > b then 1 else 0
def ck (a b c x y z : Int) : Int := if a = x then (if b = y then sg c z else sg b y) else sg a x
theorem sg_zero (a b : Int) : sg a b = 0 ↔ a = b := by
  unfold sg
  repeat' split
  all_goals omega
def ord (a0 a1 a2 a5 b0 b1 b2 b5 : Int) : Int := if ck a0 a1 a2 b0 b1 b2 = 0 then sg a5 b5 else ck a0 a1 a2 b0 b1 b2
def bef (a0 a1 a2 a5 b0 b1 b2 b5 : Int) : Bool := decide (ord a0 a1 a2 a5 b0 b1 b2 b5 < 0)

theorem nan64_call (a : Int) (w : World) : Calls Try.prog 49 #[.int .i64 a] w fun e w' => e = .returned (.bool false) ∧ w = w' := by
  go_enter Try.func49, Try.ntmps49
  go_wp2
  go_ret
  exact ⟨by simp, rfl⟩
theorem nan_call (a : Int) (w : World) : Calls Try.prog 45 #[.int .i64 a] w fun e w' => e = .returned (.bool false) ∧ w = w' := by
  go_enter Try.func45, Try.ntmps45
  go_wp2
  go_ret
  exact ⟨by simp, rfl⟩
theorem cmp64_call (a b : Int) (w : World) : Calls Try.prog 44 #[.int .i64 a, .int .i64 b] w fun e w' => e = .returned (.int .i64 (sg a b)) ∧ w = w' := by
  obtain ⟨s, hs⟩ : ∃ s, sg a b = s := ⟨_, rfl⟩
  rw [hs]
  by_cases h1 : a < b
  · obtain rfl : s = -1 := by rw [← hs]; unfold sg; rw [if_pos h1]
    clear hs
    go_enter Try.func44, Try.ntmps44
    go_wp2_with (go_at_call 49; refine (nan64_call _ _).mono ?_; rintro e w' ⟨rfl, rfl⟩)
    go_ret
    exact ⟨rfl, rfl⟩
  · by_cases h2 : b < a
    · obtain rfl : s = 1 := by rw [← hs]; unfold sg; rw [if_neg h1, if_pos h2]
      clear hs
      go_enter Try.func44, Try.ntmps44
      go_wp2_with (go_at_call 49; refine (nan64_call _ _).mono ?_; rintro e w' ⟨rfl, rfl⟩)
      go_ret
      exact ⟨rfl, rfl⟩
    · obtain rfl : s = 0 := by rw [← hs]; unfold sg; rw [if_neg h1, if_neg h2]
      clear hs
      go_enter Try.func44, Try.ntmps44
      go_wp2_with (go_at_call 49; refine (nan64_call _ _).mono ?_; rintro e w' ⟨rfl, rfl⟩)
      go_ret
      exact ⟨rfl, rfl⟩
theorem cmp_call (a b : Int) (w : World) : Calls Try.prog 40 #[.int .i64 a, .int .i64 b] w fun e w' => e = .returned (.int .i64 (sg a b)) ∧ w = w' := by
  obtain ⟨s, hs⟩ : ∃ s, sg a b = s := ⟨_, rfl⟩
  rw [hs]
  by_cases h1 : a < b
  · obtain rfl : s = -1 := by rw [← hs]; unfold sg; rw [if_pos h1]
    clear hs
    go_enter Try.func40, Try.ntmps40
    go_wp2_with (go_at_call 45; refine (nan_call _ _).mono ?_; rintro e w' ⟨rfl, rfl⟩)
    go_ret
    exact ⟨rfl, rfl⟩
  · by_cases h2 : b < a
    · obtain rfl : s = 1 := by rw [← hs]; unfold sg; rw [if_neg h1, if_pos h2]
      clear hs
      go_enter Try.func40, Try.ntmps40
      go_wp2_with (go_at_call 45; refine (nan_call _ _).mono ?_; rintro e w' ⟨rfl, rfl⟩)
      go_ret
      exact ⟨rfl, rfl⟩
    · obtain rfl : s = 0 := by rw [← hs]; unfold sg; rw [if_neg h1, if_neg h2]
      clear hs
      go_enter Try.func40, Try.ntmps40
      go_wp2_with (go_at_call 45; refine (nan_call _ _).mono ?_; rintro e w' ⟨rfl, rfl⟩)
      go_ret
      exact ⟨rfl, rfl⟩
/-- The first of three that is not 0. -/
theorem or3_call (g : Nat) (x y z : Int) (w : World) (h : Blk w g 3 #[.int .i64 x, .int .i64 y, .int .i64 z]) :
    Calls Try.prog 38 #[.slice (some ⟨g, 0, none⟩) 3 3] w fun e w' => e = .returned (.int .i64 (if x = 0 then (if y = 0 then z else y) else x)) ∧ w = w' := by
  have c0 : w.cell? ⟨g, 0, none⟩ = some (.int .i64 x) := h.cell 0
  have c1 : w.cell? ⟨g, 1, none⟩ = some (.int .i64 y) := h.cell 1
  have c2 : w.cell? ⟨g, 2, none⟩ = some (.int .i64 z) := h.cell 2
  clear h
  by_cases h1 : x = 0
  · subst h1
    by_cases h2 : y = 0
    · subst h2
      by_cases h3 : z = 0
      · subst h3
        go_enter Try.func38, Try.ntmps38
        go_wp2
        refine wp_loop_rounds 4 ?_
        rw [rounds_succ]
        go_wp2
        rw [rounds_succ]
        go_wp2
        rw [rounds_succ]
        go_wp2
        rw [rounds_succ]
        go_wp2
        go_ret
        exact ⟨rfl, rfl⟩
      · have b1 : (z == 0) = false := by simpa using h3
        have b2 : (z != 0) = true := by simpa using h3
        rw [if_pos rfl, if_pos rfl]
        clear h3
        go_enter Try.func38, Try.ntmps38
        go_wp2
        refine wp_loop_rounds 3 ?_
        rw [rounds_succ]
        go_wp2
        rw [rounds_succ]
        go_wp2
        rw [rounds_succ]
        go_wp2
        go_ret
        exact ⟨rfl, rfl⟩
    · have b1 : (y == 0) = false := by simpa using h2
      have b2 : (y != 0) = true := by simpa using h2
      rw [if_pos rfl, if_neg h2]
      clear h2
      go_enter Try.func38, Try.ntmps38
      go_wp2
      refine wp_loop_rounds 2 ?_
      rw [rounds_succ]
      go_wp2
      rw [rounds_succ]
      go_wp2
      go_ret
      exact ⟨rfl, rfl⟩
  · have b1 : (x == 0) = false := by simpa using h1
    have b2 : (x != 0) = true := by simpa using h1
    rw [if_neg h1]
    clear h1
    go_enter Try.func38, Try.ntmps38
    go_wp2
    refine wp_loop_rounds 1 ?_
    rw [rounds_succ]
    go_wp2
    go_ret
    exact ⟨rfl, rfl⟩
theorem or2_call (g : Nat) (x y : Int) (w : World) (h : Blk w g 3 #[.int .i64 x, .int .i64 y]) :
    Calls Try.prog 38 #[.slice (some ⟨g, 0, none⟩) 2 2] w fun e w' => e = .returned (.int .i64 (if x = 0 then y else x)) ∧ w = w' := by
  have c0 : w.cell? ⟨g, 0, none⟩ = some (.int .i64 x) := h.cell 0
  have c1 : w.cell? ⟨g, 1, none⟩ = some (.int .i64 y) := h.cell 1
  clear h
  by_cases h1 : x = 0
  · subst h1
    by_cases h2 : y = 0
    · subst h2
      go_enter Try.func38, Try.ntmps38
      go_wp2
      refine wp_loop_rounds 3 ?_
      rw [rounds_succ]
      go_wp2
      rw [rounds_succ]
      go_wp2
      rw [rounds_succ]
      go_wp2
      go_ret
      exact ⟨rfl, rfl⟩
    · have b1 : (y == 0) = false := by simpa using h2
      have b2 : (y != 0) = true := by simpa using h2
      rw [if_pos rfl]
      clear h2
      go_enter Try.func38, Try.ntmps38
      go_wp2
      refine wp_loop_rounds 2 ?_
      rw [rounds_succ]
      go_wp2
      rw [rounds_succ]
      go_wp2
      go_ret
      exact ⟨rfl, rfl⟩
  · have b1 : (x == 0) = false := by simpa using h1
    have b2 : (x != 0) = true := by simpa using h1
    rw [if_neg h1]
    clear h1
    go_enter Try.func38, Try.ntmps38
    go_wp2
    refine wp_loop_rounds 1 ?_
    rw [rounds_succ]
    go_wp2
    go_ret
    exact ⟨rfl, rfl⟩
theorem eqK (d : Nat) (w : World) (x0 y0 x1 y1 x2 y2 : Int) :
    (Op.equalIn (d + 2) 23 (.agg #[.int .i64 x0, .int .i64 x1, .int .i64 x2]) (.agg #[.int .i64 y0, .int .i64 y1, .int .i64 y2])).run Try.prog w = .ok (x0 == y0 && (x1 == y1 && (x2 == y2))) w := by
  refine eqA_of Try.underlying23 (by kernel_rfl) ?_
  refine eqf_cons (by rfl) (by go_simp; rfl) (by go_simp; rfl) (by go_simp) ?_
  refine eqf_cons (by rfl) (by go_simp; rfl) (by go_simp; rfl) (by go_simp) ?_
  exact eqf_last (by rfl) (by go_simp; rfl) (by go_simp; rfl) (by go_simp)
attribute [local go_sem high] eqK
set_option maxHeartbeats 4000000 in
set_option maxRecDepth 100000 in
theorem ck_call (a b c x y z : Int) (w : World) : Calls Try.prog 39 #[.agg #[.int .i64 a, .int .i64 b, .int .i64 c], .agg #[.int .i64 x, .int .i64 y, .int .i64 z]] w fun e w' => e = .returned (.int .i64 (ck a b c x y z)) ∧ Gr w w' := by
  have hu := Try.underlying23
  have G2 : Hid (Gr w ((w.alloc (.cells #[.int .i64 a, .int .i64 b, .int .i64 c] 23)).alloc (.cells #[.int .i64 x, .int .i64 y, .int .i64 z] 23))) := hide (((Gr.refl w).alloc _).alloc _)
  by_cases h : (a == x && (b == y && (c == z))) = true
  · have e : ck a b c x y z = 0 := by
      simp at h
      obtain ⟨rfl, rfl, rfl⟩ := h
      simp [ck, sg]
    rw [e]
    clear e
    go_enter Try.func39, Try.ntmps39
    go_wp2
    go_ret
    exact ⟨rfl, G2.out⟩
  · have hf : (a == x && (b == y && (c == z))) = false := by simpa using h
    have e : ck a b c x y z = (if sg a x = 0 then (if sg b y = 0 then sg c z else sg b y) else sg a x) := by
      unfold ck
      by_cases q1 : a = x
      · rw [if_pos q1, if_pos ((sg_zero a x).2 q1)]
        by_cases q2 : b = y
        · rw [if_pos q2, if_pos ((sg_zero b y).2 q2)]
        · rw [if_neg q2, if_neg (fun q => q2 ((sg_zero b y).1 q))]
      · rw [if_neg q1, if_neg (fun q => q1 ((sg_zero a x).1 q))]
    rw [e]
    clear e h
    obtain ⟨s, hs⟩ : ∃ s, sg a x = s := ⟨_, rfl⟩
    obtain ⟨t, ht⟩ : ∃ s, sg b y = s := ⟨_, rfl⟩
    obtain ⟨u, hu'⟩ : ∃ s, sg c z = s := ⟨_, rfl⟩
    rw [hs, ht, hu']
    have H1 := hide (fun W => cmp64_call a x W)
    have H2 := hide (fun W => cmp_call b y W)
    have H3 := hide (fun W => cmp_call c z W)
    rw [hs] at H1
    rw [ht] at H2
    rw [hu'] at H3
    clear hs ht hu'
    have H4 := hide (fun (g : Nat) (W : World) (h : Blk W g 3 #[.int .i64 s, .int .i64 t, .int .i64 u]) => or3_call g s t u W h)
    obtain ⟨r, hr⟩ : ∃ r, (if s = 0 then (if t = 0 then u else t) else s) = r := ⟨_, rfl⟩
    rw [hr] at H4 ⊢
    clear hr
    go_enter Try.func39, Try.ntmps39
    go_wp2_with fail
    have BA := hide ((Blk.new w 23 #[.int .i64 a, .int .i64 b, .int .i64 c]).alloc (.cells #[.int .i64 x, .int .i64 y, .int .i64 z] 23))
    have BB : Hid (Blk ((w.alloc (.cells #[.int .i64 a, .int .i64 b, .int .i64 c] 23)).alloc (.cells #[.int .i64 x, .int .i64 y, .int .i64 z] 23)) (w.heap.size + 1) 23 #[.int .i64 x, .int .i64 y, .int .i64 z]) := hide (by
      have := Blk.new (w.alloc (.cells #[.int .i64 a, .int .i64 b, .int .i64 c] 23)) 23 #[.int .i64 x, .int .i64 y, .int .i64 z]
      rw [World.size_alloc] at this
      exact this)
    generalize (w.alloc (.cells #[.int .i64 a, .int .i64 b, .int .i64 c] 23)).alloc (.cells #[.int .i64 x, .int .i64 y, .int .i64 z] 23) = W at G2 BA BB ⊢
    obtain ⟨ga, hga⟩ : ∃ g, w.heap.size = g := ⟨_, rfl⟩
    rw [hga] at BA BB ⊢
    clear hga
    have c0 : W.cell? ⟨ga, 0, none⟩ = some (.int .i64 a) := BA.out.cell 0
    have c1 : W.cell? ⟨ga, 1, none⟩ = some (.int .i64 b) := BA.out.cell 1
    have c2 : W.cell? ⟨ga, 2, none⟩ = some (.int .i64 c) := BA.out.cell 2
    have d0 : W.cell? ⟨ga + 1, 0, none⟩ = some (.int .i64 x) := BB.out.cell 0
    have d1 : W.cell? ⟨ga + 1, 1, none⟩ = some (.int .i64 y) := BB.out.cell 1
    have d2 : W.cell? ⟨ga + 1, 2, none⟩ = some (.int .i64 z) := BB.out.cell 2
    go_region_held3 (fun w' => w'.cell? ⟨ga, 0, none⟩ = some (.int .i64 a) ∧ w'.cell? ⟨ga, 1, none⟩ = some (.int .i64 b) ∧ w'.cell? ⟨ga, 2, none⟩ = some (.int .i64 c) ∧ w'.cell? ⟨ga + 1, 0, none⟩ = some (.int .i64 x) ∧ w'.cell? ⟨ga + 1, 1, none⟩ = some (.int .i64 y) ∧ w'.cell? ⟨ga + 1, 2, none⟩ = some (.int .i64 z)) (first | exact ⟨by assumption, by assumption, by assumption, by assumption, by assumption, by assumption⟩ | go_keep)
      (first
        | (go_at_call 44; refine (H1.out _).mono ?_; rintro e w' ⟨rfl, rfl⟩)
        | (go_at_call 40; ((with_reducible refine (H2.out _).mono ?_); rintro e w' ⟨rfl, rfl⟩))
        | (go_at_call 40; ((with_reducible refine (H3.out _).mono ?_); rintro e w' ⟨rfl, rfl⟩))
        | (go_at_call 38; ((refine (H4.out _ _ (by first | exact (Blk.new _ _ _).drew | exact Blk.new _ _ _)).mono ?_); rintro e w' ⟨rfl, rfl⟩)))
    go_wp2_with fail
    go_ret
    exact ⟨rfl, by repeat (first | exact G2.out | apply Gr.alloc | apply Gr.drew | apply Gr.drewN)⟩

set_option maxHeartbeats 4000000 in
set_option maxRecDepth 100000 in
theorem order_call (x y : S25) (w : World) : Calls Try.prog 28 #[.agg (c25 x).toArray, .agg (c25 y).toArray] w fun e w' => e = .returned (.int .i64 (ord x.f0.f0 x.f0.f1 x.f0.f2 x.f3 y.f0.f0 y.f0.f1 y.f0.f2 y.f3)) ∧ Gr w w' := by
  have hu := Try.underlying25
  have hk := Try.underlying23
  have G2 : Hid (Gr w ((w.alloc (.cells (c25 x).toArray 25)).alloc (.cells (c25 y).toArray 25))) := hide (((Gr.refl w).alloc _).alloc _)
  have BA := hide ((Blk.new w 25 (c25 x).toArray).alloc (.cells (c25 y).toArray 25))
  have BB : Hid (Blk ((w.alloc (.cells (c25 x).toArray 25)).alloc (.cells (c25 y).toArray 25)) (w.heap.size + 1) 25 (c25 y).toArray) := hide (by
    have := Blk.new (w.alloc (.cells (c25 x).toArray 25)) 25 (c25 y).toArray
    rw [World.size_alloc] at this
    exact this)
  have H1 := hide (fun W => ck_call x.f0.f0 x.f0.f1 x.f0.f2 y.f0.f0 y.f0.f1 y.f0.f2 W)
  have H2 := hide (fun W => cmp_call x.f3 y.f3 W)
  unfold ord
  obtain ⟨s, hs⟩ : ∃ s, ck x.f0.f0 x.f0.f1 x.f0.f2 y.f0.f0 y.f0.f1 y.f0.f2 = s := ⟨_, rfl⟩
  obtain ⟨t, ht⟩ : ∃ s, sg x.f3 y.f3 = s := ⟨_, rfl⟩
  rw [hs, ht]
  rw [hs] at H1
  rw [ht] at H2
  clear hs ht
  have H4 := hide (fun (g : Nat) (W : World) (h : Blk W g 3 #[.int .i64 s, .int .i64 t]) => or2_call g s t W h)
  obtain ⟨r, hr⟩ : ∃ r, (if s = 0 then t else s) = r := ⟨_, rfl⟩
  rw [hr] at H4 ⊢
  clear hr
  unfold c25 at G2 BA BB ⊢
  go_enter Try.func28, Try.ntmps28
  go_wp2_with fail
  generalize hW : (w.alloc (.cells #[.int .i64 x.f0.f0, .int .i64 x.f0.f1, .int .i64 x.f0.f2, .int .i64 x.f1, .int .i64 x.f2, .int .i64 x.f3, .bool x.f4] 25)).alloc (.cells #[.int .i64 y.f0.f0, .int .i64 y.f0.f1, .int .i64 y.f0.f2, .int .i64 y.f1, .int .i64 y.f2, .int .i64 y.f3, .bool y.f4] 25) = W at G2 BA BB ⊢
  obtain ⟨ga, hga⟩ : ∃ g, w.heap.size = g := ⟨_, rfl⟩
  rw [hga] at BA BB ⊢
  clear hga hW
  have c0 : W.cell? ⟨ga, 0, none⟩ = some (.int .i64 x.f0.f0) := BA.out.cell 0
  have c1 : W.cell? ⟨ga, 1, none⟩ = some (.int .i64 x.f0.f1) := BA.out.cell 1
  have c2 : W.cell? ⟨ga, 2, none⟩ = some (.int .i64 x.f0.f2) := BA.out.cell 2
  have c5 : W.cell? ⟨ga, 5, none⟩ = some (.int .i64 x.f3) := BA.out.cell 5
  have d0 : W.cell? ⟨ga + 1, 0, none⟩ = some (.int .i64 y.f0.f0) := BB.out.cell 0
  have d1 : W.cell? ⟨ga + 1, 1, none⟩ = some (.int .i64 y.f0.f1) := BB.out.cell 1
  have d2 : W.cell? ⟨ga + 1, 2, none⟩ = some (.int .i64 y.f0.f2) := BB.out.cell 2
  have d5 : W.cell? ⟨ga + 1, 5, none⟩ = some (.int .i64 y.f3) := BB.out.cell 5
  go_region_held3 (fun w' => w'.cell? ⟨ga, 0, none⟩ = some (.int .i64 x.f0.f0) ∧ w'.cell? ⟨ga, 1, none⟩ = some (.int .i64 x.f0.f1) ∧ w'.cell? ⟨ga, 2, none⟩ = some (.int .i64 x.f0.f2) ∧ w'.cell? ⟨ga, 5, none⟩ = some (.int .i64 x.f3) ∧ w'.cell? ⟨ga + 1, 0, none⟩ = some (.int .i64 y.f0.f0) ∧ w'.cell? ⟨ga + 1, 1, none⟩ = some (.int .i64 y.f0.f1) ∧ w'.cell? ⟨ga + 1, 2, none⟩ = some (.int .i64 y.f0.f2) ∧ w'.cell? ⟨ga + 1, 5, none⟩ = some (.int .i64 y.f3)) (first | exact ⟨by assumption, by assumption, by assumption, by assumption, by assumption, by assumption, by assumption, by assumption⟩ | go_keep)
    (first
      | (go_at_call 39; ((refine (H1.out _).mono ?_); rintro e w1 ⟨rfl, hg⟩; have HG := hide (G2.out.drew.trans hg); have hb := hg.below; have c0 : w1.cell? ⟨ga, 0, none⟩ = some (.int .i64 x.f0.f0) := (BA.out.drew.below' hb).cell 0; have c1 : w1.cell? ⟨ga, 1, none⟩ = some (.int .i64 x.f0.f1) := (BA.out.drew.below' hb).cell 1; have c2 : w1.cell? ⟨ga, 2, none⟩ = some (.int .i64 x.f0.f2) := (BA.out.drew.below' hb).cell 2; have c5 : w1.cell? ⟨ga, 5, none⟩ = some (.int .i64 x.f3) := (BA.out.drew.below' hb).cell 5; have d0 : w1.cell? ⟨ga + 1, 0, none⟩ = some (.int .i64 y.f0.f0) := (BB.out.drew.below' hb).cell 0; have d1 : w1.cell? ⟨ga + 1, 1, none⟩ = some (.int .i64 y.f0.f1) := (BB.out.drew.below' hb).cell 1; have d2 : w1.cell? ⟨ga + 1, 2, none⟩ = some (.int .i64 y.f0.f2) := (BB.out.drew.below' hb).cell 2; have d5 : w1.cell? ⟨ga + 1, 5, none⟩ = some (.int .i64 y.f3) := (BB.out.drew.below' hb).cell 5; clear hg hb))
      | (go_at_call 40; ((refine (H2.out _).mono ?_); rintro e w' ⟨rfl, rfl⟩))
      | (go_at_call 38; ((refine (H4.out _ _ (by first | exact (Blk.new _ _ _).drew | exact Blk.new _ _ _)).mono ?_); rintro e w' ⟨rfl, rfl⟩)))
  go_wp2_with fail
  go_ret
  exact ⟨rfl, by repeat (first | exact HG.out | apply Gr.alloc | apply Gr.drew | apply Gr.drewN)⟩

def ordM (x y : S25) : Int := ord x.f0.f0 x.f0.f1 x.f0.f2 x.f3 y.f0.f0 y.f0.f1 y.f0.f2 y.f3
/-- Is the first message ahead of the second? -/
def befM (x y : S25) : Bool := decide (ordM x y < 0)
theorem before_call (x y : S25) (w : World) : Calls Try.prog 35 #[.agg (c25 x).toArray, .agg (c25 y).toArray] w fun e w' => e = .returned (.bool (befM x y)) ∧ Gr w w' := by
  have G2 : Hid (Gr w ((w.alloc (.cells (c25 x).toArray 25)).alloc (.cells (c25 y).toArray 25))) := hide (((Gr.refl w).alloc _).alloc _)
  have H1 := hide (fun W => order_call x y W)
  unfold befM ordM
  obtain ⟨s, hs⟩ : ∃ s, ord x.f0.f0 x.f0.f1 x.f0.f2 x.f3 y.f0.f0 y.f0.f1 y.f0.f2 y.f3 = s := ⟨_, rfl⟩
  rw [hs]
  rw [hs] at H1
  clear hs
  unfold c25 at G2 H1 ⊢
  go_enter Try.func35, Try.ntmps35
  go_wp2_with (go_at_call 28; ((refine (H1.out _).mono ?_); rintro e w1 ⟨rfl, hg⟩; have HG := hide (G2.out.trans hg); clear hg))
  go_ret
  exact ⟨rfl, by first | exact HG.out | exact G2.out.trans HG.out⟩
end Go.Proofs.Ytkhdghlgkljdgaa.Ord
