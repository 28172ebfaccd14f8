/- The heap's find: a range over its iterator. No law is proved here. -/
import Derived.RangeFuncBox
import Derived.RangeFuncNested
import Derived.RangeFuncBound
import Derived.RangeFuncCalls
import Derived.RangeFuncLeaves
import Derived.Shelf.Abstract
import Derived.Shelf.RegionOpen
import Derived.WalkKit
import Derived.OwnWalkIn
import Derived.TacticsInMore
import Derived.LoopNIn
import Derived.LoopIn
import Derived.Test.YtipgigbnfdgfmaaSorted
import Derived.Test.YtipgigbnfdgfmaaGrK
import Derived.Test.YtipgigbnfdgfmaaLex
namespace Go.Proofs.Ytipgigbnfdgfmaa.HF
open Go.Proofs Go.RowKit Go.Shelf Go.Sort Go.Proofs.Ytipgigbnfdgfmaa.Types Go.Proofs.Ytipgigbnfdgfmaa.Heap Go.Proofs.Ytipgigbnfdgfmaa.Row Go.Proofs.Ytipgigbnfdgfmaa.Ord Go.Proofs.YtipgigbnfdgfmaaW.PrintWords Go.Proofs.YtipgigbnfdgfmaaW.PrintLast Go.Proofs.YtipgigbnfdgfmaaW.PrintMore
set_option linter.unusedVariables false
set_option linter.unusedSimpArgs false
attribute [local go_sem] Oper.semAt_some
abbrev M := S25
abbrev cM (x : M) : List Value := c25 x
abbrev tH : TypeId := 45
def upto {α : Type} (f : Nat → α) (k : Nat) : List α := (List.range k).map f
theorem upto_succ {α : Type} (f : Nat → α) (k : Nat) : upto f (k + 1) = upto f k ++ [f k] := by simp [upto, List.range_succ]
theorem upto_length {α : Type} (f : Nat → α) (k : Nat) : (upto f k).length = k := by simp [upto]
set_option maxRecDepth 100000 in
set_option maxHeartbeats 4000000 in
theorem each1_in (F : Fence) (n : Nat) (h7 : F.fn 41) (hro : F.round = none) (hn : 1 ≤ n) (l Bs n₀ g c : Nat) (A : Option Addr) (zs : List M) (hreach : zs.length ≤ 4398046511104) (J Jx : List (Nat × M) → World → Prop) (hJ : ∀ s B o, J s B → J s (B.alloc o))
    (hY : ∀ pre x W, J pre W → pre.length < zs.length → YieldAt F (n - 1) Try.prog l #[.int .i64 (x.1 : Int), .agg (cM x.2).toArray] W fun e W' =>
      (e = .returned (.bool true) ∧ J (pre ++ [x]) W' ∧ Below n₀ W W') ∨ (e = .returned (.bool false) ∧ Jx (pre ++ [x]) W'))
    (W : World) (hBs : W.cell? ⟨Bs, 0, none⟩ = some (.pointer (some ⟨g, 0, none⟩))) (hg : W.cell? ⟨g, 0, none⟩ = some (.slice A zs.length c)) (hnW : n₀ ≤ W.heap.size) (hr : Kd.C k25 W A zs.length zs) (hA : ∀ ad, A = some ad → 0 < zs.length → ad.block < n₀) (h0 : J [] W) :
    CallsIn F n Try.prog 41 #[.func (.yield l) #[] #[], .pointer (some ⟨Bs, 0, none⟩)] W fun e W' => (∃ v, e = .returned v) ∧
      ((∃ ys, ys = upto (fun j => (j, zs[j]?.getD default)) zs.length ∧ J ys W') ∨ (∃ pre, (∃ k, k ≤ zs.length ∧ pre = upto (fun j => (j, zs[j]?.getD default)) k) ∧ Jx pre W')) := by
  refine callsIn_of_wp Try.func41 rfl h7 ?_ hro
  simp only [Try.ntmps41, List.size_toArray, List.length_cons, List.length_nil, Nat.reduceAdd, Nat.reduceSub, Array.replicate_succ, Array.replicate_zero, List.push_toArray, List.append_toArray, List.nil_append, List.cons_append]
  gi_wp2
  gi_loopw [10] (fun i wr => ∃ k : Nat, k ≤ zs.length ∧ i = .int .i64 k ∧ J (upto (fun j => (j, zs[j]?.getD default)) k) wr ∧ Below n₀ W wr ∧ W.heap.size ≤ wr.heap.size)
    (fun i _ => zs.length - (intOf i).toNat)
  case atStart => exact ⟨0, Nat.zero_le _, rfl, h0, Below.refl _ _, Nat.le_refl _⟩
  case round =>
    obtain ⟨k, hk, rfl, hJs, hnx, hsz⟩ := hrel
    by_cases hlt2 : k < zs.length
    · obtain ⟨ad, rfl, p0, p1, p2, p3, p4, p5, p6⟩ := at_S25 hr hlt2
      have hab := hA _ rfl (by omega)
      have hab2 : (ad.add (k * 7)).block < n₀ := by unfold Addr.add; split <;> exact hab
      obtain ⟨⟨b, o, sub⟩, had⟩ : ∃ a, ad.add (k * 7) = a := ⟨_, rfl⟩
      rw [had] at p0 p1 p2 p3 p4 p5 p6 hab2
      simp only at p1 p2 p3 p4 p5 p6 hab2
      have tr : ∀ (a : Addr) (v : Value), a.block < n₀ → W.cell? a = some v → wr.cell? a = some v := fun a v ha h => (hnx.cell (p := a) ha).trans h
      have q0 := tr _ _ hab2 p0
      have q1 := tr _ _ (by exact hab2) p1
      have q2 := tr _ _ (by exact hab2) p2
      have q3 := tr _ _ (by exact hab2) p3
      have q4 := tr _ _ (by exact hab2) p4
      have q5 := tr _ _ (by exact hab2) p5
      have q6 := tr _ _ (by exact hab2) p6
      have hzk : zs[k]?.getD default = zs[k] := by rw [List.getElem?_eq_getElem hlt2]; rfl
      obtain ⟨fn, tmps, assign, body, hy, hR⟩ := hY _ (k, zs[k]) (wr.alloc (.cells (cM zs[k]).toArray 25)) (hJ _ _ _ hJs) (by rw [upto_length]; exact hlt2)
      dsimp only at hy
      have hsucc : upto (fun j => (j, zs[j]?.getD default)) (k + 1) = upto (fun j => (j, zs[j]?.getD default)) k ++ [(k, zs[k])] := by rw [upto_succ, hzk]
      obtain ⟨z, hz⟩ : ∃ z, zs[k] = z := ⟨_, rfl⟩
      rw [hz] at q0 q1 q2 q3 q4 q5 q6 hy hR hsucc
      clear hz hzk p0 p1 p2 p3 p4 p5 p6 tr
      unfold cM c25 at hy hR
      gi_wp2
      refine hR.mono ?_
      rintro e W3 (⟨rfl, hJ3, hk3⟩ | ⟨rfl, hJx3⟩)
      · gi_wp2
        go_roundw
        case rel => exact ⟨k + 1, by omega, by go_num, by rw [hsucc]; exact hJ3, (hnx.alloc (by omega) _).trans hk3, by have := hk3.size; simp at this; omega⟩
        case measure => simp [intOf]; omega
      · gi_wp2
        refine bodyPost_ret (results_none rfl _ _ _) rfl ?_
        exact ⟨⟨_, rfl⟩, .inr ⟨_, ⟨k + 1, by omega, hsucc.symm⟩, hJx3⟩⟩
    · obtain rfl : k = zs.length := by omega
      gi_wp2
      go_end0
      exact ⟨⟨_, rfl⟩, .inl ⟨_, rfl, hJs⟩⟩

set_option maxHeartbeats 1000000 in
theorem each_in (F : Fence) (n : Nat) (h5 : F.fn 31) (hro : F.round = none) (a : Option Addr) (w : World) :
    CallsIn F n Try.prog 31 #[.pointer a] w fun e w' => e = .returned (.func (.func 41) #[] #[.pointer (some ⟨w.heap.size, 0, none⟩)]) ∧ w' = w.alloc (.cells #[.pointer a] 68) := by
  refine callsIn_of_wp Try.func31 rfl h5 ?_ hro
  simp only [Try.ntmps31, List.size_toArray, List.length_cons, List.length_nil, Nat.reduceAdd, Nat.reduceSub, Array.replicate_succ, Array.replicate_zero, List.push_toArray, List.append_toArray, List.nil_append, List.cons_append]
  gi_wp2
  go_ret
  exact ⟨rfl, rfl⟩
/-- In w, w0 lies as it lay; the pile at g holds zs, which lie in w0. -/
structure Has (w0 w : World) (g c : Nat) (A : Option Addr) (zs : List M) : Prop where
  cell : w.cell? ⟨g, 0, none⟩ = some (.slice A zs.length c)
  lt : g < w0.heap.size
  row : Kd.C k25 w0 A zs.length zs
  bel : Below w0.heap.size w0 w
theorem Has.below {w0 w w' : World} {g c : Nat} {A : Option Addr} {zs : List M} (h : Has w0 w g c A zs) (hb : Below w0.heap.size w w') : Has w0 w' g c A zs :=
  ⟨(hb.cell (p := ⟨g, 0, none⟩) h.lt).trans h.cell, h.lt, h.row, h.bel.trans hb⟩
theorem Has.blk {w0 w : World} {g c : Nat} {A : Option Addr} {zs : List M} (h : Has w0 w g c A zs) : ∀ ad, A = some ad → 0 < zs.length → ad.block < w0.heap.size := fun ad ha h0 => by
  obtain ⟨ad', e, p0, _⟩ := at_S25 h.row h0
  rw [ha] at e
  cases e
  have := block_lt_of_cell p0
  unfold Addr.add at this
  split at this <;> exact this
theorem each_stops (F : Fence) (n : Nat) (h7 : F.fn 41) (hro : F.round = none) (hn : 1 ≤ n) (w0 : World) (Bs g c : Nat) (A : Option Addr) (zs : List M) (hreach : zs.length ≤ 4398046511104) (w : World) (hBs : Bs < w.heap.size)
    (hc : w.cell? ⟨Bs, 0, none⟩ = some (.pointer (some ⟨g, 0, none⟩))) (hI : Has w0 w g c A zs) :
    SeqStopsK F n Try.prog 41 #[.pointer (some ⟨Bs, 0, none⟩)] (fun x : Nat × M => #[Value.int .i64 (x.1 : Int), Value.agg (cM x.2).toArray]) (Below w0.heap.size) (fun ys => ys = upto (fun j => (j, zs[j]?.getD default)) zs.length)
      (fun pre => ∃ k, k ≤ zs.length ∧ pre = upto (fun j => (j, zs[j]?.getD default)) k) zs.length w := fun l J Jx W hW hJ _ hY h0 => by
  have hc' := (hW.cell (p := ⟨Bs, 0, none⟩) hBs).trans hc
  have hI' := hI.below (hW.mono hI.bel.size)
  exact each1_in F n h7 hro hn l Bs w0.heap.size g c A zs hreach J Jx (fun s B o h => hJ s B _ none h (World.grownBy_alloc B o none) (by simp)) hY W hc' hI'.cell hI'.bel.size (C_below hI'.row hI'.bel) hI'.blk h0
set_option maxRecDepth 100000 in
set_option maxHeartbeats 4000000 in
theorem find_in (F : Fence) (n : Nat) (h4 : F.fn 22) (h6 : F.fn 31) (h8 : F.fn 41) (hro : F.round = none) (hn : 3 ≤ n) (g c : Nat) (A : Option Addr) (zs : List M) (hreach : zs.length ≤ 4398046511104) (w : World) (hI : Has w w g c A zs) (x y : Int) :
    CallsIn F n Try.prog 22 #[.pointer (some ⟨g, 0, none⟩), .int .i64 x, .int .i64 y] w fun e W' =>
      ((e = .returned (.int .i64 (-1)) ∧ ∀ j, j < zs.length → ¬ ((zs[j]?.getD default).f0.f1 = x ∧ (zs[j]?.getD default).f3 = y)) ∨ (∃ k : Nat, k < zs.length ∧ e = .returned (.int .i64 k) ∧ ((zs[k]?.getD default).f0.f1 = x ∧ (zs[k]?.getD default).f3 = y))) ∧ Below w.heap.size w W' := by
  have h1 : 1 ≤ n := by omega
  refine callsIn_of_wp_marks Try.func22 rfl h4 ?_ hro
  simp only [Try.ntmps22, List.size_toArray, List.length_cons, List.length_nil, Nat.reduceAdd, Nat.reduceSub, Array.replicate_succ, Array.replicate_zero, List.push_toArray, List.append_toArray, List.nil_append, List.cons_append]
  gi_wp2_with (gi_at_call 31; refine (each_in F (n - 1) h6 hro _ _).mono ?_; rintro e w' ⟨rfl, rfl⟩)
  have bF := (((Boxed.new w 3 (.int .i64 x)).alloc (.cells #[.int .i64 y] 3)).alloc (.cells #[.int .i64 0] 3)).alloc (.cells #[.pointer (some ⟨g, 0, none⟩)] 68)
  have bU := ((Boxed.new (w.alloc (.cells #[.int .i64 x] 3)) 3 (.int .i64 y)).alloc (.cells #[.int .i64 0] 3)).alloc (.cells #[.pointer (some ⟨g, 0, none⟩)] 68)
  have bR := (Boxed.new ((w.alloc (.cells #[.int .i64 x] 3)).alloc (.cells #[.int .i64 y] 3)) 3 (.int .i64 0)).alloc (.cells #[.pointer (some ⟨g, 0, none⟩)] 68)
  have bP := Boxed.new (((w.alloc (.cells #[.int .i64 x] 3)).alloc (.cells #[.int .i64 y] 3)).alloc (.cells #[.int .i64 0] 3)) 68 (.pointer (some ⟨g, 0, none⟩))
  simp only [World.size_alloc] at bU bR bP
  have hB0 : Below w.heap.size w ((((w.alloc (.cells #[.int .i64 x] 3)).alloc (.cells #[.int .i64 y] 3)).alloc (.cells #[.int .i64 0] 3)).alloc (.cells #[.pointer (some ⟨g, 0, none⟩)] 68)) := ((((Below.refl _ w).alloc (Nat.le_refl _) _).alloc (by simp) _).alloc (by simp; omega) _).alloc (by simp; omega) _
  have hsz : ((((w.alloc (.cells #[.int .i64 x] 3)).alloc (.cells #[.int .i64 y] 3)).alloc (.cells #[.int .i64 0] 3)).alloc (.cells #[.pointer (some ⟨g, 0, none⟩)] 68)).heap.size = w.heap.size + 4 := by simp
  obtain ⟨W0, hW0⟩ : ∃ W0, ((((w.alloc (.cells #[.int .i64 x] 3)).alloc (.cells #[.int .i64 y] 3)).alloc (.cells #[.int .i64 0] 3)).alloc (.cells #[.pointer (some ⟨g, 0, none⟩)] 68)) = W0 := ⟨_, rfl⟩
  rw [hW0] at bF bU bR bP hB0 hsz ⊢
  clear hW0
  refine wpIn_rangeFunc_ownH hro h1 (gf := 41) (lb := #[.pointer (some ⟨w.heap.size + 1 + 1 + 1, 0, none⟩)]) rfl h8 (enters_of Try.func41 (by kernel_rfl) rfl)
    (each_stops F (n - 1) h8 hro (by omega) w (w.heap.size + 1 + 1 + 1) g c A zs hreach W0 (by omega) bP.cell (hI.below hB0)) belowK_t (belowK_b (by omega)) (Below.refl _ _) (fun _ => rfl)
    (fun pre W => ((∀ p ∈ pre, ¬ (p.2.f0.f1 = x ∧ p.2.f3 = y)) ∧ (Boxed W w.heap.size 3 (.int .i64 x) ∧ (Boxed W (w.heap.size + 1) 3 (.int .i64 y) ∧ Boxed W (w.heap.size + 1 + 1) 3 (.int .i64 0)))) ∧ Below w.heap.size w W)
    (fun c pre W => (c = .ret ∧ ∃ ini last, pre = ini ++ [last] ∧ (last.2.f0.f1 = x ∧ last.2.f3 = y) ∧ Boxed W (w.heap.size + 1 + 1) 3 (.int .i64 (last.1 : Int))) ∧ Below w.heap.size w W)
    (OwnFrom.and (OwnFrom.and (ownFrom_pure _ _) (OwnFrom.and (Own.from (boxed_own _ _ _) _) (OwnFrom.and (Own.from (boxed_own _ _ _) _) (Own.from (boxed_own _ _ _) _)))) (ownFrom_below (Nat.le_refl _) (by omega)))
    (fun c => OwnFrom.and (fun _ X Y row hs hg hr => by obtain ⟨h1, ini, last, h2, h3, h4⟩ := hs; exact ⟨h1, ini, last, h2, h3, boxed_own (w.heap.size + 1 + 1) 3 (fun (_ : Unit) => Value.int .i64 (last.1 : Int)) () X Y row h4 hg (fun r e => (hr r e).2)⟩) (ownFrom_below (Nat.le_refl _) (by omega)))
    ⟨⟨by simp, bF, bU, bR⟩, hB0⟩
    (fun z a' W => ∃ Bx, w.heap.size + 1 + 1 < Bx ∧ Blk W Bx 25 (cM z.2).toArray ∧ a' = { tmps := #[.pointer (some ⟨g, 0, none⟩), .int .i64 x, .int .i64 y, undef, .pointer (some ⟨w.heap.size, 0, none⟩), .pointer (some ⟨w.heap.size + 1, 0, none⟩), .pointer (some ⟨w.heap.size + 1 + 1, 0, none⟩), .int .i64 (z.1 : Int), .pointer (some ⟨Bx, 0, none⟩), .pointer (some ⟨g, 0, none⟩), .pointer (some ⟨g, 0, none⟩), .pointer (some ⟨g, 0, none⟩), .func (.func 41) #[] #[.pointer (some ⟨w.heap.size + 1 + 1 + 1, 0, none⟩)], .int .i64 (z.1 : Int), .agg (cM z.2).toArray, undef, undef, undef, undef, undef, undef, undef, undef, undef, undef, undef, undef], defers := [] })
    (fun z a' _ X Y row hs hg hr => by
      obtain ⟨Bx, h1, h2, h3⟩ := hs
      refine ⟨Bx, h1, Blk.grown h2 hg (fun e => ?_), h3⟩
      obtain ⟨o, ho, hc⟩ := (hr Bx e.symm).2
      rw [show X.heap[Bx]? = _ from h2] at ho
      cases ho
      cases hc)
    ?assign ?body ?done ?stop
  case assign =>
    rintro l pre z W K ⟨⟨hp, bF1, bU1, bR1⟩, hB1⟩ hK
    unfold cM c25
    gi_wp2
    exact hK _ _ ((KeepsOthers.alloc _ _).from _) ((Below.refl _ W).alloc hB1.size _) ⟨⟨hp, bF1.alloc _, bU1.alloc _, bR1.alloc _⟩, hB1.alloc hB1.size _⟩ ⟨W.heap.size, bR1.lt, Blk.new W _ _, rfl⟩
  case body =>
    rintro l pre z a' W hl hr ⟨⟨hp, bF1, bU1, bR1⟩, hB1⟩ ⟨Bx, hBx, hZ, rfl⟩ hlt
    have cF := bF1.cell
    have cU := bU1.cell
    have fR := bR1.frozen
    have cR := bR1.cell
    have z1 : W.cell? ⟨Bx, 1, none⟩ = some (.int .i64 z.2.f0.f1) := hZ.cell 1
    have z5 : W.cell? ⟨Bx, 5, none⟩ = some (.int .i64 z.2.f3) := hZ.cell 5
    by_cases e1 : z.2.f0.f1 = x
    · have b1 : (z.2.f0.f1 == x) = true := by simpa using e1
      by_cases e5 : z.2.f3 = y
      · have b5 : (z.2.f3 == y) = true := by simpa using e5
        gi_wp2
        exact ⟨(KeepsOthers.setCell _ _ _).from _, ⟨rfl, pre, z, rfl, ⟨e1, e5⟩, bR1.set _⟩, hB1.setCell (p := ⟨w.heap.size + 1 + 1, 0, none⟩) (by simp; omega) _⟩
      · have b5 : (z.2.f3 == y) = false := by simpa using e5
        gi_wp2
        exact ⟨KeepsFrom.refl _ _, Below.refl _ _, ⟨fun p hp' => (List.mem_append.1 hp').elim (hp p) (fun e => by simp at e; subst e; exact fun h => e5 h.2), bF1, bU1, bR1⟩, hB1⟩
    · have b1 : (z.2.f0.f1 == x) = false := by simpa using e1
      gi_wp2
      exact ⟨KeepsFrom.refl _ _, Below.refl _ _, ⟨fun p hp' => (List.mem_append.1 hp').elim (hp p) (fun e => by simp at e; subst e; exact fun h => e1 h.1), bF1, bU1, bR1⟩, hB1⟩
  case done =>
    rintro D ys W hD rfl ⟨⟨hp, bF1, bU1, bR1⟩, hB1⟩ hK
    have fR := bR1.frozen
    have cR := bR1.cell
    gi_wp2
    have hK' := (KeepsOthers.setCell W ⟨w.heap.size + 1 + 1, 0, none⟩ (.int .i64 (-1))).same D _ hK rfl
    refine ⟨by simp, .inl ⟨_, _, rfl, run_takeDeferred hK', ?_⟩⟩
    have hc5 := cell_kept (World.cell?_setCell_same' W ⟨w.heap.size + 1 + 1, 0, none⟩ (.int .i64 (-1)) (by rw [cR]; rfl)) (grownBy_putObj' _ D (.deferred none)) (fun r e => by cases e; exact ⟨_, hK', rfl⟩)
    refine ⟨.int .i64 (-1), ?_, .inl ⟨rfl, fun j hj => hp (j, zs[j]?.getD default) (by simp only [upto, List.mem_map, List.mem_range]; exact ⟨j, hj, rfl⟩)⟩, (hB1.setCell (p := ⟨w.heap.size + 1 + 1, 0, none⟩) (by simp; omega) _).trans (belowK_b (w := w) (Nat.le_refl _) _ D _ _ (by omega) hK' rfl rfl)⟩
    simp [results, Try.f22, go_sem, hc5]
  case stop =>
    rintro D c pre W hD ⟨k, hk, rfl⟩ ⟨⟨rfl, ini, last, e1, e2, bR1⟩, hB1⟩ hK
    gi_wp2
    refine ⟨by simp, .inl ⟨_, _, rfl, run_takeDeferred hK, ?_⟩⟩
    have hc5 := cell_kept bR1.cell (grownBy_putObj' _ D (.deferred none)) (fun r e => by cases e; exact ⟨_, hK, rfl⟩)
    obtain ⟨k', rfl⟩ : ∃ k', k = k' + 1 := by
      cases k with
      | zero => simp [upto] at e1
      | succ k' => exact ⟨k', rfl⟩
    rw [upto_succ] at e1
    obtain ⟨rfl, e5⟩ := List.append_inj' e1 rfl
    obtain rfl : (k', zs[k']?.getD default) = last := by simpa using e5
    refine ⟨.int .i64 (k' : Int), ?_, .inr ⟨k', by omega, rfl, e2⟩, hB1.trans (belowK_b (w := w) (Nat.le_refl _) W D _ _ (by omega) hK rfl rfl)⟩
    simp [results, Try.f22, go_sem, hc5]
theorem find_call (g c : Nat) (A : Option Addr) (zs : List M) (hreach : zs.length ≤ 4398046511104) (w : World) (hI : Has w w g c A zs) (x y : Int) :
    Calls Try.prog 22 #[.pointer (some ⟨g, 0, none⟩), .int .i64 x, .int .i64 y] w fun e W' =>
      ((e = .returned (.int .i64 (-1)) ∧ ∀ j, j < zs.length → ¬ ((zs[j]?.getD default).f0.f1 = x ∧ (zs[j]?.getD default).f3 = y)) ∨ (∃ k : Nat, k < zs.length ∧ e = .returned (.int .i64 k) ∧ ((zs[k]?.getD default).f0.f1 = x ∧ (zs[k]?.getD default).f3 = y))) ∧ Below w.heap.size w W' :=
  (callsIn_wide (n := 3)).1 (find_in _ 3 trivial trivial trivial rfl (by omega) g c A zs hreach w hI x y)
end Go.Proofs.Ytipgigbnfdgfmaa.HF
