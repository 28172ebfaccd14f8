/- A calendar with what it leaves alone; New, and the law's own awake. No law is proved here. -/
import Derived.Test.YtmgjnabenemghaaCF
namespace Go.Proofs.Ytmgjnabenemghaa.CQ
open Go.Proofs Go.Shelf Go.RowKit Go.Deep Go.Sort Go.Maps Go.Proofs.Ytmgjnabenemghaa.SortPure Go.Proofs.Ytmgjnabenemghaa.Types Go.Proofs.Ytmgjnabenemghaa.Heap Go.Proofs.Ytmgjnabenemghaa.Row Go.Proofs.Ytmgjnabenemghaa.Ord Go.Proofs.Ytmgjnabenemghaa.Sorted Go.Proofs.YtmgjnabenemghaaW.PrintWords Go.Proofs.YtmgjnabenemghaaW.PrintLast Go.Proofs.YtmgjnabenemghaaW.PrintMore
set_option linter.unusedVariables false
set_option linter.unusedSimpArgs false
theorem rep_nil (w : World) (P : Nat → Prop) (wd : Int) : Rep w P wd [] (.map []) := fun d => ⟨fun _ => rfl, fun h => absurd rfl h⟩
/-- A calendar at g, its map at b; the blocks of X are not its own. -/
structure Cs (X : Nat → Prop) (w0 w : World) (g b : Nat) (wd : Int) (sl : List M) : Prop where
  at_ : CAt w (fun x => w0.heap.size ≤ x ∧ ¬ X x ∧ x ≠ g ∧ x ≠ b) g b wd sl
  bel : Below w0.heap.size w0 w
  fs : w0.heap.size ≤ g ∧ w0.heap.size ≤ b
  xs : ∀ x, X x → x < w.heap.size ∧ x ≠ g ∧ x ≠ b
  lt : g < w.heap.size ∧ b < w.heap.size
section
variable {X : Nat → Prop} {w0 w w' : World} {g b : Nat} {wd : Int} {sl : List M}
theorem Cs.new (h : Cs X w0 w g b wd sl) : ∀ x, w.heap.size ≤ x → w0.heap.size ≤ x ∧ ¬ X x ∧ x ≠ g ∧ x ≠ b := fun x hx =>
  ⟨Nat.le_trans h.bel.size hx, fun q => by have := (h.xs x q).1; omega, by have := h.lt; omega, by have := h.lt; omega⟩
theorem Cs.below (h : Cs X w0 w g b wd sl) (hb : Below w.heap.size w w') : Cs X w0 w' g b wd sl :=
  ⟨h.at_.below hb, below_step h.bel hb, h.fs, fun x hx => ⟨Nat.lt_of_lt_of_le (h.xs x hx).1 hb.size, (h.xs x hx).2⟩, ⟨Nat.lt_of_lt_of_le h.lt.1 hb.size, Nat.lt_of_lt_of_le h.lt.2 hb.size⟩⟩
theorem Cs.alloc (h : Cs X w0 w g b wd sl) (o : Obj) : Cs X w0 (w.alloc o) g b wd sl := h.below ((Below.refl _ _).alloc (Nat.le_refl _) o)
/-- A block that lies behind all that was. -/
theorem Cs.add (h : Cs X w0 w g b wd sl) (o : Obj) : Cs (fun x => X x ∨ x = w.heap.size) w0 (w.alloc o) g b wd sl := by
  have hb := (Below.refl w.heap.size w).alloc (Nat.le_refl _) o
  have h' := h.below hb
  have h1 := h.at_.apart hb
  refine ⟨h1.to (fun x hx => ⟨hx.1.1, fun q => ?_, hx.1.2.2⟩) (fun q => q.2.2.2 rfl) (fun q => q.2.2.1 rfl), h'.bel, h.fs, fun x hx => ?_, h'.lt⟩
  · rcases q with q | q
    · exact hx.1.2.1 q
    · exact hx.2 ⟨Nat.le_of_eq q.symm, by rw [q, World.size_alloc]; omega⟩
  · rcases hx with q | q
    · exact h'.xs x q
    · rw [q, World.size_alloc]
      have := h.lt
      exact ⟨by omega, by omega, by omega⟩
/-- A step that changes blocks of X alone. -/
theorem Cs.far {S : Nat → Prop} (h : Cs X w0 w g b wd sl) (hO : Only w w' S) (hS : ∀ x, S x → X x) (h0 : ∀ x, S x → w0.heap.size ≤ x) : Cs X w0 w' g b wd sl :=
  ⟨h.at_.only hO (fun q => (h.xs g (hS g q)).2.1 rfl) (fun q => (h.xs b (hS b q)).2.2 rfl) (fun x hx q => hx.2.1 (hS x q)), h.bel.trans (hO.below h.bel.size h0), h.fs, fun x hx => ⟨Nat.lt_of_lt_of_le (h.xs x hx).1 hO.size, (h.xs x hx).2⟩, ⟨Nat.lt_of_lt_of_le h.lt.1 hO.size, Nat.lt_of_lt_of_le h.lt.2 hO.size⟩⟩
abbrev Kp (X : Nat → Prop) (w w' : World) : Prop := ∀ x, X x → w'.heap[x]? = w.heap[x]?
theorem Cs.kp (h : Cs X w0 w g b wd sl) (hb : Below w.heap.size w w') : Kp X w w' := fun x hx => hb.block x (h.xs x hx).1
theorem Cs.kpo (h : Cs X w0 w g b wd sl) (hO : Only w w' (fun x => x = g ∨ x = b)) : Kp X w w' := fun x hx => hO.block x (h.xs x hx).1 (fun q => by
  rcases q with q | q
  · exact (h.xs x hx).2.1 q
  · exact (h.xs x hx).2.2 q)
/-- Behind a step of its own. -/
theorem Cs.step {sl' : List M} (h : Cs X w0 w g b wd sl) (hO : Only w w' (fun x => x = g ∨ x = b)) (ha : CAt w' (fun x => w0.heap.size ≤ x ∧ ¬ X x ∧ x ≠ g ∧ x ≠ b) g b wd sl') : Cs X w0 w' g b wd sl' :=
  ⟨ha, h.bel.trans (hO.below h.bel.size (fun x q => by rcases q with q | q; exact q ▸ h.fs.1; exact q ▸ h.fs.2)), h.fs, fun x hx => ⟨Nat.lt_of_lt_of_le (h.xs x hx).1 hO.size, (h.xs x hx).2⟩, ⟨Nat.lt_of_lt_of_le h.lt.1 hO.size, Nat.lt_of_lt_of_le h.lt.2 hO.size⟩⟩
theorem cs_push_old (h : Cs X w0 w g b wd sl) (m : M) (hm : ∃ x ∈ sl, isOf m.f0.f1 m.f3 x) : Calls Try.prog 10 #[.pointer (some ⟨g, 0, none⟩), .agg (cM m).toArray] w fun e w' => e = .returned (.int .i64 8) ∧ Cs X w0 w' g b wd sl ∧ Kp X w w' := by
  refine (push_old h.at_ m hm).mono ?_
  rintro e w' ⟨rfl, hb⟩
  exact ⟨rfl, h.below hb, h.kp hb⟩
theorem cs_push_full (h : Cs X w0 w g b wd sl) (m : M) (hm : ∀ x ∈ sl, ¬ isOf m.f0.f1 m.f3 x) (hl : sl.length = 16384) : Calls Try.prog 10 #[.pointer (some ⟨g, 0, none⟩), .agg (cM m).toArray] w fun e w' => e = .returned (.int .i64 9) ∧ Cs X w0 w' g b wd sl ∧ Kp X w w' := by
  refine (push_full h.at_ m hm hl).mono ?_
  rintro e w' ⟨rfl, hb⟩
  exact ⟨rfl, h.below hb, h.kp hb⟩
theorem cs_push_new (h : Cs X w0 w g b wd sl) (m : M) (hm : ∀ x ∈ sl, ¬ isOf m.f0.f1 m.f3 x) (hl : sl.length < 16384) (ht : wfI m.f0.f0) : Calls Try.prog 10 #[.pointer (some ⟨g, 0, none⟩), .agg (cM m).toArray] w fun e w' => e = .returned (.int .i64 0) ∧ Cs X w0 w' g b wd (ins befM sl m) ∧ Kp X w w' := by
  refine (push_new h.at_ m hm hl ht h.new).mono ?_
  rintro e w' ⟨rfl, ha, hO⟩
  exact ⟨rfl, h.step hO ha, h.kpo hO⟩
theorem cs_cut_none (h : Cs X w0 w g b wd sl) (x y : Int) (hn : ∀ m ∈ sl, ¬ isOf x y m) : Calls Try.prog 12 #[.pointer (some ⟨g, 0, none⟩), .int .i64 x, .int .i64 y] w fun e w' => e = .returned (.tuple #[zA, .int .i64 6]) ∧ Cs X w0 w' g b wd sl ∧ Kp X w w' := by
  refine (cut_none h.at_ x y hn).mono ?_
  rintro e w' ⟨rfl, hb⟩
  exact ⟨rfl, h.below hb, h.kp hb⟩
theorem cs_cut_some (h : Cs X w0 w g b wd sl) {z : M} (hz : z ∈ sl) : Calls Try.prog 12 #[.pointer (some ⟨g, 0, none⟩), .int .i64 z.f0.f1, .int .i64 z.f3] w fun e w' => e = .returned (.tuple #[.agg (cM z).toArray, .int .i64 0]) ∧ Cs X w0 w' g b wd (sl.filter (oth z.f0.f1 z.f3)) ∧ Kp X w w' := by
  refine (cut_some h.at_ h.new hz).mono ?_
  rintro e w' ⟨rfl, ha, hO⟩
  exact ⟨rfl, h.step hO ha, h.kpo hO⟩
theorem cs_len (h : Cs X w0 w g b wd sl) : Calls Try.prog 11 #[.pointer (some ⟨g, 0, none⟩)] w fun e w' => e = .returned (.int .i64 (sl.length : Nat)) ∧ w' = w := len_call h.at_.c1 h.at_.c2
end
theorem new_bad (w : World) {wd : Int} (hw : wd < 1) : Calls Try.prog 8 #[.int .i64 wd] w fun e w' => e = .returned (.tuple #[.pointer none, .int .i64 1]) ∧ w' = w := by
  have h1 : decide (wd < 1) = true := decide_eq_true hw
  go_enter Try.func8, Try.ntmps8
  go_wp2
  refine bodyPost_ret (v := .tuple #[.pointer none, .int .i64 1]) ?_ rfl ⟨rfl, rfl⟩
  exact results_list (rs := [.tmp 2, .tmp 3]) rfl (by simp) (Vals.tmp (Vals.tmp Vals.nil))
theorem new_call (w : World) {wd : Int} (hw : 1 ≤ wd) (hwf : wfI wd) : Calls Try.prog 8 #[.int .i64 wd] w fun e w' => e = .returned (.tuple #[.pointer (some ⟨w.heap.size + 1, 0, none⟩), .int .i64 0]) ∧ Cs (fun _ => False) w w' (w.heap.size + 1) w.heap.size wd [] ∧ Below w.heap.size w w' := by
  have h1 : ¬ wd < 1 := by omega
  have hmm := @run_makeMap Try.prog
  go_enter Try.func8, Try.ntmps8
  go_wp2
  have hb1 : Below w.heap.size w (w.alloc (.map #[] 0)) := (Below.refl w.heap.size w).alloc (Nat.le_refl _) _
  have hb : Below w.heap.size w ((w.alloc (.map #[] 0)).alloc (.cells #[.int .i64 wd, .map (some w.heap.size), .int .i64 0] tC)) := hb1.alloc hb1.size _
  have hs1 : (w.alloc (.map #[] 0)).heap.size = w.heap.size + 1 := World.size_alloc _ _
  have hs2 : ((w.alloc (.map #[] 0)).alloc (.cells #[.int .i64 wd, .map (some w.heap.size), .int .i64 0] tC)).heap.size = w.heap.size + 2 := by rw [World.size_alloc, hs1]
  have hk : Blk ((w.alloc (.map #[] 0)).alloc (.cells #[.int .i64 wd, .map (some w.heap.size), .int .i64 0] tC)) (w.heap.size + 1) tC #[.int .i64 wd, .map (some w.heap.size), .int .i64 0] := by
    have := Blk.new (w.alloc (.map #[] 0)) tC #[.int .i64 wd, .map (some w.heap.size), .int .i64 0]
    rwa [hs1] at this
  have hm : ((w.alloc (.map #[] 0)).alloc (.cells #[.int .i64 wd, .map (some w.heap.size), .int .i64 0] tC)).ownsMap Try.prog tD RS w.heap.size (Maps.size (.map [] : DataW Value)) (.map []) := (World.ownsMap_made w Try.prog tD RS).alloc _
  refine bodyPost_ret (v := .tuple #[.pointer (some ⟨w.heap.size + 1, 0, none⟩), .int .i64 0]) ?_ rfl ⟨rfl, ⟨⟨hk, ⟨_, hm, rep_nil _ _ _⟩, ⟨fun q => q.2.2.2 rfl, fun q => q.2.2.1 rfl, by omega⟩, hw, hwf, fun m hm => by simp at hm, List.Pairwise.nil, List.Pairwise.nil, by simp⟩, hb, ⟨by omega, Nat.le_refl _⟩, fun x hx => hx.elim, ⟨hs2.symm ▸ (by omega : w.heap.size + 1 < w.heap.size + 2), hs2.symm ▸ (by omega : w.heap.size < w.heap.size + 2)⟩⟩, hb⟩
  exact results_list (rs := [.tmp 2, .tmp 3]) rfl (by simp) (Vals.tmp (Vals.tmp Vals.nil))
set_option maxHeartbeats 8000000 in
set_option maxRecDepth 100000 in
theorem awake_call (w : World) : Calls Try.prog 9 #[] w fun e w' => e = .returned (.bool true) ∧ Below w.heap.size w w' := by
  go_enter Try.func9, Try.ntmps9
  go_wp2_with fail
  refine (new_call w (wd := 16) (by decide) (wfI_iff.2 (by decide))).mono ?_
  rintro e w1 ⟨rfl, hq, hb⟩
  have HP := hide (cs_push_new hq ⟨⟨0, 0, 0⟩, 0, 0, 1, false⟩ (fun x hx => by simp at hx) (by simp) (wfI_iff.2 (by decide)))
  unfold cM c25 at HP
  clear hq hb
  go_wp2_with (first
    | (go_at_call 10; refine HP.out.mono ?_; rintro e w2 ⟨rfl, hq2, _⟩; have HQ2 := hide hq2; clear hq2)
    | (go_at_call 11; refine (cs_len HQ2.out).mono ?_; rw [length_ins]; rintro e w3 ⟨rfl, rfl⟩))
  go_ret
  exact ⟨rfl, HQ2.out.bel⟩
end Go.Proofs.Ytmgjnabenemghaa.CQ
