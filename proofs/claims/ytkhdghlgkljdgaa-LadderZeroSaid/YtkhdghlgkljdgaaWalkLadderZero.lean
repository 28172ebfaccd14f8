/- The walk of LadderZero. (Written by zerogen.py.) -/
import Derived.Test.YtkhdghlgkljdgaaQZeroL
import Derived.Test.YtkhdghlgkljdgaaKindsLadderZero
import Derived.Deep.RegionHeld3
namespace Go.Proofs.Ytkhdghlgkljdgaa.ladderZero
open Go.RowKit Go.Proofs.Ytkhdghlgkljdgaa.GrK Go.Proofs.Ytkhdghlgkljdgaa.Types Go.Proofs.Ytkhdghlgkljdgaa.Heap Go.Proofs.Ytkhdghlgkljdgaa.QZ Go.Proofs.YtkhdghlgkljdgaaW.PrintWords Go.Proofs.YtkhdghlgkljdgaaW.PrintLast Go.Proofs.YtkhdghlgkljdgaaW.PrintMore
set_option linter.unusedVariables false
set_option linter.unusedSimpArgs false
def Inv (w W : World) (cs : Array Value) : Prop := Below w.heap.size w W ∧ w.heap.size ≤ W.heap.size ∧ Blk W w.heap.size 25 cs ∧ Blk W (w.heap.size + 1) 47 zero
theorem Inv.step {w W W' : World} {cs : Array Value} (h : Inv w W cs) (hb : Below W.heap.size W W') : Inv w W' cs :=
  ⟨h.1.trans (hb.mono h.2.1), Nat.le_trans h.2.1 hb.size, h.2.2.1.below' hb, h.2.2.2.below' hb⟩
theorem Inv.alloc {w W : World} {cs : Array Value} (h : Inv w W cs) (o : Obj) : Inv w (W.alloc o) cs := h.step ((Below.refl _ _).alloc (Nat.le_refl _) _)
theorem blk7 {w : World} {g t : Nat} {a b c d e f h : Value} (k : Blk w g t #[a, b, c, d, e, f, h]) : w.cell? ⟨g, 0, none⟩ = some a ∧ w.cell? ⟨g, 1, none⟩ = some b ∧ w.cell? ⟨g, 2, none⟩ = some c ∧ w.cell? ⟨g, 3, none⟩ = some d ∧ w.cell? ⟨g, 4, none⟩ = some e ∧ w.cell? ⟨g, 5, none⟩ = some f ∧ w.cell? ⟨g, 6, none⟩ = some h :=
  ⟨k.cell 0, k.cell 1, k.cell 2, k.cell 3, k.cell 4, k.cell 5, k.cell 6⟩
set_option maxHeartbeats 16000000 in
set_option maxRecDepth 100000 in
theorem walk (x : S25) (w0 : I25 x) (w : World) :
    Calls Try.prog 6 #[.agg #[.int .i64 x.f0.f0, .int .i64 x.f0.f1, .int .i64 x.f0.f2, .int .i64 x.f1, .int .i64 x.f2, .int .i64 x.f3, .bool x.f4]] w fun e w' => e = .returned (.bool true) ∧ Below w.heap.size w w' := by
  have HI0 : Hid (Inv w ((w.alloc (.cells #[.int .i64 x.f0.f0, .int .i64 x.f0.f1, .int .i64 x.f0.f2, .int .i64 x.f1, .int .i64 x.f2, .int .i64 x.f3, .bool x.f4] 25)).alloc (.cells #[.slice none 0 0, .int .i64 0, .slice none 0 0] 47)) #[.int .i64 x.f0.f0, .int .i64 x.f0.f1, .int .i64 x.f0.f2, .int .i64 x.f1, .int .i64 x.f2, .int .i64 x.f3, .bool x.f4]) := by
    refine hide ⟨((Below.refl _ _).alloc (Nat.le_refl _) _).alloc (by simp) _, by simp; omega, (Blk.new w _ _).alloc _, ?_⟩
    have := Blk.new (w.alloc (.cells #[.int .i64 x.f0.f0, .int .i64 x.f0.f1, .int .i64 x.f0.f2, .int .i64 x.f1, .int .i64 x.f2, .int .i64 x.f3, .bool x.f4] 25)) 47 zero
    rw [World.size_alloc] at this
    exact this
  go_enter Try.func6, Try.ntmps6
  go_wp2_with (go_at_call 17; refine (first_call none _ (.inl rfl)).mono ?_; rintro e w1 ⟨rfl, hb⟩; have HI1 := hide ((HI0.out.step hb).alloc (.cells #[.int .i64 0, .int .i64 0, .int .i64 0, .int .i64 0, .int .i64 0, .int .i64 0, .bool false] 25)); clear hb HI0)
  go_wp2_with (go_at_call 14; refine (pop_call _ _ (.inr ⟨_, rfl, HI1.out.2.2.2⟩)).mono ?_; rintro e w2 ⟨rfl, hb⟩; have HI2 := hide ((HI1.out.step hb).alloc (.cells #[.int .i64 0, .int .i64 0, .int .i64 0, .int .i64 0, .int .i64 0, .int .i64 0, .bool false] 25)); clear hb HI1)
  rename_i K1 h1 K2 h2
  have HK := hide h1
  clear h1
  go_wp2_with (go_at_call 12; refine (cut_call none 0 0 _ (.inl rfl)).mono ?_; rintro e w3 ⟨rfl, hb⟩; have HI3 := hide ((HI2.out.step hb).alloc (.cells #[.int .i64 0, .int .i64 0, .int .i64 0, .int .i64 0, .int .i64 0, .int .i64 0, .bool false] 25)); clear hb HI2)
  generalize (w3.alloc (.cells #[.int .i64 0, .int .i64 0, .int .i64 0, .int .i64 0, .int .i64 0, .int .i64 0, .bool false] 25)) = w4 at HI3 ⊢
  refine HK.out _ _ ?_
  clear HK K1
  obtain ⟨k0, k1, k2, k3, k4, k5, k6⟩ := blk7 HI3.out.2.2.1
  have c1 := hide (fun W => push_call none x W (.inl rfl))
  have c2 := hide (fun W hW => push_call (some ⟨w.heap.size + 1, 0, none⟩) x W hW)
  go_wp2_with (go_at_call 10; (with_reducible refine (c1.out _).mono ?_); rintro e w5 ⟨rfl, hb⟩; have HI4 := hide (HI3.out.step hb); clear k0 k1 k2 k3 k4 k5 k6; obtain ⟨k0, k1, k2, k3, k4, k5, k6⟩ := blk7 HI4.out.2.2.1; clear hb HI3)
  go_wp2_with (go_at_call 10; (refine (c2.out _ (.inr ⟨_, rfl, HI4.out.2.2.2⟩)).mono ?_); rintro e w6 ⟨rfl, hb⟩; have HI5 := hide (HI4.out.step hb); clear hb k0 k1 k2 k3 k4 k5 k6)
  go_wp2_with (go_at_call 16; refine (all_call none _ (.inl rfl)).mono ?_; rintro e w7 ⟨rfl, rfl⟩)
  go_wp2_with (go_at_call 11; refine (len_call _ _ (.inr ⟨_, rfl, HI5.out.2.2.2⟩)).mono ?_; rintro e w8 ⟨rfl, rfl⟩)
  go_ret
  exact ⟨rfl, HI5.out.1⟩
end Go.Proofs.Ytkhdghlgkljdgaa.ladderZero
