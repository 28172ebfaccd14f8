/- The walk of LinkZero. -/
import Derived.Test.YtdbdaalkmjcifaaLinkZero
import Derived.Test.YtdbdaalkmjcifaaKindsLinkZero
import Derived.Deep.RegionHeld3
namespace Go.Proofs.Ytdbdaalkmjcifaa.linkZero
open Go.RowKit Go.Sort Go.Proofs.Ytdbdaalkmjcifaa.GrK Go.Proofs.Ytdbdaalkmjcifaa.Types Go.Proofs.Ytdbdaalkmjcifaa.Heap Go.Proofs.Ytdbdaalkmjcifaa.LinkZ Go.Proofs.YtdbdaalkmjcifaaW.PrintWords Go.Proofs.YtdbdaalkmjcifaaW.PrintLast Go.Proofs.YtdbdaalkmjcifaaW.PrintMore
set_option linter.unusedVariables false
set_option linter.unusedSimpArgs false
def Inv (w W : World) (cs : Array Value) : Prop := Below w.heap.size w W ∧ w.heap.size ≤ W.heap.size ∧ Blk W w.heap.size 35 cs ∧ Blk W (w.heap.size + 1) 52 zero
theorem Inv.step {w W W' : World} {cs : Array Value} (h : Inv w W cs) (hb : Below W.heap.size W W') : Inv w W' cs :=
  ⟨h.1.trans (hb.mono h.2.1), Nat.le_trans h.2.1 hb.size, h.2.2.1.below' hb, h.2.2.2.below' hb⟩
theorem Inv.alloc {w W : World} {cs : Array Value} (h : Inv w W cs) (o : Obj) : Inv w (W.alloc o) cs := h.step ((Below.refl _ _).alloc (Nat.le_refl _) _)
theorem blk8 {w : World} {g t : Nat} {a b c d e f i j : Value} (h : Blk w g t #[a, b, c, d, e, f, i, j]) : w.cell? ⟨g, 0, none⟩ = some a ∧ w.cell? ⟨g, 1, none⟩ = some b ∧ w.cell? ⟨g, 2, none⟩ = some c ∧ w.cell? ⟨g, 3, none⟩ = some d ∧ w.cell? ⟨g, 4, none⟩ = some e ∧ w.cell? ⟨g, 5, none⟩ = some f ∧ w.cell? ⟨g, 6, none⟩ = some i ∧ w.cell? ⟨g, 7, none⟩ = some j :=
  ⟨h.cell 0, h.cell 1, h.cell 2, h.cell 3, h.cell 4, h.cell 5, h.cell 6, h.cell 7⟩
set_option maxHeartbeats 16000000 in
set_option maxRecDepth 100000 in
theorem walk (x0 : S35) (w0 : I35 x0) (a1 : Int) (w1 : (Lit.int .i64 a1).wf = true) (w : World) :
    Calls Try.prog 7 #[.agg #[.int .i64 x0.f0.f0.f0, .int .i64 x0.f0.f0.f1, .int .i64 x0.f0.f0.f2, .int .i64 x0.f0.f1, .int .i64 x0.f0.f2, .int .i64 x0.f0.f3, .bool x0.f0.f4, .int .i64 x0.f1], .int .i64 a1] w fun e w' => e = .returned (.bool true) ∧ Below w.heap.size w w' := by
  have HI0 : Hid (Inv w ((w.alloc (.cells #[.int .i64 x0.f0.f0.f0, .int .i64 x0.f0.f0.f1, .int .i64 x0.f0.f0.f2, .int .i64 x0.f0.f1, .int .i64 x0.f0.f2, .int .i64 x0.f0.f3, .bool x0.f0.f4, .int .i64 x0.f1] 35)).alloc (.cells #[.int .i64 0, .int .i64 0, .int .i64 0, .bool false, .int .i64 0, .slice none 0 0] 52)) #[.int .i64 x0.f0.f0.f0, .int .i64 x0.f0.f0.f1, .int .i64 x0.f0.f0.f2, .int .i64 x0.f0.f1, .int .i64 x0.f0.f2, .int .i64 x0.f0.f3, .bool x0.f0.f4, .int .i64 x0.f1]) := by
    refine hide ⟨((Below.refl _ _).alloc (Nat.le_refl _) _).alloc (by simp) _, by simp; omega, (Blk.new w _ _).alloc _, ?_⟩
    have := Blk.new (w.alloc (.cells #[.int .i64 x0.f0.f0.f0, .int .i64 x0.f0.f0.f1, .int .i64 x0.f0.f0.f2, .int .i64 x0.f0.f1, .int .i64 x0.f0.f2, .int .i64 x0.f0.f3, .bool x0.f0.f4, .int .i64 x0.f1] 35)) 52 zero
    rw [World.size_alloc] at this
    exact this
  go_enter Try.func7, Try.ntmps7
  have mixed : Try.prog.follows .mixedOrders = true := by kernel_rfl
  go_wp2_with (go_at_call 16; refine (peek_call none a1 _ (.inl rfl)).mono ?_; rintro e w1 ⟨rfl, hb⟩; have HI1 := hide ((HI0.out.step hb).alloc (.cells #[.int .i64 0, .int .i64 0, .int .i64 0, .int .i64 0, .int .i64 0, .int .i64 0, .bool false, .int .i64 0] 35)); clear hb HI0)
  rename_i K1 h1 K2 h2
  have HK := hide h1
  clear h1
  go_wp2_with (go_at_call 17; refine (take_call _ a1 _ (.inr ⟨_, rfl, HI1.out.2.2.2⟩)).mono ?_; rintro e w2 ⟨rfl, hb⟩; have HI2 := hide ((HI1.out.step hb).alloc (.cells #[.int .i64 0, .int .i64 0, .int .i64 0, .int .i64 0, .int .i64 0, .int .i64 0, .bool false, .int .i64 0] 35)); clear hb HI1)
  generalize (w2.alloc (.cells #[.int .i64 0, .int .i64 0, .int .i64 0, .int .i64 0, .int .i64 0, .int .i64 0, .bool false, .int .i64 0] 35)) = w3 at HI2 ⊢
  refine HK.out _ _ ?_
  clear HK K1
  obtain ⟨k0, k1, k2, k3, k4, k5, k6, k7⟩ := blk8 HI2.out.2.2.1
  have c1 := hide (fun W => put_call none x0 W (.inl rfl))
  have c2 := hide (fun W hW => put_call (some ⟨w.heap.size + 1, 0, none⟩) x0 W hW)
  go_wp2_with (go_at_call 10; (with_reducible refine (c1.out _).mono ?_); rintro e w4 ⟨rfl, hb⟩; have HI3 := hide (HI2.out.step hb); clear k0 k1 k2 k3 k4 k5 k6 k7; obtain ⟨k0, k1, k2, k3, k4, k5, k6, k7⟩ := blk8 HI3.out.2.2.1; clear hb HI2)
  go_wp2_with (go_at_call 10; (refine (c2.out _ (.inr ⟨_, rfl, HI3.out.2.2.2⟩)).mono ?_); rintro e w5 ⟨rfl, hb⟩; have HI4 := hide (HI3.out.step hb); clear hb k0 k1 k2 k3 k4 k5 k6 k7)
  go_wp2_with (go_at_call 12; refine (room_call none _ (.inl rfl)).mono ?_; rintro e w6 ⟨rfl, rfl⟩)
  go_wp2_with (go_at_call 14; refine (least_call _ _ (.inr ⟨_, rfl, HI4.out.2.2.2⟩)).mono ?_; rintro e w6 ⟨rfl, rfl⟩)
  go_wp2_with (go_at_call 18; refine (all_call none _ (.inl rfl)).mono ?_; rintro e w7 ⟨rfl, rfl⟩)
  go_wp2_with (go_at_call 11; refine (len_call _ _ (.inr ⟨_, rfl, HI4.out.2.2.2⟩)).mono ?_; rintro e w8 ⟨rfl, rfl⟩)
  go_ret
  exact ⟨rfl, HI4.out.1⟩
end Go.Proofs.Ytdbdaalkmjcifaa.linkZero
