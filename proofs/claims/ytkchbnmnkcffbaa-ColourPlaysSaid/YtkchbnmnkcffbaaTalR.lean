/- The contracts of the reference's tallies and token (isochronref12). No law is proved here. -/
import Derived.Test.YtkchbnmnkcffbaaTals
import Derived.Deep.RegionWith
import Derived.Deep.RegionLaw
namespace Go.Proofs.Ytkchbnmnkcffbaa.Colour
open Go.RowKit Go.Sort Go.Proofs.Ytkchbnmnkcffbaa.GrK Go.Proofs.Ytkchbnmnkcffbaa.Types Go.Proofs.Ytkchbnmnkcffbaa.Heap Go.Proofs.Ytkchbnmnkcffbaa.Row Go.Proofs.YtkchbnmnkcffbaaW.PrintWords Go.Proofs.YtkchbnmnkcffbaaW.PrintLast Go.Proofs.YtkchbnmnkcffbaaW.PrintMore
attribute [local go_sem] max2_int min2_int max_two min_two max_three min_three max_four min_four
set_option linter.unusedVariables false
set_option linter.unusedSimpArgs false
def rcells (g : Nat) (c m : Int) : Array Value := #[.int .i64 c, .slice (some ⟨g, 0, none⟩) 2 2, .int .i64 m]
/-- A tally of the reference's at p, its counts at g. -/
structure RT (w : World) (p g : Nat) (s : TS) : Prop where
  blk : Blk w p 65 (rcells g s.c s.m)
  net : Blk w g 3 #[.int .i64 s.n0, .int .i64 s.n1]
theorem RT.below {w w' : World} {p g : Nat} {s : TS} (h : RT w p g s) (hb : Below w.heap.size w w') : RT w' p g s := ⟨h.blk.below' hb, h.net.below' hb⟩
theorem RT.all {w : World} {p g : Nat} {s : TS} (h : RT w p g s) : w.cell? ⟨p, 0, none⟩ = some (.int .i64 s.c) ∧ w.cell? ⟨p, 1, none⟩ = some (.slice (some ⟨g, 0, none⟩) 2 2) ∧ w.cell? ⟨p, 2, none⟩ = some (.int .i64 s.m) ∧ w.cell? ⟨g, 0, none⟩ = some (.int .i64 s.n0) ∧ w.cell? ⟨g, 1, none⟩ = some (.int .i64 s.n1) :=
  ⟨h.blk.cell 0, h.blk.cell 1, h.blk.cell 2, h.net.cell 0, h.net.cell 1⟩
theorem rnewt_call (w : World) : Calls Try.prog 22 #[] w fun e w' => e = .returned (.pointer (some ⟨w.heap.size + 1, 0, none⟩)) ∧ RT w' (w.heap.size + 1) w.heap.size ts0 ∧ Below w.heap.size w w' := by
  go_enter Try.func22, Try.ntmps22
  go_wp2
  go_ret
  refine ⟨rfl, ⟨?_, ?_⟩, ((Below.refl w.heap.size w).alloc (Nat.le_refl _) _).alloc (by simp) _⟩
  · have := Blk.new (w.alloc (.cells #[.int .i64 0, .int .i64 0] 3)) 65 (rcells w.heap.size 0 NV)
    rw [World.size_alloc] at this
    exact this
  · exact (Blk.new w 3 #[.int .i64 0, .int .i64 0]).alloc _
def flipS (s : TS) : TS := ⟨1 - s.c, s.n0, s.n1, NV⟩
def sentS (s : TS) (t : Int) : TS := ⟨s.c, if s.c = 0 then wrap64 (s.n0 + 1) else s.n0, if s.c = 0 then s.n1 else wrap64 (s.n1 + 1), Colour.mn s.m t⟩
theorem rflip_call (w : World) (p g : Nat) (s : TS) (hc : s.c = 0 ∨ s.c = 1) (h : RT w p g s) : Calls Try.prog 25 #[.pointer (some ⟨p, 0, none⟩)] w fun e w' => e = .returned (.tuple #[]) ∧ RT w' p g (flipS s) ∧ Only w w' (fun b => b = p ∨ b = g) := by
  obtain ⟨c, n0, n1, m⟩ := s
  obtain ⟨h0, h1, h2, h3, h4⟩ := h.all
  have f0 : w.frozen? ⟨p, 0, none⟩ = false := h.blk.frozen 0
  have f2 : w.frozen? ⟨p, 2, none⟩ = false := h.blk.frozen 2
  have HH := hide h
  have hw : wrap64 (1 - c) = 1 - c := by rcases hc with q | q <;> (have q' : c = _ := q; subst q'; unfold wrap64; omega)
  have HNe : Hid (p ≠ g) := hide (Blk.ne_ h.blk h.net (by decide))
  clear h hc
  go_enter Try.func25, Try.ntmps25
  go_wp2_with fail
  exact bodyPost_end (results_none rfl _ _ _) rfl ⟨rfl, ⟨Blk.set_ (Blk.set_ HH.out.blk 0 _) 2 _, Blk.far (Blk.far HH.out.net (p := ⟨p, 0, none⟩) (fun e => HNe.out e.symm) _) (p := ⟨p, 2, none⟩) (fun e => HNe.out e.symm) _⟩, ((Only.refl w (fun b => b = p ∨ b = g)).setCell (p := ⟨p, 0, none⟩) (.inl (.inl rfl)) _).setCell (p := ⟨p, 2, none⟩) (.inl (.inl rfl)) _⟩
def gotS (s : TS) (k : Int) : TS := if k = 0 then ⟨s.c, wrap64 (s.n0 - 1), s.n1, s.m⟩ else if k = 1 then ⟨s.c, s.n0, wrap64 (s.n1 - 1), s.m⟩ else s
def gotR (k : Int) : Int := if k = 0 ∨ k = 1 then 0 else 1
theorem rgot_bad (w : World) (p g : Nat) (s : TS) (k : Int) (hk : k < 0 ∨ 1 < k) (h : RT w p g s) : Calls Try.prog 24 #[.pointer (some ⟨p, 0, none⟩), .int .i64 k] w fun e w' => e = .returned (.int .i64 1) ∧ w' = w := by
  by_cases h1 : k < 0
  · go_enter Try.func24, Try.ntmps24
    go_wp2
    go_ret
    exact ⟨rfl, rfl⟩
  · have h2 : 1 < k := by omega
    go_enter Try.func24, Try.ntmps24
    go_wp2
    go_ret
    exact ⟨rfl, rfl⟩
theorem rgot_0 (w : World) (p g : Nat) (s : TS) (h : RT w p g s) : Calls Try.prog 24 #[.pointer (some ⟨p, 0, none⟩), .int .i64 0] w fun e w' => e = .returned (.int .i64 0) ∧ RT w' p g (gotS s 0) ∧ Only w w' (fun b => b = p ∨ b = g) := by
  obtain ⟨c, n0, n1, m⟩ := s
  obtain ⟨h0, h1, h2, h3, h4⟩ := h.all
  have f0 : w.frozen? ⟨g, 0, none⟩ = false := h.net.frozen 0
  have HH := hide h
  have HNe : Hid (p ≠ g) := hide (Blk.ne_ h.blk h.net (by decide))
  clear h
  go_enter Try.func24, Try.ntmps24
  go_wp2_with fail
  all_goals (
    go_ret
    exact ⟨rfl, ⟨(Blk.far HH.out.blk (p := ⟨g, 0, none⟩) HNe.out _), (Blk.set_ HH.out.net 0 _)⟩, ((Only.refl w (fun b => b = p ∨ b = g)).setCell (p := ⟨g, 0, none⟩) (.inl (.inr rfl)) _)⟩)
theorem rgot_1 (w : World) (p g : Nat) (s : TS) (h : RT w p g s) : Calls Try.prog 24 #[.pointer (some ⟨p, 0, none⟩), .int .i64 1] w fun e w' => e = .returned (.int .i64 0) ∧ RT w' p g (gotS s 1) ∧ Only w w' (fun b => b = p ∨ b = g) := by
  obtain ⟨c, n0, n1, m⟩ := s
  obtain ⟨h0, h1, h2, h3, h4⟩ := h.all
  have f0 : w.frozen? ⟨g, 1, none⟩ = false := h.net.frozen 1
  have HH := hide h
  have HNe : Hid (p ≠ g) := hide (Blk.ne_ h.blk h.net (by decide))
  clear h
  go_enter Try.func24, Try.ntmps24
  go_wp2_with fail
  all_goals (
    go_ret
    exact ⟨rfl, ⟨(Blk.far HH.out.blk (p := ⟨g, 1, none⟩) HNe.out _), (Blk.set_ HH.out.net 1 _)⟩, ((Only.refl w (fun b => b = p ∨ b = g)).setCell (p := ⟨g, 1, none⟩) (.inl (.inr rfl)) _)⟩)
theorem rsent_0 (w : World) (p g : Nat) (n0 n1 m t : Int) (h : RT w p g ⟨0, n0, n1, m⟩) : Calls Try.prog 23 #[.pointer (some ⟨p, 0, none⟩), .int .i64 t] w fun e w' => e = .returned (.int .i64 0) ∧ RT w' p g (sentS ⟨0, n0, n1, m⟩ t) ∧ Only w w' (fun b => b = p ∨ b = g) := by
  obtain ⟨h0, h1, h2, h3, h4⟩ := h.all
  have f0 : w.frozen? ⟨g, 0, none⟩ = false := h.net.frozen 0
  have f2 : w.frozen? ⟨p, 2, none⟩ = false := h.blk.frozen 2
  have HH := hide h
  have hp1 : p ≠ g := Blk.ne_ h.blk h.net (by decide)
  have hp2 : g ≠ p := fun e => hp1 e.symm
  obtain ⟨m', hm'⟩ : ∃ m', Colour.mn m t = m' := ⟨_, rfl⟩
  have hmn : (if t < m then t else m) = m' := hm'
  have hs : sentS ⟨0, n0, n1, m⟩ t = ⟨0, wrap64 (n0 + 1), n1, m'⟩ := by unfold sentS; rw [hm']; simp
  rw [hs]
  clear h hm' hs
  go_enter Try.func23, Try.ntmps23
  go_wp2_with fail
  go_region
  go_wp2_with fail
  all_goals (
    go_ret
    exact ⟨rfl, ⟨(Blk.set_ (Blk.far HH.out.blk (p := ⟨g, 0, none⟩) hp1 _) 2 _).drew, (Blk.far (Blk.set_ HH.out.net 0 _) (p := ⟨p, 2, none⟩) hp2 _).drew⟩, (((Only.refl w (fun b => b = p ∨ b = g)).setCell (p := ⟨g, 0, none⟩) (.inl (.inr rfl)) _).setCell (p := ⟨p, 2, none⟩) (.inl (.inl rfl)) _).drew⟩)
theorem rsent_1 (w : World) (p g : Nat) (n0 n1 m t : Int) (h : RT w p g ⟨1, n0, n1, m⟩) : Calls Try.prog 23 #[.pointer (some ⟨p, 0, none⟩), .int .i64 t] w fun e w' => e = .returned (.int .i64 1) ∧ RT w' p g (sentS ⟨1, n0, n1, m⟩ t) ∧ Only w w' (fun b => b = p ∨ b = g) := by
  obtain ⟨h0, h1, h2, h3, h4⟩ := h.all
  have f0 : w.frozen? ⟨g, 1, none⟩ = false := h.net.frozen 1
  have f2 : w.frozen? ⟨p, 2, none⟩ = false := h.blk.frozen 2
  have HH := hide h
  have hp1 : p ≠ g := Blk.ne_ h.blk h.net (by decide)
  have hp2 : g ≠ p := fun e => hp1 e.symm
  obtain ⟨m', hm'⟩ : ∃ m', Colour.mn m t = m' := ⟨_, rfl⟩
  have hmn : (if t < m then t else m) = m' := hm'
  have hs : sentS ⟨1, n0, n1, m⟩ t = ⟨1, n0, wrap64 (n1 + 1), m'⟩ := by unfold sentS; rw [hm']; simp
  rw [hs]
  clear h hm' hs
  go_enter Try.func23, Try.ntmps23
  go_wp2_with fail
  go_region
  go_wp2_with fail
  all_goals (
    go_ret
    exact ⟨rfl, ⟨(Blk.set_ (Blk.far HH.out.blk (p := ⟨g, 1, none⟩) hp1 _) 2 _).drew, (Blk.far (Blk.set_ HH.out.net 1 _) (p := ⟨p, 2, none⟩) hp2 _).drew⟩, (((Only.refl w (fun b => b = p ∨ b = g)).setCell (p := ⟨g, 1, none⟩) (.inl (.inr rfl)) _).setCell (p := ⟨p, 2, none⟩) (.inl (.inl rfl)) _).drew⟩)
/-- The reference's token at q. -/
def RK (w : World) (q : Nat) (n a : Int) (cnt : Bool) (s m : Int) : Prop := Blk w q 61 (tok n a cnt s m)
theorem RK.all {w : World} {q : Nat} {n a s m : Int} {cnt : Bool} (h : RK w q n a cnt s m) : w.cell? ⟨q, 0, none⟩ = some (.int .i64 n) ∧ w.cell? ⟨q, 1, none⟩ = some (.int .i64 a) ∧ w.cell? ⟨q, 2, none⟩ = some (.bool cnt) ∧ w.cell? ⟨q, 3, none⟩ = some (.int .i64 s) ∧ w.cell? ⟨q, 4, none⟩ = some (.int .i64 m) :=
  ⟨Blk.cell h 0, Blk.cell h 1, Blk.cell h 2, Blk.cell h 3, Blk.cell h 4⟩
theorem rnewtoken_ok (n : Int) (h1 : 1 ≤ n) (h2 : n ≤ 16) (w : World) : Calls Try.prog 21 #[.int .i64 n] w fun e w' => e = .returned (.tuple #[.pointer (some ⟨w.heap.size, 0, none⟩), .int .i64 0]) ∧ RK w' w.heap.size n 0 false 0 NV ∧ Below w.heap.size w w' := by
  have HB := hide ((Below.refl w.heap.size w).alloc (Nat.le_refl _) (.cells (tok n 0 false 0 NV) 61))
  have HN := hide (Blk.new w 61 (tok n 0 false 0 NV))
  unfold tok at HB HN
  have g1 : ¬ n < 1 := by omega
  have g2 : ¬ 16 < n := by omega
  clear h1 h2
  go_enter Try.func21, Try.ntmps21
  go_wp2
  go_ret2
  exact ⟨rfl, HN.out, HB.out⟩
theorem rnewtoken_bad (n : Int) (h : n < 1 ∨ 16 < n) (w : World) : Calls Try.prog 21 #[.int .i64 n] w fun e w' => e = .returned (.tuple #[.pointer none, .int .i64 1]) ∧ w' = w := by
  by_cases h1 : n < 1
  · clear h
    go_enter Try.func21, Try.ntmps21
    go_wp2
    go_ret2
    exact ⟨rfl, rfl⟩
  · have h2 : 16 < n := by omega
    clear h
    go_enter Try.func21, Try.ntmps21
    go_wp2
    go_ret2
    exact ⟨rfl, rfl⟩
end Go.Proofs.Ytkchbnmnkcffbaa.Colour
