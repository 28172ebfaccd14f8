/- What the program's and the reference's tallies and tokens answer alike. No law is proved here. -/
import Derived.Test.YtkchbnmnkcffbaaTalV
namespace Go.Proofs.Ytkchbnmnkcffbaa.Colour
open Go.RowKit Go.Sort Go.Proofs.Ytkchbnmnkcffbaa.GrK Go.Proofs.Ytkchbnmnkcffbaa.Types Go.Proofs.Ytkchbnmnkcffbaa.Heap Go.Proofs.Ytkchbnmnkcffbaa.Row Go.Proofs.YtkchbnmnkcffbaaW.PrintWords Go.Proofs.YtkchbnmnkcffbaaW.PrintLast Go.Proofs.YtkchbnmnkcffbaaW.PrintMore
set_option linter.unusedVariables false
set_option linter.unusedSimpArgs false
def OkS (s : TS) : Prop := (s.c = 0 ∨ s.c = 1) ∧ s.m ≤ NV
theorem mn_le {a b : Int} (h : a ≤ NV) : Colour.mn a b ≤ NV := by unfold Colour.mn; split <;> omega
theorem OkS.sent {s : TS} (h : OkS s) (t : Int) : OkS (sentS s t) := ⟨h.1, mn_le h.2⟩
theorem OkS.flip {s : TS} (h : OkS s) : OkS (flipS s) := ⟨by rcases h.1 with e | e <;> (unfold flipS; simp [e]), by unfold flipS; exact Int.le_refl _⟩
theorem OkS.got {s : TS} (h : OkS s) (k : Int) : OkS (gotS s k) := by
  unfold gotS
  split
  · exact ⟨h.1, h.2⟩
  · split
    · exact ⟨h.1, h.2⟩
    · exact h
theorem sent_k (w : World) (p : Nat) (s : TS) (t : Int) (ho : OkS s) (h : TlS w p s) : Calls Try.prog 8 #[.pointer (some ⟨p, 0, none⟩), .int .i64 t] w fun e w' => e = .returned (.int .i64 s.c) ∧ TlS w' p (sentS s t) ∧ Only w w' (fun b => b = p) := by
  obtain ⟨c, n0, n1, m⟩ := s
  rcases ho.1 with e | e
  · obtain rfl : c = 0 := e
    exact (sent0_call w p n0 n1 m t ho.2 h).mono (fun e w' h => h)
  · obtain rfl : c = 1 := e
    exact (sent1_call w p n0 n1 m t ho.2 h).mono (fun e w' h => h)
theorem sent_r (w : World) (p g : Nat) (s : TS) (t : Int) (ho : OkS s) (h : RT w p g s) : Calls Try.prog 23 #[.pointer (some ⟨p, 0, none⟩), .int .i64 t] w fun e w' => e = .returned (.int .i64 s.c) ∧ RT w' p g (sentS s t) ∧ Only w w' (fun b => b = p ∨ b = g) := by
  obtain ⟨c, n0, n1, m⟩ := s
  rcases ho.1 with e | e
  · obtain rfl : c = 0 := e
    exact rsent_0 w p g n0 n1 m t h
  · obtain rfl : c = 1 := e
    exact rsent_1 w p g n0 n1 m t h
theorem flip_k (w : World) (p : Nat) (s : TS) (ho : OkS s) (h : TlS w p s) : Calls Try.prog 10 #[.pointer (some ⟨p, 0, none⟩)] w fun e w' => e = .returned (.int .i64 0) ∧ TlS w' p (flipS s) ∧ Only w w' (fun b => b = p) := by
  obtain ⟨c, n0, n1, m⟩ := s
  rcases ho.1 with e | e
  · obtain rfl : c = 0 := e
    exact (flip0_call w p n0 n1 m h).mono (fun e w' h => h)
  · obtain rfl : c = 1 := e
    exact (flip1_call w p n0 n1 m h).mono (fun e w' h => h)
theorem got_k (w : World) (p : Nat) (s : TS) (k : Int) (h : TlS w p s) : Calls Try.prog 9 #[.pointer (some ⟨p, 0, none⟩), .int .i64 k] w fun e w' => e = .returned (.int .i64 (gotR k)) ∧ TlS w' p (gotS s k) ∧ Only w w' (fun b => b = p) := by
  obtain ⟨c, n0, n1, m⟩ := s
  unfold gotR gotS
  by_cases h0 : k = 0
  · subst h0
    rw [if_pos (.inl rfl), if_pos rfl]
    exact (got0_call w p c n0 n1 m h).mono (fun e w' h => h)
  · by_cases h1 : k = 1
    · subst h1
      rw [if_pos (.inr rfl), if_neg h0, if_pos rfl]
      exact (got1_call w p c n0 n1 m h).mono (fun e w' h => h)
    · rw [if_neg (by omega), if_neg h0, if_neg h1]
      exact (got_bad w p c n0 n1 m k h h0 h1).mono (fun e w' h => h)
theorem got_r (w : World) (p g : Nat) (s : TS) (k : Int) (h : RT w p g s) : Calls Try.prog 24 #[.pointer (some ⟨p, 0, none⟩), .int .i64 k] w fun e w' => e = .returned (.int .i64 (gotR k)) ∧ RT w' p g (gotS s k) ∧ Only w w' (fun b => b = p ∨ b = g) := by
  by_cases h0 : k = 0
  · subst h0
    exact rgot_0 w p g s h
  · by_cases h1 : k = 1
    · subst h1
      exact rgot_1 w p g s h
    · unfold gotR gotS
      rw [if_neg (by omega), if_neg h0, if_neg h1]
      refine (rgot_bad w p g s k (by omega) h).mono ?_
      rintro e w' ⟨rfl, rfl⟩
      exact ⟨rfl, h, Only.refl _ _⟩
theorem visit_both (n a s m lo : Int) (cnt : Bool) (t : TS) (hn1 : 1 ≤ n) (hn : n ≤ 16) (ha : 0 ≤ a ∧ a < n) (hm : m ≤ NV) (ht : OkS t) : ∃ (a' : Int) (cnt' : Bool) (s' m' : Int) (t' : TS) (told : Int) (over : Bool), OkS t' ∧ m' ≤ NV ∧ (0 ≤ a' ∧ a' < n) ∧
    (∀ W q p, Tk W q n a cnt s m → TlS W p t → Calls Try.prog 16 #[.pointer (some ⟨q, 0, none⟩), .pointer (some ⟨p, 0, none⟩), .int .i64 lo] W fun e w' => e = .returned (.tuple #[.int .i64 told, .bool over, .int .i64 0]) ∧ Tk w' q n a' cnt' s' m' ∧ TlS w' p t' ∧ Only W w' (fun b => b = q ∨ b = p)) ∧
    (∀ W q p g, RK W q n a cnt s m → RT W p g t → Calls Try.prog 26 #[.pointer (some ⟨q, 0, none⟩), .pointer (some ⟨p, 0, none⟩), .int .i64 lo] W fun e w' => e = .returned (.tuple #[.int .i64 told, .bool over]) ∧ RK w' q n a' cnt' s' m' ∧ RT w' p g t' ∧ Only W w' (fun b => b = q ∨ b = p ∨ b = g)) := by
  obtain ⟨c, n0, n1, r⟩ := t
  have hr : r ≤ NV := ht.2
  have hmm : Colour.mn (Colour.mn m lo) r ≤ NV := mn_le (mn_le hm)
  rcases ht.1 with e | e
  · obtain rfl : c = 0 := e
    cases cnt
    · by_cases hl : a + 1 < n
      · exact ⟨a + 1, false, s, m, ⟨1, n0, n1, NV⟩, 0, false, ⟨by simp, Int.le_refl _⟩, hm, by omega, fun W q p hK hT => visit_turn0 W q p n a s m n0 n1 r lo (by omega) (by omega) hl hK hT, fun W q p g hK hT => rvisit_turn W q p g n a s m lo _ ht.1 hn ha.1 hl hK hT⟩
      · exact ⟨0, true, 0, NV, ⟨1, n0, n1, NV⟩, 0, false, ⟨by simp, Int.le_refl _⟩, Int.le_refl _, by omega, fun W q p hK hT => visit_turn0L W q p n a s m n0 n1 r lo (by omega) (by omega) (by omega) hK hT, fun W q p g hK hT => rvisit_turnL W q p g n a s m lo _ ht.1 hn ha.1 (by omega) hK hT⟩
    · by_cases hl : a + 1 < n
      · exact ⟨a + 1, true, _, _, ⟨0, n0, n1, r⟩, 0, false, ht, hmm, by omega, fun W q p hK hT => visit_count0 W q p n a s m n0 n1 r lo (by omega) (by omega) hl hm hK hT, fun W q p g hK hT => rvisit_count0 W q p g n a s m lo n0 n1 r hn ha.1 hl hK hT⟩
      · by_cases ho : wrap64 (s + n1) = 0
        · exact ⟨0, false, 0, NV, ⟨0, n0, n1, r⟩, _, true, ht, Int.le_refl _, by omega, fun W q p hK hT => visit_count0LY W q p n a s m n0 n1 r lo (by omega) (by omega) (by omega) hm ho hK hT, fun W q p g hK hT => rvisit_count0LY W q p g n a s m lo n0 n1 r hn ha.1 (by omega) ho hK hT⟩
        · exact ⟨0, true, 0, NV, ⟨0, n0, n1, r⟩, 0, false, ht, Int.le_refl _, by omega, fun W q p hK hT => visit_count0LN W q p n a s m n0 n1 r lo (by omega) (by omega) (by omega) hm ho hK hT, fun W q p g hK hT => rvisit_count0LN W q p g n a s m lo n0 n1 r hn ha.1 (by omega) ho hK hT⟩
  · obtain rfl : c = 1 := e
    cases cnt
    · by_cases hl : a + 1 < n
      · exact ⟨a + 1, false, s, m, ⟨0, n0, n1, NV⟩, 0, false, ⟨by simp, Int.le_refl _⟩, hm, by omega, fun W q p hK hT => visit_turn1 W q p n a s m n0 n1 r lo (by omega) (by omega) hl hK hT, fun W q p g hK hT => rvisit_turn W q p g n a s m lo _ ht.1 hn ha.1 hl hK hT⟩
      · exact ⟨0, true, 0, NV, ⟨0, n0, n1, NV⟩, 0, false, ⟨by simp, Int.le_refl _⟩, Int.le_refl _, by omega, fun W q p hK hT => visit_turn1L W q p n a s m n0 n1 r lo (by omega) (by omega) (by omega) hK hT, fun W q p g hK hT => rvisit_turnL W q p g n a s m lo _ ht.1 hn ha.1 (by omega) hK hT⟩
    · by_cases hl : a + 1 < n
      · exact ⟨a + 1, true, _, _, ⟨1, n0, n1, r⟩, 0, false, ht, hmm, by omega, fun W q p hK hT => visit_count1 W q p n a s m n0 n1 r lo (by omega) (by omega) hl hm hK hT, fun W q p g hK hT => rvisit_count1 W q p g n a s m lo n0 n1 r hn ha.1 hl hK hT⟩
      · by_cases ho : wrap64 (s + n0) = 0
        · exact ⟨0, false, 0, NV, ⟨1, n0, n1, r⟩, _, true, ht, Int.le_refl _, by omega, fun W q p hK hT => visit_count1LY W q p n a s m n0 n1 r lo (by omega) (by omega) (by omega) hm ho hK hT, fun W q p g hK hT => rvisit_count1LY W q p g n a s m lo n0 n1 r hn ha.1 (by omega) ho hK hT⟩
        · exact ⟨0, true, 0, NV, ⟨1, n0, n1, r⟩, 0, false, ht, Int.le_refl _, by omega, fun W q p hK hT => visit_count1LN W q p n a s m n0 n1 r lo (by omega) (by omega) (by omega) hm ho hK hT, fun W q p g hK hT => rvisit_count1LN W q p g n a s m lo n0 n1 r hn ha.1 (by omega) ho hK hT⟩
end Go.Proofs.Ytkchbnmnkcffbaa.Colour
