/- The contract of link's Least. No law is proved here. -/
import Derived.Test.YtdbdaalkmjcifaaLinkF
set_option linter.unusedVariables false
set_option linter.unusedSimpArgs false
namespace Go.Proofs.Ytdbdaalkmjcifaa.Link
open Go.Proofs Go.RowKit Go.Sort Go.Proofs.Ytdbdaalkmjcifaa.Types Go.Proofs.Ytdbdaalkmjcifaa.Heap Go.Proofs.Ytdbdaalkmjcifaa.Row Go.Proofs.YtdbdaalkmjcifaaW.PrintWords Go.Proofs.YtdbdaalkmjcifaaW.PrintLast Go.Proofs.YtdbdaalkmjcifaaW.PrintMore
attribute [local go_sem] max2_int min2_int max_two min_two max_three min_three max_four min_four
def mnL (a b : Int) : Int := if b < a then b else a
theorem least0_call (w : World) : Calls Try.prog 28 #[.slice none 0 0] w fun e w' => e = .returned (.int .i64 4611686018427387904) ∧ w = w' := by
  go_enter Try.func28, Try.ntmps28
  go_wp2
  refine wp_loop_rounds 1 ?_
  rw [rounds_succ]
  go_wp2
  go_ret
  exact ⟨rfl, rfl⟩
theorem least2_call (w : World) (g : Nat) (a b : Int) (ha : a ≤ 4611686018427387904) (h : Blk w g 2 #[.int .i64 a, .int .i64 b]) :
    Calls Try.prog 28 #[.slice (some ⟨g, 0, none⟩) 2 2] w fun e w' => e = .returned (.int .i64 (mnL a b)) ∧ w = w' := by
  have h0 := h.cell 0
  have h1 := h.cell 1
  simp at h0 h1
  clear h
  obtain ⟨n, hn⟩ : ∃ n, mnL a b = n := ⟨_, rfl⟩
  rw [hn]
  have hm_ : (if a < 4611686018427387904 then a else 4611686018427387904) = a := by split <;> omega
  have hn_ : (if b < a then b else a) = n := hn
  clear hn ha
  go_enter Try.func28, Try.ntmps28
  go_wp2
  refine wp_loop_rounds 3 ?_
  rw [rounds_succ]
  go_wp2
  rw [rounds_succ]
  go_wp2
  rw [rounds_succ]
  go_wp2
  go_ret
  exact ⟨rfl, rfl⟩
def lst (l : List Pc) : Int := l.foldl (fun t p => mnL t p.f0.f0.f0) 4611686018427387904
theorem lst_snoc (l : List Pc) (x : Pc) : lst (l ++ [x]) = mnL (lst l) x.f0.f0.f0 := by unfold lst; rw [List.foldl_append]; rfl
theorem foldl_le (l : List Pc) (a : Int) : l.foldl (fun t p => mnL t p.f0.f0.f0) a ≤ a := by
  induction l generalizing a with
  | nil => exact Int.le_refl _
  | cons x l ih =>
    rw [List.foldl_cons]
    refine Int.le_trans (ih _) ?_
    unfold mnL
    split <;> omega
theorem lst_le (l : List Pc) : lst l ≤ 4611686018427387904 := foldl_le l _
theorem lst_step {l : List Pc} {k : Nat} (hk : k < l.length) : lst (l.take (k + 1)) = mnL (lst (l.take k)) l[k].f0.f0.f0 := by
  rw [List.take_succ_eq_append_getElem hk, lst_snoc]
set_option maxHeartbeats 4000000 in
set_option maxRecDepth 100000 in
theorem least_call (w : World) (base p : Nat) (L : Lk) (most : Int) (A : Option Addr) (c : Nat) (l : List Pc) (h : WayAt tW w base p L most (.slice A l.length c) l) (hm : most ≠ 0) (hl : l.length * 64 ≤ 140737488355328) :
    Calls Try.prog 14 #[.pointer (some ⟨p, 0, none⟩)] w fun e w' => e = .returned (.int .i64 (lst l)) ∧ Below w.heap.size w w' := by
  have HA := hide (all_call w base p L most A c l h hm hl)
  have HLn := hide hl
  clear h hl
  go_enter Try.func14, Try.ntmps14
  go_wp2_with (go_at_call 28; refine (least0_call _).mono ?_; rintro e w' ⟨rfl, rfl⟩)
  refine HA.out.mono ?_
  rintro e w1 ⟨A1, c1, rfl, hO, hB⟩
  have HO := hide hO
  have HB := hide hB
  obtain ⟨A', c', hv, hlc, hC, _⟩ := hO.reads flatP rfl k35_mk
  cases hv
  have HC := hide hC
  clear hO hB hC hlc HA
  have hu35 := Try.underlying35
  have hu33 := Try.underlying33
  have hu31 := Try.underlying31
  go_wp2_with fail
  go_loopw [3, 10] (fun tv iv wr => ∃ k : Nat, k ≤ l.length ∧ iv = .int .i64 k ∧ tv = .int .i64 (lst (l.take k)) ∧ Hid (Below w.heap.size w wr) ∧ Hid (Below w1.heap.size w1 wr)) (fun _ iv _ => l.length - (intOf iv).toNat)
  case atStart => exact ⟨0, Nat.zero_le _, rfl, rfl, HB, hide (Below.refl _ _)⟩
  case round =>
    obtain ⟨k, hk, rfl, rfl, HBw, HB1⟩ := hrel
    by_cases hlt : k < l.length
    · obtain ⟨ad, rfl, q0, q1, q2, q3, q4, q5, q6, q7⟩ := at_S35 (Kd.C_below HC.out HB1.out) hlt
      have b1 : (k : Int) < (l.length : Int) := by omega
      have HS := hide (lst_step hlt)
      have HLe := hide (lst_le (l.take k))
      obtain ⟨x, hx⟩ : ∃ x, l[k] = x := ⟨_, rfl⟩
      rw [hx] at q0 q1 q2 q3 q4 q5 q6 q7 HS
      clear hx
      obtain ⟨m, hm2⟩ : ∃ m, lst (l.take k) = m := ⟨_, rfl⟩
      rw [hm2] at HS HLe ⊢
      clear hm2
      go_wp2_with fail
      have HG := hide (Blk.new (wr.alloc (.cells #[.int .i64 x.f0.f0.f0, .int .i64 x.f0.f0.f1, .int .i64 x.f0.f0.f2, .int .i64 x.f0.f1, .int .i64 x.f0.f2, .int .i64 x.f0.f3, .bool x.f0.f4, .int .i64 x.f1] 35)) 2 #[.int .i64 m, .int .i64 x.f0.f0.f0])
      rw [World.size_alloc] at HG
      have HBn : ∀ o1 o2, Below wr.heap.size wr ((wr.alloc o1).alloc o2) := fun o1 o2 => ((Below.refl wr.heap.size wr).alloc (Nat.le_refl _) _).alloc (by simp) _
      have HB2 := hide (fun o1 => below_step HBw.out (HBn o1 (.cells #[.int .i64 m, .int .i64 x.f0.f0.f0] 2)))
      have HB3 := hide (fun o1 => below_step HB1.out (HBn o1 (.cells #[.int .i64 m, .int .i64 x.f0.f0.f0] 2)))
      refine (least2_call _ _ m x.f0.f0.f0 HLe.out HG.out).mono ?_
      rintro e w5 ⟨rfl, rfl⟩
      have HB2 := hide (HB2.out (.cells #[.int .i64 x.f0.f0.f0, .int .i64 x.f0.f0.f1, .int .i64 x.f0.f0.f2, .int .i64 x.f0.f1, .int .i64 x.f0.f2, .int .i64 x.f0.f3, .bool x.f0.f4, .int .i64 x.f1] 35))
      have HB3 := hide (HB3.out (.cells #[.int .i64 x.f0.f0.f0, .int .i64 x.f0.f0.f1, .int .i64 x.f0.f0.f2, .int .i64 x.f0.f1, .int .i64 x.f0.f2, .int .i64 x.f0.f3, .bool x.f0.f4, .int .i64 x.f1] 35))
      rw [← HS.out]
      clear q0 q1 q2 q3 q4 q5 q6 q7
      have hk5 : l.length ≤ 4611686018427387904 := by have := HLn.out; omega
      go_wp2_with fail
      go_roundw
      case rel => exact ⟨k + 1, by omega, by go_num, rfl, HB2, HB3⟩
      case measure => simp [intOf]; omega
    · have b1 : ¬ (k : Int) < (l.length : Int) := by omega
      obtain rfl : k = l.length := by omega
      rw [List.take_length] at *
      go_wp2_with fail
      go_ret
      exact ⟨rfl, HBw.out⟩
theorem at_int {w : World} {A : Option Addr} {n : Nat} {xs : List Int} (h : Kd.C (Kd.int .i64) w A n xs) {i : Nat} (hi : i < xs.length) : ∃ ad, A = some ad ∧ w.cell? (ad.add i) = some (.int .i64 xs[i]) := by
  obtain ⟨ad, e, hcell⟩ := h.2.2 (by have := h.1; omega)
  obtain ⟨c, _, hK, hc0⟩ := hcell i _ (List.getElem?_eq_getElem hi)
  have hK' : c = [.int .i64 xs[i]] := hK
  subst hK'
  have := hc0 0 (.int .i64 xs[i]) rfl
  have h2 : i * (Kd.int .i64).sz + 0 = i := by show i * 1 + 0 = i; omega
  rw [h2] at this
  exact ⟨ad, e, this⟩
theorem awake_call (w : World) : Calls Try.prog 13 #[] w fun e w' => e = .returned (.bool true) ∧ Below w.heap.size w w' := by
  have T0 := hide (fun W => new_ok ⟨0, 1, 0, false⟩ 3 ⟨by decide, by decide, by decide, by decide, by decide, by decide⟩ W)
  unfold c28 at T0
  go_enter Try.func13, Try.ntmps13
  go_wp2_with (go_at_call 9; refine (T0.out _).mono ?_; rintro e w1 ⟨rfl, hT1, hB1⟩; have HT1 := hide hT1; have HB1 := hide hB1; clear hT1 hB1)
  go_wp2_with (go_at_call 12; refine (room_call _ _ _ _ _ none 0 [] HT1.out (by decide) (by decide) (by decide)).mono ?_; rintro e w2 ⟨rfl, n2, rfl⟩)
  go_ret
  exact ⟨rfl, below_drewN HB1.out _⟩
end Go.Proofs.Ytdbdaalkmjcifaa.Link
