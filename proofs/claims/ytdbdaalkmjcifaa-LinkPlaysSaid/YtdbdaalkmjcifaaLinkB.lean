/- The contracts of link.New and Put. No law is proved here. -/
import Derived.Test.YtdbdaalkmjcifaaLink
set_option linter.unusedVariables false
set_option linter.unusedSimpArgs false
namespace Go.Proofs.Ytdbdaalkmjcifaa.Link
open Go.Proofs Go.RowKit Go.Sort Go.Proofs.Ytdbdaalkmjcifaa.Types Go.Proofs.Ytdbdaalkmjcifaa.Heap Go.Proofs.Ytdbdaalkmjcifaa.Row Go.Proofs.YtdbdaalkmjcifaaW.PrintWords Go.Proofs.YtdbdaalkmjcifaaW.PrintLast Go.Proofs.YtdbdaalkmjcifaaW.PrintMore
attribute [local go_sem] max2_int min2_int max_two min_two max_three min_three max_four min_four
/-- May such a way be? -/
def ok (L : Lk) (most : Int) : Prop := 0 ≤ L.f0 ∧ L.f0 < 16 ∧ 0 ≤ L.f1 ∧ L.f1 < 16 ∧ 1 ≤ most ∧ most ≤ 1024
theorem lane_yes {n : Int} (h : 0 ≤ n ∧ n < 16) (w : World) : Calls Try.prog 26 #[.int .i64 n] w fun e w' => e = .returned (.bool true) ∧ w = w' := by
  have := lane_call n w
  rwa [decide_eq_true h] at this
theorem lane_no {n : Int} (h : ¬ (0 ≤ n ∧ n < 16)) (w : World) : Calls Try.prog 26 #[.int .i64 n] w fun e w' => e = .returned (.bool false) ∧ w = w' := by
  have := lane_call n w
  rwa [decide_eq_false h] at this
theorem new_ok (L : Lk) (most : Int) (h : ok L most) (w : World) : Calls Try.prog 9 #[.agg (c28 L).toArray, .int .i64 most] w fun e w' =>
    e = .returned (.tuple #[.pointer (some ⟨w.heap.size + 1, 0, none⟩), .int .i64 0]) ∧ WayAt tW w' w.heap.size (w.heap.size + 1) L most (.slice none 0 0) [] ∧ Below w.heap.size w w' := by
  obtain ⟨h1, h2, h3, h4, h5, h6⟩ := h
  have hu := Try.underlying28
  have T0 := hide (fun W => lane_yes ⟨h1, h2⟩ W)
  have T1 := hide (fun W => lane_yes ⟨h3, h4⟩ W)
  have g5 : ¬ most < 1 := by omega
  have g6 : ¬ 1024 < most := by omega
  have HW : Hid (WayAt tW ((w.alloc (.cells (c28 L).toArray 28)).alloc (.cells (cellsW L most (.slice none 0 0)) 52)) w.heap.size (w.heap.size + 1) L most (.slice none 0 0) []) := hide (by
    have := Blk.new (w.alloc (.cells (c28 L).toArray 28)) 52 (cellsW L most (.slice none 0 0))
    rw [World.size_alloc] at this
    exact ⟨this, Own.nil _ _ _ _ _, fun b hb => by cases hb⟩)
  have HB : Hid (Below w.heap.size w ((w.alloc (.cells (c28 L).toArray 28)).alloc (.cells (cellsW L most (.slice none 0 0)) 52))) := hide (((Below.refl w.heap.size w).alloc (Nat.le_refl _) _).alloc (by simp) _)
  unfold c28 cellsW at *
  clear h1 h2 h3 h4 h5 h6
  go_enter Try.func9, Try.ntmps9
  go_wp2_with (first | (go_at_call 26; ((with_reducible refine (T0.out _).mono ?_); rintro e w' ⟨rfl, rfl⟩)) | (go_at_call 26; ((with_reducible refine (T1.out _).mono ?_); rintro e w' ⟨rfl, rfl⟩)))
  go_ret2
  exact ⟨rfl, HW.out, HB.out⟩
theorem new_bad (L : Lk) (most : Int) (h : ¬ ok L most) (w : World) : Calls Try.prog 9 #[.agg (c28 L).toArray, .int .i64 most] w fun e w' =>
    e = .returned (.tuple #[.pointer none, .int .i64 1]) ∧ Below w.heap.size w w' := by
  have hu := Try.underlying28
  have HB : Hid (Below w.heap.size w (w.alloc (.cells (c28 L).toArray 28))) := hide ((Below.refl w.heap.size w).alloc (Nat.le_refl _) _)
  unfold c28 at *
  by_cases h1 : 0 ≤ L.f0 ∧ L.f0 < 16
  · have T0 := hide (fun W => lane_yes h1 W)
    by_cases h2 : 0 ≤ L.f1 ∧ L.f1 < 16
    · have T1 := hide (fun W => lane_yes h2 W)
      by_cases h3 : most < 1
      · clear h h1 h2
        go_enter Try.func9, Try.ntmps9
        go_wp2_with (first | (go_at_call 26; ((with_reducible refine (T0.out _).mono ?_); rintro e w' ⟨rfl, rfl⟩)) | (go_at_call 26; ((with_reducible refine (T1.out _).mono ?_); rintro e w' ⟨rfl, rfl⟩)))
        go_ret2
        exact ⟨rfl, HB.out⟩
      · have h4 : 1024 < most := by
          unfold ok at h
          omega
        clear h h1 h2
        go_enter Try.func9, Try.ntmps9
        go_wp2_with (first | (go_at_call 26; ((with_reducible refine (T0.out _).mono ?_); rintro e w' ⟨rfl, rfl⟩)) | (go_at_call 26; ((with_reducible refine (T1.out _).mono ?_); rintro e w' ⟨rfl, rfl⟩)))
        go_ret2
        exact ⟨rfl, HB.out⟩
    · have T1 := hide (fun W => lane_no h2 W)
      clear h h1 h2
      go_enter Try.func9, Try.ntmps9
      go_wp2_with (first | (go_at_call 26; ((with_reducible refine (T0.out _).mono ?_); rintro e w' ⟨rfl, rfl⟩)) | (go_at_call 26; ((with_reducible refine (T1.out _).mono ?_); rintro e w' ⟨rfl, rfl⟩)))
      go_ret2
      exact ⟨rfl, HB.out⟩
  · have T0 := hide (fun W => lane_no h1 W)
    clear h h1
    go_enter Try.func9, Try.ntmps9
    go_wp2_with (go_at_call 26; ((refine (T0.out _).mono ?_); rintro e w' ⟨rfl, rfl⟩))
    go_ret2
    exact ⟨rfl, HB.out⟩
theorem blk8 {w : World} {g t : Nat} {a b c d e f i j : Value} (h : Blk w g t #[a, b, c, d, e, f, i, j]) : w.cell? ⟨g, 0, none⟩ = some a ∧ w.cell? ⟨g, 1, none⟩ = some b ∧ w.cell? ⟨g, 2, none⟩ = some c ∧ w.cell? ⟨g, 3, none⟩ = some d ∧ w.cell? ⟨g, 4, none⟩ = some e ∧ w.cell? ⟨g, 5, none⟩ = some f ∧ w.cell? ⟨g, 6, none⟩ = some i ∧ w.cell? ⟨g, 7, none⟩ = some j :=
  ⟨h.cell 0, h.cell 1, h.cell 2, h.cell 3, h.cell 4, h.cell 5, h.cell 6, h.cell 7⟩
/-- What a call leaves that may write the way at p, whose row was v's. -/
def Left (t : Nat) (w : World) (base p : Nat) (L : Lk) (most : Int) (v : Value) (l' : List Pc) (r : Value) : Ending → World → Prop := fun e w' =>
  e = .returned r ∧ ∃ A' c', WayAt t w' base p L most (.slice A' l'.length c') l' ∧ Only w w' (fun b => b = p ∨ some b = v.ownBlock) ∧ ∀ b, (Value.slice A' l'.length c').ownBlock = some b → some b = v.ownBlock ∨ w.heap.size ≤ b
theorem left_same {t : Nat} {w w' : World} {base p : Nat} {L : Lk} {most : Int} {A : Option Addr} {c : Nat} {l : List Pc} {r : Value} (h : WayAt t w base p L most (.slice A l.length c) l) (hb : Below w.heap.size w w') :
    Left t w base p L most (.slice A l.length c) l r (.returned r) w' := ⟨rfl, A, c, h.below hb, only_of_below hb _, fun b hb => .inl hb.symm⟩
theorem put_arg (w : World) (base p : Nat) (L : Lk) (most : Int) (A : Option Addr) (c : Nat) (l : List Pc) (x : Pc) (h : WayAt tW w base p L most (.slice A l.length c) l) (hm : 1 ≤ most) (hx : may x.f0 = false ∨ x.f0.f0.f1 ≠ L.f0 ∨ x.f0.f1 ≠ L.f1) :
    Calls Try.prog 10 #[.pointer (some ⟨p, 0, none⟩), .agg (c35 x).toArray] w (Left tW w base p L most (.slice A l.length c) l (.int .i64 1)) := by
  have hu := Try.underlying35
  have hu2 := Try.underlying33
  have hu3 := Try.underlying31
  have hu4 := Try.underlying52
  have HS := hide (fun w' (hb : Below w.heap.size w w') => left_same (r := .int .i64 1) h hb)
  have HB0 : Hid (Below w.heap.size w (w.alloc (.cells (c35 x).toArray 35))) := hide ((Below.refl w.heap.size w).alloc (Nat.le_refl _) _)
  have HX := hide (Blk.new w 35 (c35 x).toArray)
  have HW := hide (h.alloc (.cells (c35 x).toArray 35))
  have HN := hide (none_call _ base p L most _ l HW.out (by omega))
  have HC := hide (fun W => check_call x.f0 W)
  unfold c35 at HB0 HX HW HN ⊢
  unfold c33 at HC
  clear h
  cases hmay : may x.f0
  · rw [hmay] at HC
    clear hx hmay
    go_enter Try.func10, Try.ntmps10
    go_wp2_with (first | (go_at_call 27; refine (unhide HN).mono ?_; rintro e w' ⟨rfl, rfl⟩) | (go_at_call 15; refine (HC.out _).mono ?_; rintro e w1 ⟨rfl, hb1⟩; have HB1 := hide (below_step HB0.out hb1); clear hb1))
    go_ret
    exact HS.out _ HB1.out
  · rw [hmay] at HC
    have hx2 : x.f0.f0.f1 ≠ L.f0 ∨ x.f0.f1 ≠ L.f1 := by rcases hx with q | q; rw [hmay] at q; cases q; exact q
    clear hx hmay
    go_enter Try.func10, Try.ntmps10
    go_wp2_with (first | (go_at_call 27; refine (unhide HN).mono ?_; rintro e w' ⟨rfl, rfl⟩) | (go_at_call 15; refine (HC.out _).mono ?_; rintro e w1 ⟨rfl, hb1⟩; have HB1 := hide (below_step HB0.out hb1); have HX1 := hide (HX.out.below' hb1); have HW1 := hide (HW.out.below hb1); clear hb1))
    obtain ⟨x0, x1, x2, x3, x4, x5, x6, x7⟩ := blk8 HX1.out
    have c0 := HW1.out.c0
    have c1 := HW1.out.c1
    by_cases h1 : x.f0.f0.f1 = L.f0
    · have h2 : x.f0.f1 ≠ L.f1 := by
        rcases hx2 with q | q
        · exact absurd h1 q
        · exact q
      have b1 : (x.f0.f0.f1 != L.f0) = false := by rw [h1]; simp
      have b2 : (x.f0.f1 != L.f1) = true := by simpa using h2
      clear h1 h2 hx2
      go_quiet (fail)
      go_wp2_with fail
      go_quiet (fail)
      go_wp2_with fail
      go_ret
      exact HS.out _ (below_drewN (below_drewN HB1.out _) _)
    · have b1 : (x.f0.f0.f1 != L.f0) = true := by simpa using h1
      clear h1 hx2
      go_quiet (fail)
      go_wp2_with fail
      go_ret
      exact HS.out _ (below_drewN HB1.out _)
set_option maxHeartbeats 4000000 in
set_option maxRecDepth 100000 in
theorem put_full (w : World) (base p : Nat) (L : Lk) (most : Int) (A : Option Addr) (c : Nat) (l : List Pc) (x : Pc) (h : WayAt tW w base p L most (.slice A l.length c) l) (hm : 1 ≤ most) (hm2 : most ≤ 1024) (hl : l.length < 4611686018427387904) (hmay : may x.f0 = true) (h1 : x.f0.f0.f1 = L.f0) (h2 : x.f0.f1 = L.f1) (h3 : x.f0.f4 = false) (h4 : room most l.length = 0) :
    Calls Try.prog 10 #[.pointer (some ⟨p, 0, none⟩), .agg (c35 x).toArray] w (Left tW w base p L most (.slice A l.length c) l (.int .i64 9)) := by
  obtain ⟨⟨xk, xto, xval, xuid, xan⟩, xcol⟩ := x
  obtain rfl : xan = false := h3
  obtain ⟨r, hr⟩ : ∃ r, room most l.length = r := ⟨_, rfl⟩
  have hu := Try.underlying35
  have hu2 := Try.underlying33
  have hu3 := Try.underlying31
  have hu4 := Try.underlying52
  have HB0 : Hid (Below w.heap.size w (w.alloc (.cells (c35 ⟨⟨xk, xto, xval, xuid, false⟩, xcol⟩).toArray 35))) := hide ((Below.refl w.heap.size w).alloc (Nat.le_refl _) _)
  have HX := hide (Blk.new w 35 (c35 ⟨⟨xk, xto, xval, xuid, false⟩, xcol⟩).toArray)
  have HW := hide (h.alloc (.cells (c35 ⟨⟨xk, xto, xval, xuid, false⟩, xcol⟩).toArray 35))
  have HN := hide (none_call _ base p L most _ l HW.out (by omega))
  have HC := hide (fun W => check_call ⟨xk, xto, xval, xuid, false⟩ W)
  rw [show may ⟨xk, xto, xval, xuid, false⟩ = true from hmay] at HC
  have HRm : Hid (∀ W, WayAt tW W base p L most (.slice A l.length c) l → Calls Try.prog 12 #[.pointer (some ⟨p, 0, none⟩)] W fun e w' => e = .returned (.int .i64 r) ∧ ∃ n, w' = W.drewN n) := hide (fun W hW => by rw [← hr]; exact room_call W base p L most A c l hW hm hm2 (by omega))
  have HS := hide (fun w2 (hb : Below w.heap.size w w2) => left_same (r := .int .i64 9) h hb)
  have r0 : (r == 0) = true := by rw [← hr, h4]; rfl
  have b1 : (xk.f1 != L.f0) = false := by rw [show xk.f1 = L.f0 from h1]; simp
  have b2 : (xto != L.f1) = false := by rw [show xto = L.f1 from h2]; simp
  unfold c35 at HB0 HX HW HN ⊢
  unfold c33 at HC
  obtain ⟨Q, hQ⟩ : ∃ Q, Left tW w base p L most (.slice A l.length c) l (.int .i64 9) = Q := ⟨_, rfl⟩
  rw [hQ]
  have HQ := hide hQ
  rw [h4] at hr
  subst hr
  clear h h1 h2 hmay hl hQ h4 r0
  go_enter Try.func10, Try.ntmps10
  go_wp2_with (first | (go_at_call 27; refine (unhide HN).mono ?_; rintro e w' ⟨rfl, rfl⟩) | (go_at_call 15; refine (HC.out _).mono ?_; rintro e w1 ⟨rfl, hb1⟩; have HB1 := hide (below_step HB0.out hb1); have HX1 := hide (HX.out.below' hb1); have HW1 := hide (HW.out.below hb1); clear hb1 HB0 HX HW HN HC))
  obtain ⟨x0, x1, x2, x3, x4, x5, x6, x7⟩ := blk8 HX1.out
  have c0 := HW1.out.c0
  have c1 := HW1.out.c1
  go_quiet (fail)
  have HB2 := hide (below_drewN HB1.out nq)
  have HX2 := hide (HX1.out.drewN nq)
  have HW2 := hide (HW1.out.drewN nq)
  clear HB1 HX1 HW1 c0 c1 x0 x1 x2 x3 x4 x5 x6 x7
  generalize w1.drewN nq = w2 at HB2 HX2 HW2 ⊢
  obtain ⟨x0, x1, x2, x3, x4, x5, x6, x7⟩ := blk8 HX2.out
  have c0 := HW2.out.c0
  have c1 := HW2.out.c1
  go_wp2_with fail
  go_quiet (fail)
  have HB3 := hide (below_drewN HB2.out nq)
  have HX3 := hide (HX2.out.drewN nq)
  have HW3 := hide (HW2.out.drewN nq)
  clear HB2 HX2 HW2 c0 c1 x0 x1 x2 x3 x4 x5 x6 x7
  generalize w2.drewN nq = w3 at HB3 HX3 HW3 ⊢
  obtain ⟨x0, x1, x2, x3, x4, x5, x6, x7⟩ := blk8 HX3.out
  have c0 := HW3.out.c0
  have c1 := HW3.out.c1
  go_wp2_with fail
  refine (HRm.out _ HW3.out).mono ?_
  rintro e w4 ⟨rfl, nq, rfl⟩
  have HB4 := hide (below_drewN HB3.out nq)
  have HX4 := hide (HX3.out.drewN nq)
  have HW4 := hide (HW3.out.drewN nq)
  clear HB3 HX3 HW3 c0 c1 x0 x1 x2 x3 x4 x5 x6 x7
  generalize w3.drewN nq = w4 at HB4 HX4 HW4 ⊢
  obtain ⟨x0, x1, x2, x3, x4, x5, x6, x7⟩ := blk8 HX4.out
  go_wp2_with fail
  rw [← HQ.out]
  exact HS.out _ HB4.out
set_option maxHeartbeats 8000000 in
set_option maxRecDepth 100000 in
theorem put_ok (w : World) (base p : Nat) (L : Lk) (most : Int) (A : Option Addr) (c : Nat) (l : List Pc) (x : Pc) (h : WayAt tW w base p L most (.slice A l.length c) l) (hm : 1 ≤ most) (hm2 : most ≤ 1024) (hl : (l.length + 1) * 64 ≤ 140737488355328) (hbase : base ≤ w.heap.size) (hmay : may x.f0 = true) (h1 : x.f0.f0.f1 = L.f0) (h2 : x.f0.f1 = L.f1) (h3 : x.f0.f4 = true ∨ room most l.length ≠ 0) :
    Calls Try.prog 10 #[.pointer (some ⟨p, 0, none⟩), .agg (c35 x).toArray] w (Left tW w base p L most (.slice A l.length c) (l ++ [x]) (.int .i64 0)) := by
  obtain ⟨⟨xk, xto, xval, xuid, xan⟩, xcol⟩ := x
  obtain ⟨r, hr⟩ : ∃ r, room most l.length = r := ⟨_, rfl⟩
  cases xan
  · have h4 : r ≠ 0 := by
      rcases h3 with q | q
      · cases q
      · rw [hr] at q; exact q
    have b3 : (r == 0) = false := by simpa using h4
    clear h3 h4
    have hu := Try.underlying35
    have hu2 := Try.underlying33
    have hu3 := Try.underlying31
    have hu4 := Try.underlying52
    have HB0 : Hid (Below w.heap.size w (w.alloc (.cells (c35 ⟨⟨xk, xto, xval, xuid, false⟩, xcol⟩).toArray 35))) := hide ((Below.refl w.heap.size w).alloc (Nat.le_refl _) _)
    have HX := hide (Blk.new w 35 (c35 ⟨⟨xk, xto, xval, xuid, false⟩, xcol⟩).toArray)
    have HW := hide (h.alloc (.cells (c35 ⟨⟨xk, xto, xval, xuid, false⟩, xcol⟩).toArray 35))
    have HN := hide (none_call _ base p L most _ l HW.out (by omega))
    have HC := hide (fun W => check_call ⟨xk, xto, xval, xuid, false⟩ W)
    rw [show may ⟨xk, xto, xval, xuid, false⟩ = true from hmay] at HC
    have HRm : Hid (∀ W, WayAt tW W base p L most (.slice A l.length c) l → Calls Try.prog 12 #[.pointer (some ⟨p, 0, none⟩)] W fun e w' => e = .returned (.int .i64 r) ∧ ∃ n, w' = W.drewN n) := hide (fun W hW => by rw [← hr]; exact room_call W base p L most A c l hW hm hm2 (by omega))
    have HL := hide hl
    have HBase := hide hbase
    have HOL := hide h
    have b1 : (xk.f1 != L.f0) = false := by rw [show xk.f1 = L.f0 from h1]; simp
    have b2 : (xto != L.f1) = false := by rw [show xto = L.f1 from h2]; simp
    unfold c35 at HB0 HX HW HN ⊢
    unfold c33 at HC
    obtain ⟨Q, hQ⟩ : ∃ Q, Left tW w base p L most (.slice A l.length c) (l ++ [⟨⟨xk, xto, xval, xuid, false⟩, xcol⟩]) (.int .i64 0) = Q := ⟨_, rfl⟩
    rw [hQ]
    have HQ := hide hQ
    clear h h1 h2 hmay hl hbase hr hQ
    go_enter Try.func10, Try.ntmps10
    go_wp2_with (first | (go_at_call 27; refine (unhide HN).mono ?_; rintro e w' ⟨rfl, rfl⟩) | (go_at_call 15; refine (HC.out _).mono ?_; rintro e w1 ⟨rfl, hb1⟩; have HB1 := hide (below_step HB0.out hb1); have HX1 := hide (HX.out.below' hb1); have HW1 := hide (HW.out.below hb1); clear hb1 HB0 HX HW HN HC))
    obtain ⟨x0, x1, x2, x3, x4, x5, x6, x7⟩ := blk8 HX1.out
    have c0 := HW1.out.c0
    have c1 := HW1.out.c1
    go_quiet (fail)
    have HB2 := hide (below_drewN HB1.out nq)
    have HX2 := hide (HX1.out.drewN nq)
    have HW2 := hide (HW1.out.drewN nq)
    clear HB1 HX1 HW1 c0 c1 x0 x1 x2 x3 x4 x5 x6 x7
    generalize w1.drewN nq = w2 at HB2 HX2 HW2 ⊢
    obtain ⟨x0, x1, x2, x3, x4, x5, x6, x7⟩ := blk8 HX2.out
    have c0 := HW2.out.c0
    have c1 := HW2.out.c1
    go_wp2_with fail
    go_quiet (fail)
    have HB3 := hide (below_drewN HB2.out nq)
    have HX3 := hide (HX2.out.drewN nq)
    have HW3 := hide (HW2.out.drewN nq)
    clear HB2 HX2 HW2 c0 c1 x0 x1 x2 x3 x4 x5 x6 x7
    generalize w2.drewN nq = w3 at HB3 HX3 HW3 ⊢
    obtain ⟨x0, x1, x2, x3, x4, x5, x6, x7⟩ := blk8 HX3.out
    have c0 := HW3.out.c0
    have c1 := HW3.out.c1
    go_wp2_with fail
    refine (HRm.out _ HW3.out).mono ?_
    rintro e w4 ⟨rfl, nq, rfl⟩
    have HB4 := hide (below_drewN HB3.out nq)
    have HX4 := hide (HX3.out.drewN nq)
    have HW4 := hide (HW3.out.drewN nq)
    clear HB3 HX3 HW3 c0 c1 x0 x1 x2 x3 x4 x5 x6 x7
    generalize w3.drewN nq = w4 at HB4 HX4 HW4 ⊢
    obtain ⟨x0, x1, x2, x3, x4, x5, x6, x7⟩ := blk8 HX4.out
    have c0 := HW4.out.c0
    have c1 := HW4.out.c1
    have c5 := HW4.out.c5
    have f5 : w4.frozen? ⟨p, 5, none⟩ = false := HW4.out.blk.frozen 5
    go_wp2_with fail
    have hsz : w.heap.size ≤ w4.heap.size := HB4.out.size
    have hbs : base ≤ w4.heap.size := Nat.le_trans HBase.out hsz
    generalize hww : w4 = W at HB4 HX4 HW4 c5 f5 x0 x1 x2 x3 x4 x5 x6 x7 hsz hbs ⊢
    clear hww c0 c1
    have hpl : p < W.heap.size := HW4.out.blk.lt
    have c5a : ((W.alloc (.cells #[.int .i64 xk.f0, .int .i64 xk.f1, .int .i64 xk.f2, .int .i64 xto, .int .i64 xval, .int .i64 xuid, .bool false, .int .i64 xcol] 35)).drew).cell? ⟨p, 5, none⟩ = some (.slice A l.length c) := ((HW4.out.alloc _).drew).c5
    go_region_law ((first
      | (refine step_append flatP rfl k35_open rfl (.tmp 47) (.tmp 49) 50 rfl zP 64 Try.underlying50 infoP rfl _ (by rfl) ((HW4.out.own.alloc _).drew) _ _ _ [⟨⟨xk, xto, xval, xuid, false⟩, xcol⟩] (by rfl) (by exact C_one (Blk.new W 35 _).drew flatP rfl k35_mk) (by omega) (by have := HL.out; simpa using this) (by simp; omega) ?_
         intro A' m' c' w5 hm' ho hg hblk
         have HP5 := hide (Blk.grown ((HW4.out.alloc _).drew).blk hg (fun e => HW4.out.ne p e.symm rfl))
         have HOn5 := hide (((only_of_below HB4.out (fun b => b = p ∨ some b = (Value.slice A l.length c).ownBlock)).alloc _).drew.trans (only_of_grown (S := fun b => b = p ∨ some b = (Value.slice A l.length c).ownBlock) hg (fun i e => .inl (.inr e.symm))))
         have HBk5 := hide (hblk)
         have HOw5 := hide ho
         have HM5 := hide hm'
         clear hblk ho hg hm'
         have k5 : w5.cell? ⟨p, 5, none⟩ = some (.slice A l.length c) := HP5.out.cell 5
         have k5f : w5.frozen? ⟨p, 5, none⟩ = false := HP5.out.frozen 5)))
    all_goals (
      go_wp2_with fail
      rw [← HQ.out]
      have hl' : m' = (l ++ ([⟨⟨xk, xto, xval, xuid, false⟩, xcol⟩] : List Pc)).length := by rw [HM5.out]; simp
      subst hl'
      have hne : ∀ b, (Value.slice A' (l ++ ([⟨⟨xk, xto, xval, xuid, false⟩, xcol⟩] : List Pc)).length c').ownBlock = some b → b ≠ p := fun b hb e => by
        rcases HBk5.out with q | q
        · exact HW4.out.ne b (q.symm.trans hb) e
        · have q2 := q.symm.trans hb
          injection q2 with q3
          have q4 : p < (W.alloc (.cells #[.int .i64 xk.f0, .int .i64 xk.f1, .int .i64 xk.f2, .int .i64 xto, .int .i64 xval, .int .i64 xuid, .bool false, .int .i64 xcol] 35)).drew.heap.size := by show p < (W.alloc _).heap.size; rw [World.size_alloc]; omega
          omega
      refine ⟨rfl, A', c', ⟨?_, ?_, hne⟩, ?_, ?_⟩
      · exact Blk.set_ HP5.out 5 _
      · exact HOw5.out.only (S := fun b => b = p) ((Only.refl w5 (fun b => b = p)).setCell (p := ⟨p, 5, none⟩) (.inl rfl) _) (fun b hb e => hne b hb e)
      · exact HOn5.out.setCell (p := ⟨p, 5, none⟩) (.inl (.inl rfl)) _
      · intro b hb
        rcases HBk5.out with q | q
        · exact .inl (hb.symm.trans q)
        · refine .inr ?_
          have q2 := q.symm.trans hb
          injection q2 with q3
          have q4 : (W.alloc (.cells #[.int .i64 xk.f0, .int .i64 xk.f1, .int .i64 xk.f2, .int .i64 xto, .int .i64 xval, .int .i64 xuid, .bool false, .int .i64 xcol] 35)).drew.heap.size = W.heap.size + 1 := World.size_alloc _ _
          omega)
  · clear h3
    have hu := Try.underlying35
    have hu2 := Try.underlying33
    have hu3 := Try.underlying31
    have hu4 := Try.underlying52
    have HB0 : Hid (Below w.heap.size w (w.alloc (.cells (c35 ⟨⟨xk, xto, xval, xuid, true⟩, xcol⟩).toArray 35))) := hide ((Below.refl w.heap.size w).alloc (Nat.le_refl _) _)
    have HX := hide (Blk.new w 35 (c35 ⟨⟨xk, xto, xval, xuid, true⟩, xcol⟩).toArray)
    have HW := hide (h.alloc (.cells (c35 ⟨⟨xk, xto, xval, xuid, true⟩, xcol⟩).toArray 35))
    have HN := hide (none_call _ base p L most _ l HW.out (by omega))
    have HC := hide (fun W => check_call ⟨xk, xto, xval, xuid, true⟩ W)
    rw [show may ⟨xk, xto, xval, xuid, true⟩ = true from hmay] at HC
    have HRm : Hid (∀ W, WayAt tW W base p L most (.slice A l.length c) l → Calls Try.prog 12 #[.pointer (some ⟨p, 0, none⟩)] W fun e w' => e = .returned (.int .i64 r) ∧ ∃ n, w' = W.drewN n) := hide (fun W hW => by rw [← hr]; exact room_call W base p L most A c l hW hm hm2 (by omega))
    have HL := hide hl
    have HBase := hide hbase
    have HOL := hide h
    have b1 : (xk.f1 != L.f0) = false := by rw [show xk.f1 = L.f0 from h1]; simp
    have b2 : (xto != L.f1) = false := by rw [show xto = L.f1 from h2]; simp
    unfold c35 at HB0 HX HW HN ⊢
    unfold c33 at HC
    obtain ⟨Q, hQ⟩ : ∃ Q, Left tW w base p L most (.slice A l.length c) (l ++ [⟨⟨xk, xto, xval, xuid, true⟩, xcol⟩]) (.int .i64 0) = Q := ⟨_, rfl⟩
    rw [hQ]
    have HQ := hide hQ
    clear h h1 h2 hmay hl hbase hr hQ
    go_enter Try.func10, Try.ntmps10
    go_wp2_with (first | (go_at_call 27; refine (unhide HN).mono ?_; rintro e w' ⟨rfl, rfl⟩) | (go_at_call 15; refine (HC.out _).mono ?_; rintro e w1 ⟨rfl, hb1⟩; have HB1 := hide (below_step HB0.out hb1); have HX1 := hide (HX.out.below' hb1); have HW1 := hide (HW.out.below hb1); clear hb1 HB0 HX HW HN HC))
    obtain ⟨x0, x1, x2, x3, x4, x5, x6, x7⟩ := blk8 HX1.out
    have c0 := HW1.out.c0
    have c1 := HW1.out.c1
    go_quiet (fail)
    have HB2 := hide (below_drewN HB1.out nq)
    have HX2 := hide (HX1.out.drewN nq)
    have HW2 := hide (HW1.out.drewN nq)
    clear HB1 HX1 HW1 c0 c1 x0 x1 x2 x3 x4 x5 x6 x7
    generalize w1.drewN nq = w2 at HB2 HX2 HW2 ⊢
    obtain ⟨x0, x1, x2, x3, x4, x5, x6, x7⟩ := blk8 HX2.out
    have c0 := HW2.out.c0
    have c1 := HW2.out.c1
    go_wp2_with fail
    go_quiet (fail)
    have HB3 := hide (below_drewN HB2.out nq)
    have HX3 := hide (HX2.out.drewN nq)
    have HW3 := hide (HW2.out.drewN nq)
    clear HB2 HX2 HW2 c0 c1 x0 x1 x2 x3 x4 x5 x6 x7
    generalize w2.drewN nq = w3 at HB3 HX3 HW3 ⊢
    obtain ⟨x0, x1, x2, x3, x4, x5, x6, x7⟩ := blk8 HX3.out
    have c0 := HW3.out.c0
    have c1 := HW3.out.c1
    have c5 := HW3.out.c5
    have f5 : w3.frozen? ⟨p, 5, none⟩ = false := HW3.out.blk.frozen 5
    go_wp2_with fail
    have hsz : w.heap.size ≤ w3.heap.size := HB3.out.size
    have hbs : base ≤ w3.heap.size := Nat.le_trans HBase.out hsz
    generalize hww : w3 = W at HB3 HX3 HW3 c5 f5 x0 x1 x2 x3 x4 x5 x6 x7 hsz hbs ⊢
    clear hww c0 c1
    have hpl : p < W.heap.size := HW3.out.blk.lt
    have c5a : ((W.alloc (.cells #[.int .i64 xk.f0, .int .i64 xk.f1, .int .i64 xk.f2, .int .i64 xto, .int .i64 xval, .int .i64 xuid, .bool true, .int .i64 xcol] 35)).drew).cell? ⟨p, 5, none⟩ = some (.slice A l.length c) := ((HW3.out.alloc _).drew).c5
    go_region_law ((first
      | (refine step_append flatP rfl k35_open rfl (.tmp 47) (.tmp 49) 50 rfl zP 64 Try.underlying50 infoP rfl _ (by rfl) ((HW3.out.own.alloc _).drew) _ _ _ [⟨⟨xk, xto, xval, xuid, true⟩, xcol⟩] (by rfl) (by exact C_one (Blk.new W 35 _).drew flatP rfl k35_mk) (by omega) (by have := HL.out; simpa using this) (by simp; omega) ?_
         intro A' m' c' w5 hm' ho hg hblk
         have HP5 := hide (Blk.grown ((HW3.out.alloc _).drew).blk hg (fun e => HW3.out.ne p e.symm rfl))
         have HOn5 := hide (((only_of_below HB3.out (fun b => b = p ∨ some b = (Value.slice A l.length c).ownBlock)).alloc _).drew.trans (only_of_grown (S := fun b => b = p ∨ some b = (Value.slice A l.length c).ownBlock) hg (fun i e => .inl (.inr e.symm))))
         have HBk5 := hide (hblk)
         have HOw5 := hide ho
         have HM5 := hide hm'
         clear hblk ho hg hm'
         have k5 : w5.cell? ⟨p, 5, none⟩ = some (.slice A l.length c) := HP5.out.cell 5
         have k5f : w5.frozen? ⟨p, 5, none⟩ = false := HP5.out.frozen 5)))
    all_goals (
      go_wp2_with fail
      rw [← HQ.out]
      have hl' : m' = (l ++ ([⟨⟨xk, xto, xval, xuid, true⟩, xcol⟩] : List Pc)).length := by rw [HM5.out]; simp
      subst hl'
      have hne : ∀ b, (Value.slice A' (l ++ ([⟨⟨xk, xto, xval, xuid, true⟩, xcol⟩] : List Pc)).length c').ownBlock = some b → b ≠ p := fun b hb e => by
        rcases HBk5.out with q | q
        · exact HW3.out.ne b (q.symm.trans hb) e
        · have q2 := q.symm.trans hb
          injection q2 with q3
          have q4 : p < (W.alloc (.cells #[.int .i64 xk.f0, .int .i64 xk.f1, .int .i64 xk.f2, .int .i64 xto, .int .i64 xval, .int .i64 xuid, .bool true, .int .i64 xcol] 35)).drew.heap.size := by show p < (W.alloc _).heap.size; rw [World.size_alloc]; omega
          omega
      refine ⟨rfl, A', c', ⟨?_, ?_, hne⟩, ?_, ?_⟩
      · exact Blk.set_ HP5.out 5 _
      · exact HOw5.out.only (S := fun b => b = p) ((Only.refl w5 (fun b => b = p)).setCell (p := ⟨p, 5, none⟩) (.inl rfl) _) (fun b hb e => hne b hb e)
      · exact HOn5.out.setCell (p := ⟨p, 5, none⟩) (.inl (.inl rfl)) _
      · intro b hb
        rcases HBk5.out with q | q
        · exact .inl (hb.symm.trans q)
        · refine .inr ?_
          have q2 := q.symm.trans hb
          injection q2 with q3
          have q4 : (W.alloc (.cells #[.int .i64 xk.f0, .int .i64 xk.f1, .int .i64 xk.f2, .int .i64 xto, .int .i64 xval, .int .i64 xuid, .bool true, .int .i64 xcol] 35)).drew.heap.size = W.heap.size + 1 := World.size_alloc _ _
          omega)
end Go.Proofs.Ytdbdaalkmjcifaa.Link
