/- The contracts of the reference's ways (isochronref11): Put. No law is proved here. -/
import Derived.Test.YtdbdaalkmjcifaaLinkS
set_option linter.unusedVariables false
set_option linter.unusedSimpArgs false
namespace Go.Proofs.Ytdbdaalkmjcifaa.Link
open Go.Proofs Go.RowKit Go.Sort Go.Proofs.Ytdbdaalkmjcifaa.Types Go.Proofs.Ytdbdaalkmjcifaa.Heap Go.Proofs.Ytdbdaalkmjcifaa.Row Go.Proofs.YtdbdaalkmjcifaaW.PrintWords Go.Proofs.YtdbdaalkmjcifaaW.PrintLast Go.Proofs.YtdbdaalkmjcifaaW.PrintMore
attribute [local go_sem] max2_int min2_int max_two min_two max_three min_three max_four min_four
set_option maxHeartbeats 4000000 in
set_option maxRecDepth 100000 in
theorem rput_arg_a (w : World) (base p : Nat) (L : Lk) (most : Int) (A : Option Addr) (c : Nat) (l : List Pc) (xk : S31) (xto xval xuid : Int) (xan : Bool) (xcol : Int) (h : WayAt tR w base p L most (.slice A l.length c) l) (hmay : may ⟨xk, xto, xval, xuid, xan⟩ = false) :
    Calls Try.prog 20 #[.pointer (some ⟨p, 0, none⟩), .agg #[.int .i64 xk.f0, .int .i64 xk.f1, .int .i64 xk.f2, .int .i64 xto, .int .i64 xval, .int .i64 xuid, .bool xan, .int .i64 xcol]] w (Left tR w base p L most (.slice A l.length c) l (.int .i64 1)) := by
  have hu := Try.underlying35
  have hu2 := Try.underlying33
  have hu3 := Try.underlying31
  have hu4 := Try.underlying65
  have hu5 := Try.underlying28
  have mixed : Try.prog.follows .mixedOrders = true := by kernel_rfl
  have HH := hide h
  have HB0 : Hid (Below w.heap.size w (w.alloc (.cells #[.int .i64 xk.f0, .int .i64 xk.f1, .int .i64 xk.f2, .int .i64 xto, .int .i64 xval, .int .i64 xuid, .bool xan, .int .i64 xcol] 35))) := hide ((Below.refl w.heap.size w).alloc (Nat.le_refl _) _)
  have HX := hide (Blk.new w 35 #[.int .i64 xk.f0, .int .i64 xk.f1, .int .i64 xk.f2, .int .i64 xto, .int .i64 xval, .int .i64 xuid, .bool xan, .int .i64 xcol])
  have HW := hide (h.alloc (.cells #[.int .i64 xk.f0, .int .i64 xk.f1, .int .i64 xk.f2, .int .i64 xto, .int .i64 xval, .int .i64 xuid, .bool xan, .int .i64 xcol] 35))
  have hc := fun W => rcheck_gr ⟨xk, xto, xval, xuid, xan⟩ W
  rw [hmay] at hc
  simp only [if_true, Bool.false_eq_true, if_false] at hc
  have HC := hide hc
  clear h hmay hc
  go_enter Try.func20, Try.ntmps20
  go_wp2_with fail
  generalize w.alloc (.cells #[.int .i64 xk.f0, .int .i64 xk.f1, .int .i64 xk.f2, .int .i64 xto, .int .i64 xval, .int .i64 xuid, .bool xan, .int .i64 xcol] 35) = W at HB0 HX HW ⊢
  obtain ⟨g, hg⟩ : ∃ g, w.heap.size = g := ⟨_, rfl⟩
  have HG := hide hg
  rw [hg] at HX ⊢
  clear hg
  obtain ⟨x0, x1, x2, x3, x4, x5, x6, x7⟩ := blk8 HX.out
  have c0 := HW.out.c0
  have c1 := HW.out.c1
  have x0 := GrK.cg x0; have x1 := GrK.cg x1; have x2 := GrK.cg x2; have x3 := GrK.cg x3; have x4 := GrK.cg x4; have x5 := GrK.cg x5; have x6 := GrK.cg x6; have x7 := GrK.cg x7; have c0 := GrK.cg c0; have c1 := GrK.cg c1
  have hcall := GrK.gr_call (fun W => HC.out W) W
  unfold c33 at hcall
  refine wp_region_quiet_grown (by assumption) (by kernel_rfl) ?_
  repeat (go_big_quiet_step ((go_at_call 32; exact hcall _ _)))
  refine wpQuiet_nil ?_
  intro _ hw'
  obtain ⟨⟨nq, osq⟩, hw''⟩ := hw'
  subst hw''
  have HG2 := hide (GrK.Gr.of (w := W) nq osq).below
  clear x0 x1 x2 x3 x4 x5 x6 x7 c0 c1 hcall
  have HB2 := hide (below_step HB0.out HG2.out)
  have HX2 := hide (HX.out.below' HG2.out)
  have HW2 := hide (HW.out.below HG2.out)
  generalize grow (W.drewN nq) osq = w2 at HB2 HX2 HW2 ⊢
  clear HG2 HB0 HX HW HC
  go_wp2_with fail
  go_ret
  exact left_same HH.out HB2.out
set_option maxHeartbeats 4000000 in
set_option maxRecDepth 100000 in
theorem rput_arg_b (w : World) (base p : Nat) (L : Lk) (most : Int) (A : Option Addr) (c : Nat) (l : List Pc) (xk : S31) (xto xval xuid : Int) (xan : Bool) (xcol : Int) (h : WayAt tR w base p L most (.slice A l.length c) l) (hmay : may ⟨xk, xto, xval, xuid, xan⟩ = true) (b1 : (xk.f1 != L.f0) = true) :
    Calls Try.prog 20 #[.pointer (some ⟨p, 0, none⟩), .agg #[.int .i64 xk.f0, .int .i64 xk.f1, .int .i64 xk.f2, .int .i64 xto, .int .i64 xval, .int .i64 xuid, .bool xan, .int .i64 xcol]] w (Left tR w base p L most (.slice A l.length c) l (.int .i64 1)) := by
  have hu := Try.underlying35
  have hu2 := Try.underlying33
  have hu3 := Try.underlying31
  have hu4 := Try.underlying65
  have hu5 := Try.underlying28
  have mixed : Try.prog.follows .mixedOrders = true := by kernel_rfl
  have HH := hide h
  have HB0 : Hid (Below w.heap.size w (w.alloc (.cells #[.int .i64 xk.f0, .int .i64 xk.f1, .int .i64 xk.f2, .int .i64 xto, .int .i64 xval, .int .i64 xuid, .bool xan, .int .i64 xcol] 35))) := hide ((Below.refl w.heap.size w).alloc (Nat.le_refl _) _)
  have HX := hide (Blk.new w 35 #[.int .i64 xk.f0, .int .i64 xk.f1, .int .i64 xk.f2, .int .i64 xto, .int .i64 xval, .int .i64 xuid, .bool xan, .int .i64 xcol])
  have HW := hide (h.alloc (.cells #[.int .i64 xk.f0, .int .i64 xk.f1, .int .i64 xk.f2, .int .i64 xto, .int .i64 xval, .int .i64 xuid, .bool xan, .int .i64 xcol] 35))
  have hc := fun W => rcheck_gr ⟨xk, xto, xval, xuid, xan⟩ W
  rw [hmay] at hc
  simp only [if_true, Bool.false_eq_true, if_false] at hc
  have HC := hide hc
  clear h hmay hc
  go_enter Try.func20, Try.ntmps20
  go_wp2_with fail
  generalize w.alloc (.cells #[.int .i64 xk.f0, .int .i64 xk.f1, .int .i64 xk.f2, .int .i64 xto, .int .i64 xval, .int .i64 xuid, .bool xan, .int .i64 xcol] 35) = W at HB0 HX HW ⊢
  obtain ⟨g, hg⟩ : ∃ g, w.heap.size = g := ⟨_, rfl⟩
  have HG := hide hg
  rw [hg] at HX ⊢
  clear hg
  obtain ⟨x0, x1, x2, x3, x4, x5, x6, x7⟩ := blk8 HX.out
  have c0 := HW.out.c0
  have c1 := HW.out.c1
  have x0 := GrK.cg x0; have x1 := GrK.cg x1; have x2 := GrK.cg x2; have x3 := GrK.cg x3; have x4 := GrK.cg x4; have x5 := GrK.cg x5; have x6 := GrK.cg x6; have x7 := GrK.cg x7; have c0 := GrK.cg c0; have c1 := GrK.cg c1
  have hcall := GrK.gr_call (fun W => HC.out W) W
  unfold c33 at hcall
  refine wp_region_quiet_grown (by assumption) (by kernel_rfl) ?_
  repeat (go_big_quiet_step ((go_at_call 32; exact hcall _ _)))
  refine wpQuiet_nil ?_
  intro _ hw'
  obtain ⟨⟨nq, osq⟩, hw''⟩ := hw'
  subst hw''
  have HG2 := hide (GrK.Gr.of (w := W) nq osq).below
  clear x0 x1 x2 x3 x4 x5 x6 x7 c0 c1 hcall
  have HB2 := hide (below_step HB0.out HG2.out)
  have HX2 := hide (HX.out.below' HG2.out)
  have HW2 := hide (HW.out.below HG2.out)
  generalize grow (W.drewN nq) osq = w2 at HB2 HX2 HW2 ⊢
  clear HG2 HB0 HX HW HC
  go_wp2_with fail
  go_ret
  exact left_same HH.out HB2.out
set_option maxHeartbeats 4000000 in
set_option maxRecDepth 100000 in
theorem rput_arg_c (w : World) (base p : Nat) (L : Lk) (most : Int) (A : Option Addr) (c : Nat) (l : List Pc) (xk : S31) (xto xval xuid : Int) (xan : Bool) (xcol : Int) (h : WayAt tR w base p L most (.slice A l.length c) l) (hmay : may ⟨xk, xto, xval, xuid, xan⟩ = true) (b1 : (xk.f1 != L.f0) = false) (b2 : (xto != L.f1) = true) :
    Calls Try.prog 20 #[.pointer (some ⟨p, 0, none⟩), .agg #[.int .i64 xk.f0, .int .i64 xk.f1, .int .i64 xk.f2, .int .i64 xto, .int .i64 xval, .int .i64 xuid, .bool xan, .int .i64 xcol]] w (Left tR w base p L most (.slice A l.length c) l (.int .i64 1)) := by
  have hu := Try.underlying35
  have hu2 := Try.underlying33
  have hu3 := Try.underlying31
  have hu4 := Try.underlying65
  have hu5 := Try.underlying28
  have mixed : Try.prog.follows .mixedOrders = true := by kernel_rfl
  have HH := hide h
  have HB0 : Hid (Below w.heap.size w (w.alloc (.cells #[.int .i64 xk.f0, .int .i64 xk.f1, .int .i64 xk.f2, .int .i64 xto, .int .i64 xval, .int .i64 xuid, .bool xan, .int .i64 xcol] 35))) := hide ((Below.refl w.heap.size w).alloc (Nat.le_refl _) _)
  have HX := hide (Blk.new w 35 #[.int .i64 xk.f0, .int .i64 xk.f1, .int .i64 xk.f2, .int .i64 xto, .int .i64 xval, .int .i64 xuid, .bool xan, .int .i64 xcol])
  have HW := hide (h.alloc (.cells #[.int .i64 xk.f0, .int .i64 xk.f1, .int .i64 xk.f2, .int .i64 xto, .int .i64 xval, .int .i64 xuid, .bool xan, .int .i64 xcol] 35))
  have hc := fun W => rcheck_gr ⟨xk, xto, xval, xuid, xan⟩ W
  rw [hmay] at hc
  simp only [if_true, Bool.false_eq_true, if_false] at hc
  have HC := hide hc
  clear h hmay hc
  go_enter Try.func20, Try.ntmps20
  go_wp2_with fail
  generalize w.alloc (.cells #[.int .i64 xk.f0, .int .i64 xk.f1, .int .i64 xk.f2, .int .i64 xto, .int .i64 xval, .int .i64 xuid, .bool xan, .int .i64 xcol] 35) = W at HB0 HX HW ⊢
  obtain ⟨g, hg⟩ : ∃ g, w.heap.size = g := ⟨_, rfl⟩
  have HG := hide hg
  rw [hg] at HX ⊢
  clear hg
  obtain ⟨x0, x1, x2, x3, x4, x5, x6, x7⟩ := blk8 HX.out
  have c0 := HW.out.c0
  have c1 := HW.out.c1
  have x0 := GrK.cg x0; have x1 := GrK.cg x1; have x2 := GrK.cg x2; have x3 := GrK.cg x3; have x4 := GrK.cg x4; have x5 := GrK.cg x5; have x6 := GrK.cg x6; have x7 := GrK.cg x7; have c0 := GrK.cg c0; have c1 := GrK.cg c1
  have hcall := GrK.gr_call (fun W => HC.out W) W
  unfold c33 at hcall
  refine wp_region_quiet_grown (by assumption) (by kernel_rfl) ?_
  repeat (go_big_quiet_step ((go_at_call 32; exact hcall _ _)))
  refine wpQuiet_nil ?_
  intro _ hw'
  obtain ⟨⟨nq, osq⟩, hw''⟩ := hw'
  subst hw''
  have HG2 := hide (GrK.Gr.of (w := W) nq osq).below
  clear x0 x1 x2 x3 x4 x5 x6 x7 c0 c1 hcall
  have HB2 := hide (below_step HB0.out HG2.out)
  have HX2 := hide (HX.out.below' HG2.out)
  have HW2 := hide (HW.out.below HG2.out)
  generalize grow (W.drewN nq) osq = w2 at HB2 HX2 HW2 ⊢
  clear HG2 HB0 HX HW HC
  go_wp2_with fail
  go_ret
  exact left_same HH.out HB2.out
set_option maxHeartbeats 4000000 in
set_option maxRecDepth 100000 in
theorem rput_full (w : World) (base p : Nat) (L : Lk) (most : Int) (A : Option Addr) (c : Nat) (l : List Pc) (xk : S31) (xto xval xuid : Int) (xcol : Int) (h : WayAt tR w base p L most (.slice A l.length c) l) (hmay : may ⟨xk, xto, xval, xuid, false⟩ = true) (b1 : (xk.f1 != L.f0) = false) (b2 : (xto != L.f1) = false) (h3 : most ≤ (l.length : Int)) (hl : (l.length : Int) ≤ 4398046511104) :
    Calls Try.prog 20 #[.pointer (some ⟨p, 0, none⟩), .agg #[.int .i64 xk.f0, .int .i64 xk.f1, .int .i64 xk.f2, .int .i64 xto, .int .i64 xval, .int .i64 xuid, .bool false, .int .i64 xcol]] w (Left tR w base p L most (.slice A l.length c) l (.int .i64 9)) := by
  have hu := Try.underlying35
  have hu2 := Try.underlying33
  have hu3 := Try.underlying31
  have hu4 := Try.underlying65
  have hu5 := Try.underlying28
  have mixed : Try.prog.follows .mixedOrders = true := by kernel_rfl
  have HH := hide h
  have HB0 : Hid (Below w.heap.size w (w.alloc (.cells #[.int .i64 xk.f0, .int .i64 xk.f1, .int .i64 xk.f2, .int .i64 xto, .int .i64 xval, .int .i64 xuid, .bool false, .int .i64 xcol] 35))) := hide ((Below.refl w.heap.size w).alloc (Nat.le_refl _) _)
  have HX := hide (Blk.new w 35 #[.int .i64 xk.f0, .int .i64 xk.f1, .int .i64 xk.f2, .int .i64 xto, .int .i64 xval, .int .i64 xuid, .bool false, .int .i64 xcol])
  have HW := hide (h.alloc (.cells #[.int .i64 xk.f0, .int .i64 xk.f1, .int .i64 xk.f2, .int .i64 xto, .int .i64 xval, .int .i64 xuid, .bool false, .int .i64 xcol] 35))
  have hc := fun W => rcheck_gr ⟨xk, xto, xval, xuid, false⟩ W
  rw [hmay] at hc
  simp only [if_true, Bool.false_eq_true, if_false] at hc
  have HC := hide hc
  clear h hmay hc
  go_enter Try.func20, Try.ntmps20
  go_wp2_with fail
  generalize w.alloc (.cells #[.int .i64 xk.f0, .int .i64 xk.f1, .int .i64 xk.f2, .int .i64 xto, .int .i64 xval, .int .i64 xuid, .bool false, .int .i64 xcol] 35) = W at HB0 HX HW ⊢
  obtain ⟨g, hg⟩ : ∃ g, w.heap.size = g := ⟨_, rfl⟩
  have HG := hide hg
  rw [hg] at HX ⊢
  clear hg
  obtain ⟨x0, x1, x2, x3, x4, x5, x6, x7⟩ := blk8 HX.out
  have c0 := HW.out.c0
  have c1 := HW.out.c1
  have x0 := GrK.cg x0; have x1 := GrK.cg x1; have x2 := GrK.cg x2; have x3 := GrK.cg x3; have x4 := GrK.cg x4; have x5 := GrK.cg x5; have x6 := GrK.cg x6; have x7 := GrK.cg x7; have c0 := GrK.cg c0; have c1 := GrK.cg c1
  have hcall := GrK.gr_call (fun W => HC.out W) W
  unfold c33 at hcall
  refine wp_region_quiet_grown (by assumption) (by kernel_rfl) ?_
  repeat (go_big_quiet_step ((go_at_call 32; exact hcall _ _)))
  refine wpQuiet_nil ?_
  intro _ hw'
  obtain ⟨⟨nq, osq⟩, hw''⟩ := hw'
  subst hw''
  have HG2 := hide (GrK.Gr.of (w := W) nq osq).below
  clear x0 x1 x2 x3 x4 x5 x6 x7 c0 c1 hcall
  have HB2 := hide (below_step HB0.out HG2.out)
  have HX2 := hide (HX.out.below' HG2.out)
  have HW2 := hide (HW.out.below HG2.out)
  generalize grow (W.drewN nq) osq = w2 at HB2 HX2 HW2 ⊢
  clear HG2 HB0 HX HW HC
  obtain ⟨x0, x1, x2, x3, x4, x5, x6, x7⟩ := blk8 HX2.out
  have c4 := HW2.out.c4
  have c5 := HW2.out.c5
  go_wp2_with fail
  go_quiet (fail)
  have HB3 := hide (below_drewN HB2.out nq)
  have HX3 := hide (HX2.out.drewN nq)
  have HW3 := hide (HW2.out.drewN nq)
  clear HB2 HX2 HW2 c4 c5 x0 x1 x2 x3 x4 x5 x6 x7
  generalize w2.drewN nq = w3 at HB3 HX3 HW3 ⊢
  go_wp2_with fail
  go_ret
  exact left_same HH.out HB3.out
set_option maxHeartbeats 8000000 in
set_option maxRecDepth 100000 in
theorem rput_ok_false (w : World) (base p : Nat) (L : Lk) (most : Int) (A : Option Addr) (c : Nat) (l : List Pc) (xk : S31) (xto xval xuid : Int) (xcol : Int) (h : WayAt tR w base p L most (.slice A l.length c) l) (hmay : may ⟨xk, xto, xval, xuid, false⟩ = true) (b1 : (xk.f1 != L.f0) = false) (b2 : (xto != L.f1) = false) (h3 : ¬ most ≤ (l.length : Int)) (hl : (l.length + 1) * 64 ≤ 140737488355328) (hbase : base ≤ w.heap.size) :
    Calls Try.prog 20 #[.pointer (some ⟨p, 0, none⟩), .agg #[.int .i64 xk.f0, .int .i64 xk.f1, .int .i64 xk.f2, .int .i64 xto, .int .i64 xval, .int .i64 xuid, .bool false, .int .i64 xcol]] w (Left tR w base p L most (.slice A l.length c) (l ++ [⟨⟨xk, xto, xval, xuid, false⟩, xcol⟩]) (.int .i64 0)) := by
  have hu := Try.underlying35
  have hu2 := Try.underlying33
  have hu3 := Try.underlying31
  have hu4 := Try.underlying65
  have hu5 := Try.underlying28
  have mixed : Try.prog.follows .mixedOrders = true := by kernel_rfl
  have HH := hide h
  have HB0 : Hid (Below w.heap.size w (w.alloc (.cells #[.int .i64 xk.f0, .int .i64 xk.f1, .int .i64 xk.f2, .int .i64 xto, .int .i64 xval, .int .i64 xuid, .bool false, .int .i64 xcol] 35))) := hide ((Below.refl w.heap.size w).alloc (Nat.le_refl _) _)
  have HX := hide (Blk.new w 35 #[.int .i64 xk.f0, .int .i64 xk.f1, .int .i64 xk.f2, .int .i64 xto, .int .i64 xval, .int .i64 xuid, .bool false, .int .i64 xcol])
  have HW := hide (h.alloc (.cells #[.int .i64 xk.f0, .int .i64 xk.f1, .int .i64 xk.f2, .int .i64 xto, .int .i64 xval, .int .i64 xuid, .bool false, .int .i64 xcol] 35))
  have hc := fun W => rcheck_gr ⟨xk, xto, xval, xuid, false⟩ W
  rw [hmay] at hc
  simp only [if_true, Bool.false_eq_true, if_false] at hc
  have HC := hide hc
  have HL := hide hl
  have HBase := hide hbase
  clear hbase hl
  clear h hmay hc
  go_enter Try.func20, Try.ntmps20
  go_wp2_with fail
  generalize w.alloc (.cells #[.int .i64 xk.f0, .int .i64 xk.f1, .int .i64 xk.f2, .int .i64 xto, .int .i64 xval, .int .i64 xuid, .bool false, .int .i64 xcol] 35) = W at HB0 HX HW ⊢
  obtain ⟨g, hg⟩ : ∃ g, w.heap.size = g := ⟨_, rfl⟩
  have HG := hide hg
  rw [hg] at HX ⊢
  clear hg
  obtain ⟨x0, x1, x2, x3, x4, x5, x6, x7⟩ := blk8 HX.out
  have c0 := HW.out.c0
  have c1 := HW.out.c1
  have x0 := GrK.cg x0; have x1 := GrK.cg x1; have x2 := GrK.cg x2; have x3 := GrK.cg x3; have x4 := GrK.cg x4; have x5 := GrK.cg x5; have x6 := GrK.cg x6; have x7 := GrK.cg x7; have c0 := GrK.cg c0; have c1 := GrK.cg c1
  have hcall := GrK.gr_call (fun W => HC.out W) W
  unfold c33 at hcall
  refine wp_region_quiet_grown (by assumption) (by kernel_rfl) ?_
  repeat (go_big_quiet_step ((go_at_call 32; exact hcall _ _)))
  refine wpQuiet_nil ?_
  intro _ hw'
  obtain ⟨⟨nq, osq⟩, hw''⟩ := hw'
  subst hw''
  have HG2 := hide (GrK.Gr.of (w := W) nq osq).below
  clear x0 x1 x2 x3 x4 x5 x6 x7 c0 c1 hcall
  have HB2 := hide (below_step HB0.out HG2.out)
  have HX2 := hide (HX.out.below' HG2.out)
  have HW2 := hide (HW.out.below HG2.out)
  generalize grow (W.drewN nq) osq = w2 at HB2 HX2 HW2 ⊢
  clear HG2 HB0 HX HW HC
  obtain ⟨x0, x1, x2, x3, x4, x5, x6, x7⟩ := blk8 HX2.out
  have c4 := HW2.out.c4
  have c5 := HW2.out.c5
  go_wp2_with fail
  go_quiet (fail)
  have HB3 := hide (below_drewN HB2.out nq)
  have HX3 := hide (HX2.out.drewN nq)
  have HW3 := hide (HW2.out.drewN nq)
  clear HB2 HX2 HW2 c4 c5 x0 x1 x2 x3 x4 x5 x6 x7
  generalize w2.drewN nq = w3 at HB3 HX3 HW3 ⊢
  obtain ⟨x0, x1, x2, x3, x4, x5, x6, x7⟩ := blk8 HX3.out
  have c5 := HW3.out.c5
  have f5 : w3.frozen? ⟨p, 5, none⟩ = false := HW3.out.blk.frozen 5
  have hsz : w.heap.size ≤ w3.heap.size := HB3.out.size
  have hbs : base ≤ w3.heap.size := Nat.le_trans HBase.out hsz
  have hpl : p < w3.heap.size := HW3.out.blk.lt
  go_wp2_with fail
  generalize hww : w3 = W at HB3 HX3 HW3 c5 f5 x0 x1 x2 x3 x4 x5 x6 x7 hsz hbs hpl ⊢
  clear hww
  have c5a : ((W.alloc (.cells #[.int .i64 xk.f0, .int .i64 xk.f1, .int .i64 xk.f2, .int .i64 xto, .int .i64 xval, .int .i64 xuid, .bool false, .int .i64 xcol] 35)).drew).cell? ⟨p, 5, none⟩ = some (.slice A l.length c) := ((HW3.out.alloc _).drew).c5
  go_region_law ((first
    | (refine step_append flatP rfl k35_open rfl (.tmp 52) (.tmp 54) 50 rfl zP 64 Try.underlying50 infoP rfl _ (by rfl) ((HW3.out.own.alloc _).drew) _ _ _ [⟨⟨xk, xto, xval, xuid, false⟩, xcol⟩] (by rfl) (by exact C_one (Blk.new W 35 _).drew flatP rfl k35_mk) (by omega) (by have := HL.out; simpa using this) (by simp; omega) ?_
       intro A' m' c' w5 hm' ho hg hblk
       have HP5 := hide (Blk.grown ((HW3.out.alloc _).drew).blk hg (fun e => HW3.out.ne p e.symm rfl))
       have HOn5 := hide (((only_of_below HB3.out (fun b => b = p ∨ some b = (Value.slice A l.length c).ownBlock)).alloc _).drew.trans (only_of_grown (S := fun b => b = p ∨ some b = (Value.slice A l.length c).ownBlock) hg (fun i e => .inl (.inr e.symm))))
       have HBk5 := hide (hblk)
       have HOw5 := hide ho
       have HM5 := hide hm'
       clear hblk ho hg hm'
       have k5 : w5.cell? ⟨p, 5, none⟩ = some (.slice A l.length c) := HP5.out.cell 5
       have k5f : w5.frozen? ⟨p, 5, none⟩ = false := HP5.out.frozen 5)))
  all_goals (
    go_wp2_with fail
    go_ret
    have hl' : m' = (l ++ ([⟨⟨xk, xto, xval, xuid, false⟩, xcol⟩] : List Pc)).length := by rw [HM5.out]; simp
    subst hl'
    have hne : ∀ b, (Value.slice A' (l ++ ([⟨⟨xk, xto, xval, xuid, false⟩, xcol⟩] : List Pc)).length c').ownBlock = some b → b ≠ p := fun b hb e => by
      rcases HBk5.out with q | q
      · exact HW3.out.ne b (q.symm.trans hb) e
      · have q2 := q.symm.trans hb
        injection q2 with q3
        have q4 : p < (W.alloc (.cells #[.int .i64 xk.f0, .int .i64 xk.f1, .int .i64 xk.f2, .int .i64 xto, .int .i64 xval, .int .i64 xuid, .bool false, .int .i64 xcol] 35)).drew.heap.size := by show p < (W.alloc _).heap.size; rw [World.size_alloc]; omega
        omega
    refine ⟨rfl, A', c', ⟨?_, ?_, hne⟩, ?_, ?_⟩
    · exact Blk.set_ HP5.out 5 _
    · exact HOw5.out.only (S := fun b => b = p) ((Only.refl w5 (fun b => b = p)).setCell (p := ⟨p, 5, none⟩) (.inl rfl) _) (fun b hb e => hne b hb e)
    · exact HOn5.out.setCell (p := ⟨p, 5, none⟩) (.inl (.inl rfl)) _
    · intro b hb
      rcases HBk5.out with q | q
      · exact .inl (hb.symm.trans q)
      · refine .inr ?_
        have q2 := q.symm.trans hb
        injection q2 with q3
        have q4 : (W.alloc (.cells #[.int .i64 xk.f0, .int .i64 xk.f1, .int .i64 xk.f2, .int .i64 xto, .int .i64 xval, .int .i64 xuid, .bool false, .int .i64 xcol] 35)).drew.heap.size = W.heap.size + 1 := World.size_alloc _ _
        omega)
set_option maxHeartbeats 8000000 in
set_option maxRecDepth 100000 in
theorem rput_ok_true (w : World) (base p : Nat) (L : Lk) (most : Int) (A : Option Addr) (c : Nat) (l : List Pc) (xk : S31) (xto xval xuid : Int) (xcol : Int) (h : WayAt tR w base p L most (.slice A l.length c) l) (hmay : may ⟨xk, xto, xval, xuid, true⟩ = true) (b1 : (xk.f1 != L.f0) = false) (b2 : (xto != L.f1) = false) (hl : (l.length + 1) * 64 ≤ 140737488355328) (hbase : base ≤ w.heap.size) :
    Calls Try.prog 20 #[.pointer (some ⟨p, 0, none⟩), .agg #[.int .i64 xk.f0, .int .i64 xk.f1, .int .i64 xk.f2, .int .i64 xto, .int .i64 xval, .int .i64 xuid, .bool true, .int .i64 xcol]] w (Left tR w base p L most (.slice A l.length c) (l ++ [⟨⟨xk, xto, xval, xuid, true⟩, xcol⟩]) (.int .i64 0)) := by
  have hu := Try.underlying35
  have hu2 := Try.underlying33
  have hu3 := Try.underlying31
  have hu4 := Try.underlying65
  have hu5 := Try.underlying28
  have mixed : Try.prog.follows .mixedOrders = true := by kernel_rfl
  have HH := hide h
  have HB0 : Hid (Below w.heap.size w (w.alloc (.cells #[.int .i64 xk.f0, .int .i64 xk.f1, .int .i64 xk.f2, .int .i64 xto, .int .i64 xval, .int .i64 xuid, .bool true, .int .i64 xcol] 35))) := hide ((Below.refl w.heap.size w).alloc (Nat.le_refl _) _)
  have HX := hide (Blk.new w 35 #[.int .i64 xk.f0, .int .i64 xk.f1, .int .i64 xk.f2, .int .i64 xto, .int .i64 xval, .int .i64 xuid, .bool true, .int .i64 xcol])
  have HW := hide (h.alloc (.cells #[.int .i64 xk.f0, .int .i64 xk.f1, .int .i64 xk.f2, .int .i64 xto, .int .i64 xval, .int .i64 xuid, .bool true, .int .i64 xcol] 35))
  have hc := fun W => rcheck_gr ⟨xk, xto, xval, xuid, true⟩ W
  rw [hmay] at hc
  simp only [if_true, Bool.false_eq_true, if_false] at hc
  have HC := hide hc
  have HL := hide hl
  have HBase := hide hbase
  clear hbase hl
  clear h hmay hc
  go_enter Try.func20, Try.ntmps20
  go_wp2_with fail
  generalize w.alloc (.cells #[.int .i64 xk.f0, .int .i64 xk.f1, .int .i64 xk.f2, .int .i64 xto, .int .i64 xval, .int .i64 xuid, .bool true, .int .i64 xcol] 35) = W at HB0 HX HW ⊢
  obtain ⟨g, hg⟩ : ∃ g, w.heap.size = g := ⟨_, rfl⟩
  have HG := hide hg
  rw [hg] at HX ⊢
  clear hg
  obtain ⟨x0, x1, x2, x3, x4, x5, x6, x7⟩ := blk8 HX.out
  have c0 := HW.out.c0
  have c1 := HW.out.c1
  have x0 := GrK.cg x0; have x1 := GrK.cg x1; have x2 := GrK.cg x2; have x3 := GrK.cg x3; have x4 := GrK.cg x4; have x5 := GrK.cg x5; have x6 := GrK.cg x6; have x7 := GrK.cg x7; have c0 := GrK.cg c0; have c1 := GrK.cg c1
  have hcall := GrK.gr_call (fun W => HC.out W) W
  unfold c33 at hcall
  refine wp_region_quiet_grown (by assumption) (by kernel_rfl) ?_
  repeat (go_big_quiet_step ((go_at_call 32; exact hcall _ _)))
  refine wpQuiet_nil ?_
  intro _ hw'
  obtain ⟨⟨nq, osq⟩, hw''⟩ := hw'
  subst hw''
  have HG2 := hide (GrK.Gr.of (w := W) nq osq).below
  clear x0 x1 x2 x3 x4 x5 x6 x7 c0 c1 hcall
  have HB2 := hide (below_step HB0.out HG2.out)
  have HX2 := hide (HX.out.below' HG2.out)
  have HW2 := hide (HW.out.below HG2.out)
  generalize grow (W.drewN nq) osq = w2 at HB2 HX2 HW2 ⊢
  clear HG2 HB0 HX HW HC
  obtain ⟨x0, x1, x2, x3, x4, x5, x6, x7⟩ := blk8 HX2.out
  have c4 := HW2.out.c4
  have c5 := HW2.out.c5
  go_wp2_with fail
  go_quiet (fail)
  have HB3 := hide (below_drewN HB2.out nq)
  have HX3 := hide (HX2.out.drewN nq)
  have HW3 := hide (HW2.out.drewN nq)
  clear HB2 HX2 HW2 c4 c5 x0 x1 x2 x3 x4 x5 x6 x7
  generalize w2.drewN nq = w3 at HB3 HX3 HW3 ⊢
  obtain ⟨x0, x1, x2, x3, x4, x5, x6, x7⟩ := blk8 HX3.out
  have c5 := HW3.out.c5
  have f5 : w3.frozen? ⟨p, 5, none⟩ = false := HW3.out.blk.frozen 5
  have hsz : w.heap.size ≤ w3.heap.size := HB3.out.size
  have hbs : base ≤ w3.heap.size := Nat.le_trans HBase.out hsz
  have hpl : p < w3.heap.size := HW3.out.blk.lt
  go_wp2_with fail
  generalize hww : w3 = W at HB3 HX3 HW3 c5 f5 x0 x1 x2 x3 x4 x5 x6 x7 hsz hbs hpl ⊢
  clear hww
  have c5a : ((W.alloc (.cells #[.int .i64 xk.f0, .int .i64 xk.f1, .int .i64 xk.f2, .int .i64 xto, .int .i64 xval, .int .i64 xuid, .bool true, .int .i64 xcol] 35)).drew).cell? ⟨p, 5, none⟩ = some (.slice A l.length c) := ((HW3.out.alloc _).drew).c5
  go_region_law ((first
    | (refine step_append flatP rfl k35_open rfl (.tmp 52) (.tmp 54) 50 rfl zP 64 Try.underlying50 infoP rfl _ (by rfl) ((HW3.out.own.alloc _).drew) _ _ _ [⟨⟨xk, xto, xval, xuid, true⟩, xcol⟩] (by rfl) (by exact C_one (Blk.new W 35 _).drew flatP rfl k35_mk) (by omega) (by have := HL.out; simpa using this) (by simp; omega) ?_
       intro A' m' c' w5 hm' ho hg hblk
       have HP5 := hide (Blk.grown ((HW3.out.alloc _).drew).blk hg (fun e => HW3.out.ne p e.symm rfl))
       have HOn5 := hide (((only_of_below HB3.out (fun b => b = p ∨ some b = (Value.slice A l.length c).ownBlock)).alloc _).drew.trans (only_of_grown (S := fun b => b = p ∨ some b = (Value.slice A l.length c).ownBlock) hg (fun i e => .inl (.inr e.symm))))
       have HBk5 := hide (hblk)
       have HOw5 := hide ho
       have HM5 := hide hm'
       clear hblk ho hg hm'
       have k5 : w5.cell? ⟨p, 5, none⟩ = some (.slice A l.length c) := HP5.out.cell 5
       have k5f : w5.frozen? ⟨p, 5, none⟩ = false := HP5.out.frozen 5)))
  all_goals (
    go_wp2_with fail
    go_ret
    have hl' : m' = (l ++ ([⟨⟨xk, xto, xval, xuid, true⟩, xcol⟩] : List Pc)).length := by rw [HM5.out]; simp
    subst hl'
    have hne : ∀ b, (Value.slice A' (l ++ ([⟨⟨xk, xto, xval, xuid, true⟩, xcol⟩] : List Pc)).length c').ownBlock = some b → b ≠ p := fun b hb e => by
      rcases HBk5.out with q | q
      · exact HW3.out.ne b (q.symm.trans hb) e
      · have q2 := q.symm.trans hb
        injection q2 with q3
        have q4 : p < (W.alloc (.cells #[.int .i64 xk.f0, .int .i64 xk.f1, .int .i64 xk.f2, .int .i64 xto, .int .i64 xval, .int .i64 xuid, .bool true, .int .i64 xcol] 35)).drew.heap.size := by show p < (W.alloc _).heap.size; rw [World.size_alloc]; omega
        omega
    refine ⟨rfl, A', c', ⟨?_, ?_, hne⟩, ?_, ?_⟩
    · exact Blk.set_ HP5.out 5 _
    · exact HOw5.out.only (S := fun b => b = p) ((Only.refl w5 (fun b => b = p)).setCell (p := ⟨p, 5, none⟩) (.inl rfl) _) (fun b hb e => hne b hb e)
    · exact HOn5.out.setCell (p := ⟨p, 5, none⟩) (.inl (.inl rfl)) _
    · intro b hb
      rcases HBk5.out with q | q
      · exact .inl (hb.symm.trans q)
      · refine .inr ?_
        have q2 := q.symm.trans hb
        injection q2 with q3
        have q4 : (W.alloc (.cells #[.int .i64 xk.f0, .int .i64 xk.f1, .int .i64 xk.f2, .int .i64 xto, .int .i64 xval, .int .i64 xuid, .bool true, .int .i64 xcol] 35)).drew.heap.size = W.heap.size + 1 := World.size_alloc _ _
        omega)
end Go.Proofs.Ytdbdaalkmjcifaa.Link
