/- The contract of event.Sorted: a new row, the list in stable order. No law is proved here. -/
import Derived.Test.YtkhdghlgkljdgaaSortStable
import Derived.Test.YtkhdghlgkljdgaaOrd
import Derived.Test.YtkhdghlgkljdgaaRow
import Derived.WalkSpells
set_option linter.unusedVariables false
set_option linter.unusedSimpArgs false
set_option linter.unusedSectionVars false
namespace Go.Proofs.Ytkhdghlgkljdgaa.Sorted
open Go.Proofs.Ytkhdghlgkljdgaa.SortW (Sorts Holds' stable_call)
open Go.Proofs.Ytkhdghlgkljdgaa.Ord (Gr ord ck sg ordM befM order_call)
open Go.Proofs Go.Shelf Go.RowKit Go.Lib Go.Sort Go.Proofs.Ytkhdghlgkljdgaa.SortPure Go.Proofs.Ytkhdghlgkljdgaa.Heap Go.Proofs.Ytkhdghlgkljdgaa.Types Go.Proofs.Ytkhdghlgkljdgaa.Row Go.Proofs.YtkhdghlgkljdgaaW.PrintWords Go.Proofs.YtkhdghlgkljdgaaW.PrintLast Go.Proofs.YtkhdghlgkljdgaaW.PrintMore
abbrev M := S25
abbrev enc (x : M) : List Value := c25 x
theorem flatM : Flat c25 7 := ⟨fun _ => rfl, fun x v hv => by
  unfold c25 at hv
  simp only [List.mem_cons, List.not_mem_nil, or_false] at hv
  rcases hv with rfl | rfl | rfl | rfl | rfl | rfl | rfl <;> rfl, by omega⟩
/-- Lexicographic. -/
theorem ord_neg (a0 a1 a2 a5 b0 b1 b2 b5 : Int) : ord a0 a1 a2 a5 b0 b1 b2 b5 < 0 ↔ a0 < b0 ∨ (a0 = b0 ∧ (a1 < b1 ∨ (a1 = b1 ∧ (a2 < b2 ∨ (a2 = b2 ∧ a5 < b5))))) := by
  unfold ord ck sg
  repeat' split
  all_goals omega
theorem befM_iff (x y : M) : befM x y = true ↔ x.f0.f0 < y.f0.f0 ∨ (x.f0.f0 = y.f0.f0 ∧ (x.f0.f1 < y.f0.f1 ∨ (x.f0.f1 = y.f0.f1 ∧ (x.f0.f2 < y.f0.f2 ∨ (x.f0.f2 = y.f0.f2 ∧ x.f3 < y.f3))))) := by
  unfold befM ordM
  rw [decide_eq_true_iff, ord_neg]
theorem weakM : Weak befM := by
  refine ⟨fun a b h => ?_, fun a b c h1 h2 => ?_⟩
  · have h' := (befM_iff a b).1 h
    cases hb : befM b a
    · rfl
    · have := (befM_iff b a).1 hb
      omega
  · have q1 : ¬ befM a b = true := by rw [h1]; simp
    have q2 : ¬ befM b c = true := by rw [h2]; simp
    rw [befM_iff] at q1 q2
    cases hb : befM a c
    · rfl
    · have := (befM_iff a c).1 hb
      omega
theorem lt_eq : ltOf ordM = befM := rfl

theorem sorts : Sorts Try.prog 7 where
  mixed := by kernel_rfl
  fswp := Try.func53
  frot := Try.func51
  fsym := Try.func48
  fins := Try.func47
  fsta := Try.func43
  t0 := by kernel_rfl
  a0 := fun w => by kernel_rfl
  z0 := fun w => by kernel_rfl
  v0 := fun w => by kernel_rfl
  t3 := by kernel_rfl
  a3 := fun w => by kernel_rfl
  z3 := fun w => by kernel_rfl
  v3 := fun w => by kernel_rfl
  tu := by kernel_rfl
  au := fun w => by kernel_rfl
  zu := fun w => by kernel_rfl
  vu := fun w => by kernel_rfl
  t4 := by kernel_rfl
  a4 := fun w => by kernel_rfl
  z4 := fun w => by kernel_rfl
  v4 := fun w => by kernel_rfl
  t22 := by kernel_rfl
  a22 := fun w => by kernel_rfl
  z22 := fun w => by kernel_rfl
  v22 := fun w => by kernel_rfl
  t25 := by kernel_rfl
  a25 := fun w => by kernel_rfl
  z25 := fun w => by kernel_rfl
  v25 := fun w => by kernel_rfl
  aE := fun w => by kernel_rfl
  zE := fun w => by kernel_rfl

/-- The shelf's numbers at this seat's. -/
def ren : Ren := ⟨fun n => if n = 20 then 47 else 0, fun n => if n = 0 then 0 else if n = 3 then 3 else if n = 4 then 4 else if n = 22 then 26 else if n = 24 then 25 else if n = 25 then 67 else 0, fun _ => 0⟩
theorem lays : SlLaysF0.n20 Try.prog ren where
  mixed := by kernel_rfl
  f20 := ⟨"slices.insertionSortCmpFunc[isochron/api.Message]", by decide, by kernel_rfl⟩
  t0 := by kernel_rfl
  a0 := fun w => by kernel_rfl
  z0 := fun w => by kernel_rfl
  v0 := fun w => by kernel_rfl
  t3 := by kernel_rfl
  a3 := fun w => by kernel_rfl
  z3 := fun w => by kernel_rfl
  v3 := fun w => by kernel_rfl
  t4 := by kernel_rfl
  a4 := fun w => by kernel_rfl
  z4 := fun w => by kernel_rfl
  v4 := fun w => by kernel_rfl
  t22 := by kernel_rfl
  a22 := fun w => by kernel_rfl
  z22 := fun w => by kernel_rfl
  v22 := fun w => by kernel_rfl
  t25 := by kernel_rfl
  a25 := fun w => by kernel_rfl
  z25 := fun w => by kernel_rfl
  v25 := fun w => by kernel_rfl
theorem cmpLays (blk off size : Nat) (w : World) : CmpLays Try.prog 28 #[] c25 7 ordM blk off size w := by
  intro m os dk hs x y
  exact (order_call x y _).mono fun _ _ h => ⟨h.1, h.2⟩

def zM : Value := .agg #[.int .i64 0, .int .i64 0, .int .i64 0, .int .i64 0, .int .i64 0, .int .i64 0, .bool false]
theorem infoM : (Try.prog.info? 25).map (fun i => (i.zero, i.size, i.bytes)) = some (some zM, 7, 56) := by kernel_rfl
/-- A row of messages of the law's own. -/
abbrev OwnM (w : World) (base : Nat) (v : Value) (l : List M) : Prop := Own c25 7 25 w base v l
theorem ins_none (A : Option Addr) (c : Nat) (f : Value) (w : World) : Calls Try.prog 47 #[.slice A 0 c, .int .i64 0, .int .i64 0, f] w fun e w' => e = .returned (.tuple #[]) ∧ w = w' := by
  go_enter Try.func47, Try.ntmps47
  go_wp2
  refine wp_loop_rounds 1 ?_
  rw [rounds_succ]
  go_wp2
  go_end0
  exact ⟨rfl, rfl⟩
theorem stable_none (A : Option Addr) (c : Nat) (f : Value) (w : World) : Calls Try.prog 43 #[.slice A 0 c, .int .i64 0, f] w fun e w' => e = .returned (.tuple #[]) ∧ w = w' := by
  go_enter Try.func43, Try.ntmps43
  go_wp2
  refine wp_loop_rounds 1 ?_
  rw [rounds_succ]
  go_wp2_with (go_at_call 47; refine (ins_none A c f _).mono ?_; rintro e w' ⟨rfl, rfl⟩)
  refine wp_loop_rounds 1 ?_
  rw [rounds_succ]
  go_wp2
  go_end0
  exact ⟨rfl, rfl⟩
theorem eorder : ∀ args w, (callFunc 28 args).run Try.prog w = .ok (.enter 28 args) w := enters_of Try.func28 rfl rfl
theorem stableFunc_call (w : World) (base : Nat) (v : Value) (l : List M) (h : OwnM w base v l) (hl : l.length * 56 ≤ 140737488355328) :
    Calls Try.prog 37 #[v, .func (.func 28) #[] #[]] w fun e w' => e = .returned (.tuple #[]) ∧ OwnM w' base v (isort befM l) ∧ Only w w' (fun b => some b = v.ownBlock) := by
  obtain ⟨A, c, rfl, hc, hA⟩ := h.slice
  rcases Nat.eq_zero_or_pos l.length with h0 | h0
  · obtain rfl : l = [] := List.eq_nil_of_length_eq_zero h0
    have H := hide h
    clear h
    go_enter Try.func37, Try.ntmps37
    go_wp2_with (go_at_call 43; refine (stable_none A c _ _).mono ?_; rintro e w' ⟨rfl, rfl⟩)
    go_end0
    exact ⟨rfl, H.out, Only.refl _ _⟩
  · obtain ⟨g, rfl⟩ := hA h0
    have hs : l.toArray.size = l.length := by simp
    have R : RowK c25 7 w g 0 l.toArray := ⟨flatM.len, flatM.one, h.holds flatM, (h.blk g rfl).2⟩
    have HC := stable_call lays rfl rfl sorts ordM weakM 28 #[] eorder g 0 c l.length l.toArray w hs.symm (cmpLays g 0 l.toArray.size w) R (by rw [hs]; omega)
    rw [hs] at HC
    have HCC := hide HC
    have H := hide h
    clear h R HC
    go_enter Try.func37, Try.ntmps37
    go_wp2_with (go_at_call 43; refine (Hid.out HCC).mono ?_; rintro e w1 ⟨rfl, d1, S2, hd1⟩; have S3 := hide S2; have HD := hide hd1; clear S2 hd1 HCC)
    go_end0
    have hlen : d1.toList.length = l.length := by rw [HD.out, length_isort]
    obtain ⟨q1, q2⟩ := H.out.sorted flatM S3.out hlen
    have hd : d1.toList = isort befM l := HD.out
    rw [hlen] at q1
    rw [hd] at q1
    exact ⟨rfl, q1, q2.mono (fun b hb => by rw [hb]; rfl)⟩
/-- A new row that holds l. -/
def Made (w : World) (l : List M) : Ending → World → Prop := fun e w' => ∃ v, e = .returned v ∧ OwnM w' w.heap.size v l ∧ Below w.heap.size w w'
set_option maxHeartbeats 4000000 in
set_option maxRecDepth 100000 in
theorem clone_call (A : Option Addr) (c : Nat) (l : List M) (hc : l.length ≤ c) (y : l.length * 56 ≤ 140737488355328) (w : World) (hr : Kd.C k25 w A l.length l) :
    Calls Try.prog 36 #[.slice A l.length c] w (Made w l) := by
  rcases A with _ | ad
  · have hl : l = [] := by
      rcases Nat.eq_zero_or_pos l.length with h0 | h0
      · exact List.eq_nil_of_length_eq_zero h0
      · obtain ⟨ad, e, _⟩ := hr.2.2 h0
        cases e
    subst hl
    have hq := fun (w : World) => Lib.run_eql_slice_nil (P := Try.prog) w 26 25 none 0 c 0 0 Try.underlying26
    go_enter Try.func36, Try.ntmps36
    go_wp2
    go_ret
    exact ⟨_, rfl, Own.nil _ _ _ _ _, Below.refl _ _⟩
  · have HB0 : Hid (Below w.heap.size w (w.alloc (.cells #[] 25))) := hide ((Below.refl w.heap.size w).alloc (Nat.le_refl _) _)
    have HN := hide (C_below hr HB0.out)
    have HO : Hid (OwnM (w.alloc (.cells #[] 25)) w.heap.size (.slice (some ⟨w.heap.size, 0, none⟩) 0 0) []) := hide (Own.empty w _ _ (Nat.le_refl _))
    have HY := hide y
    have hq := fun (w : World) => Lib.run_eql_slice_nil (P := Try.prog) w 26 25 (some ad) l.length c 0 0 Try.underlying26
    clear hr y
    go_enter Try.func36, Try.ntmps36
    go_wp2_with ((with_reducible refine gate_builtin (b := .append) (xs := #[.tmp 5, .tmp 6]) rfl ?_); at_builtin; refine wp_append flatM rfl k25_open rfl (.tmp 5) (.tmp 6) 26 rfl zM 56 Try.underlying26 infoM rfl _ rfl HO.out (some ad) l.length c l rfl HN.out (by omega) ?aL ?aB ?_; (case aL => have := HY.out; simpa using this); (case aB => simp); intro v1 w1 ho hg; have HO1 := hide ho; have HG1 := hide hg; clear HO ho hg)
    go_ret
    exact ⟨_, rfl, HO1.out, HB0.out.grown HG1.out (by simp) (fun k hk => by cases hk; exact Nat.le_refl _)⟩
theorem sorted1_call (A : Option Addr) (c : Nat) (l : List M) (hc : l.length ≤ c) (y : l.length * 56 ≤ 140737488355328) (w : World) (hr : Kd.C k25 w A l.length l) :
    Calls Try.prog 27 #[.slice A l.length c, .func (.func 28) #[] #[]] w (Made w (isort befM l)) := by
  have H1 := hide (clone_call A c l hc y w hr)
  have HY := hide y
  clear hr y
  go_enter Try.func27, Try.ntmps27
  go_wp2_with (first | (go_at_call 36; refine (Ord.unhide H1).mono ?_; rintro e w1 ⟨v1, rfl, ho, hb⟩; have HO := hide ho; have HB := hide hb; clear ho hb H1) | (go_at_call 37; refine (stableFunc_call _ _ _ l HO.out (by have := HY.out; omega)).mono ?_; rintro e w2 ⟨rfl, ho2, hb2⟩; have HO2 := hide ho2; have HB2 := hide hb2; clear ho2 hb2))
  go_ret
  exact ⟨_, rfl, HO2.out, HB.out.trans (HB2.out.below HB.out.size (fun i hi => (HO.out.blk i hi.symm).1))⟩
theorem sorted_call (A : Option Addr) (c : Nat) (l : List M) (hc : l.length ≤ c) (y : l.length * 56 ≤ 140737488355328) (w : World) (hr : Kd.C k25 w A l.length l) :
    Calls Try.prog 13 #[.slice A l.length c] w (Made w (isort befM l)) := by
  have H1 := hide (sorted1_call A c l hc y w hr)
  clear hr y
  go_enter Try.func13, Try.ntmps13
  go_wp2_with (go_at_call 27; refine (Ord.unhide H1).mono ?_; rintro e w1 ⟨v1, rfl, ho, hb⟩; have HO := hide ho; have HB := hide hb; clear ho hb H1)
  go_ret
  exact ⟨_, rfl, HO.out, HB.out⟩
end Go.Proofs.Ytkhdghlgkljdgaa.Sorted
