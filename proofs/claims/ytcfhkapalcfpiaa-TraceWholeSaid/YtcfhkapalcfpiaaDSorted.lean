/- The contract of event.Sorted: a new row, the list in stable order. No law is proved here. -/
import Derived.Test.YtcfhkapalcfpiaaDSortStable
import Derived.Test.YtcfhkapalcfpiaaDOrd
import Derived.Test.YtcfhkapalcfpiaaRow
import Derived.WalkSpells
set_option linter.unusedVariables false
set_option linter.unusedSimpArgs false
set_option linter.unusedSectionVars false
namespace Go.Proofs.Ytcfhkapalcfpiaa.Sorted
open Go.Proofs.Ytcfhkapalcfpiaa.SortW (Sorts Holds' stable_call)
open Go.Proofs.Ytcfhkapalcfpiaa.Ord (Gr ck sg ordD befD cmp_key)
open Go.Proofs Go.Shelf Go.RowKit Go.Lib Go.Sort Go.Proofs.Ytcfhkapalcfpiaa.SortPure Go.Proofs.Ytcfhkapalcfpiaa.Heap Go.Proofs.Ytcfhkapalcfpiaa.Types Go.Proofs.Ytcfhkapalcfpiaa.Row Go.Proofs.YtcfhkapalcfpiaaW.PrintWords Go.Proofs.YtcfhkapalcfpiaaW.PrintLast Go.Proofs.YtcfhkapalcfpiaaW.PrintMore
abbrev M := S29
abbrev enc (x : M) : List Value := c29 x
theorem flatM : Flat c29 5 := ⟨fun _ => rfl, fun x v hv => by
  unfold c29 at hv
  simp only [List.mem_cons, List.not_mem_nil, or_false] at hv
  rcases hv with rfl | rfl | rfl | rfl | rfl <;> rfl, by omega⟩
/-- Lexicographic. -/
theorem ord_neg (a0 a1 a2 b0 b1 b2 : Int) : ck a0 a1 a2 b0 b1 b2 < 0 ↔ a0 < b0 ∨ (a0 = b0 ∧ (a1 < b1 ∨ (a1 = b1 ∧ a2 < b2))) := by
  unfold ck sg
  repeat' split
  all_goals omega
theorem befD_iff (x y : M) : befD x y = true ↔ x.f0.f0 < y.f0.f0 ∨ (x.f0.f0 = y.f0.f0 ∧ (x.f0.f1 < y.f0.f1 ∨ (x.f0.f1 = y.f0.f1 ∧ x.f0.f2 < y.f0.f2))) := by
  unfold befD ordD
  rw [decide_eq_true_iff, ord_neg]
theorem weakM : Weak befD := by
  refine ⟨fun a b h => ?_, fun a b c h1 h2 => ?_⟩
  · have h' := (befD_iff a b).1 h
    cases hb : befD b a
    · rfl
    · have := (befD_iff b a).1 hb
      omega
  · have q1 : ¬ befD a b = true := by rw [h1]; simp
    have q2 : ¬ befD b c = true := by rw [h2]; simp
    rw [befD_iff] at q1 q2
    cases hb : befD a c
    · rfl
    · have := (befD_iff a c).1 hb
      omega
theorem lt_eq : ltOf ordD = befD := rfl

theorem sorts : Sorts Try.prog 5 where
  mixed := by kernel_rfl
  fswp := Try.func40
  frot := Try.func39
  fsym := Try.func38
  fins := Try.func37
  fsta := Try.func34
  t0 := by kernel_rfl
  a0 := fun w => by kernel_rfl
  z0 := fun w => by kernel_rfl
  v0 := fun w => by kernel_rfl
  t3 := by kernel_rfl
  a3 := fun w => by kernel_rfl
  z3 := fun w => by kernel_rfl
  v3 := fun w => by kernel_rfl
  tu := by kernel_rfl
  au := fun w => by kernel_rfl
  zu := fun w => by kernel_rfl
  vu := fun w => by kernel_rfl
  t4 := by kernel_rfl
  a4 := fun w => by kernel_rfl
  z4 := fun w => by kernel_rfl
  v4 := fun w => by kernel_rfl
  t22 := by kernel_rfl
  a22 := fun w => by kernel_rfl
  z22 := fun w => by kernel_rfl
  v22 := fun w => by kernel_rfl
  t25 := by kernel_rfl
  a25 := fun w => by kernel_rfl
  z25 := fun w => by kernel_rfl
  v25 := fun w => by kernel_rfl
  aE := fun w => by kernel_rfl
  zE := fun w => by kernel_rfl

/-- The shelf's numbers at this seat's. -/
def ren : Ren := ⟨fun n => if n = 20 then 37 else 0, fun n => if n = 0 then 0 else if n = 3 then 3 else if n = 4 then 4 else if n = 22 then 22 else if n = 24 then 29 else if n = 25 then 42 else 0, fun _ => 0⟩
theorem lays : SlLaysF0.n20 Try.prog ren where
  mixed := by kernel_rfl
  f20 := ⟨"slices.insertionSortCmpFunc[isochron/api.Done]", by decide, by kernel_rfl⟩
  t0 := by kernel_rfl
  a0 := fun w => by kernel_rfl
  z0 := fun w => by kernel_rfl
  v0 := fun w => by kernel_rfl
  t3 := by kernel_rfl
  a3 := fun w => by kernel_rfl
  z3 := fun w => by kernel_rfl
  v3 := fun w => by kernel_rfl
  t4 := by kernel_rfl
  a4 := fun w => by kernel_rfl
  z4 := fun w => by kernel_rfl
  v4 := fun w => by kernel_rfl
  t22 := by kernel_rfl
  a22 := fun w => by kernel_rfl
  z22 := fun w => by kernel_rfl
  v22 := fun w => by kernel_rfl
  t25 := by kernel_rfl
  a25 := fun w => by kernel_rfl
  z25 := fun w => by kernel_rfl
  v25 := fun w => by kernel_rfl
theorem cmpLays (blk off size : Nat) (w : World) : CmpLays Try.prog 29 #[] c29 5 ordD blk off size w := by
  intro m os dk hs x y
  exact (cmp_key x y _).mono fun _ _ h => ⟨h.1, h.2⟩

def zM : Value := .agg #[.int .i64 0, .int .i64 0, .int .i64 0, .int .i64 0, .int .i64 0]
theorem infoM : (Try.prog.info? 29).map (fun i => (i.zero, i.size, i.bytes)) = some (some zM, 5, 40) := by kernel_rfl
/-- A row of messages of the law's own. -/
abbrev OwnM (w : World) (base : Nat) (v : Value) (l : List M) : Prop := Own c29 5 29 w base v l
theorem ins_none (A : Option Addr) (c : Nat) (f : Value) (w : World) : Calls Try.prog 37 #[.slice A 0 c, .int .i64 0, .int .i64 0, f] w fun e w' => e = .returned (.tuple #[]) ∧ w = w' := by
  go_enter Try.func37, Try.ntmps37
  go_wp2
  refine wp_loop_rounds 1 ?_
  rw [rounds_succ]
  go_wp2
  go_end0
  exact ⟨rfl, rfl⟩
theorem stable_none (A : Option Addr) (c : Nat) (f : Value) (w : World) : Calls Try.prog 34 #[.slice A 0 c, .int .i64 0, f] w fun e w' => e = .returned (.tuple #[]) ∧ w = w' := by
  go_enter Try.func34, Try.ntmps34
  go_wp2
  refine wp_loop_rounds 1 ?_
  rw [rounds_succ]
  go_wp2_with (go_at_call 37; refine (ins_none A c f _).mono ?_; rintro e w' ⟨rfl, rfl⟩)
  refine wp_loop_rounds 1 ?_
  rw [rounds_succ]
  go_wp2
  go_end0
  exact ⟨rfl, rfl⟩
theorem eorder : ∀ args w, (callFunc 29 args).run Try.prog w = .ok (.enter 29 args) w := enters_of Try.func29 rfl rfl
theorem stableFunc_call (w : World) (base : Nat) (v : Value) (l : List M) (h : OwnM w base v l) (hl : l.length * 40 ≤ 140737488355328) :
    Calls Try.prog 28 #[v, .func (.func 29) #[] #[]] w fun e w' => e = .returned (.tuple #[]) ∧ OwnM w' base v (isort befD l) ∧ Only w w' (fun b => some b = v.ownBlock) := by
  obtain ⟨A, c, rfl, hc, hA⟩ := h.slice
  rcases Nat.eq_zero_or_pos l.length with h0 | h0
  · obtain rfl : l = [] := List.eq_nil_of_length_eq_zero h0
    have H := hide h
    clear h
    go_enter Try.func28, Try.ntmps28
    go_wp2_with (go_at_call 34; refine (stable_none A c _ _).mono ?_; rintro e w' ⟨rfl, rfl⟩)
    go_end0
    exact ⟨rfl, H.out, Only.refl _ _⟩
  · obtain ⟨g, rfl⟩ := hA h0
    have hs : l.toArray.size = l.length := by simp
    have R : RowK c29 5 w g 0 l.toArray := ⟨flatM.len, flatM.one, h.holds flatM, (h.blk g rfl).2⟩
    have HC := stable_call lays rfl rfl sorts ordD weakM 29 #[] eorder g 0 c l.length l.toArray w hs.symm (cmpLays g 0 l.toArray.size w) R (by rw [hs]; omega)
    rw [hs] at HC
    have HCC := hide HC
    have H := hide h
    clear h R HC
    go_enter Try.func28, Try.ntmps28
    go_wp2_with (go_at_call 34; refine (Hid.out HCC).mono ?_; rintro e w1 ⟨rfl, d1, S2, hd1⟩; have S3 := hide S2; have HD := hide hd1; clear S2 hd1 HCC)
    go_end0
    have hlen : d1.toList.length = l.length := by rw [HD.out, length_isort]
    obtain ⟨q1, q2⟩ := H.out.sorted flatM S3.out hlen
    have hd : d1.toList = isort befD l := HD.out
    rw [hlen] at q1
    rw [hd] at q1
    exact ⟨rfl, q1, q2.mono (fun b hb => by rw [hb]; rfl)⟩
end Go.Proofs.Ytcfhkapalcfpiaa.Sorted
