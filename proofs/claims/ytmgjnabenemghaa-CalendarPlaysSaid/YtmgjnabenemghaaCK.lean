/- The calendar's All. No law is proved here. -/
import Derived.Test.YtmgjnabenemghaaCJ
namespace Go.Proofs.Ytmgjnabenemghaa.CQ
open Go.Proofs Go.Shelf Go.RowKit Go.Deep Go.Sort Go.Maps Go.Proofs.Ytmgjnabenemghaa.SortPure Go.Proofs.Ytmgjnabenemghaa.Types Go.Proofs.Ytmgjnabenemghaa.Heap Go.Proofs.Ytmgjnabenemghaa.Row Go.Proofs.Ytmgjnabenemghaa.Ord Go.Proofs.Ytmgjnabenemghaa.Sorted Go.Proofs.YtmgjnabenemghaaW.PrintWords Go.Proofs.YtmgjnabenemghaaW.PrintLast Go.Proofs.YtmgjnabenemghaaW.PrintMore
set_option linter.unusedVariables false
set_option linter.unusedSimpArgs false
theorem perm_or {α : Type} (p q : α → Bool) (hd : ∀ x, p x = true → q x = false) : ∀ l : List α, (l.filter p ++ l.filter q).Perm (l.filter (fun x => p x || q x))
  | [] => List.Perm.refl _
  | x :: l => by
    have ih := perm_or p q hd l
    rw [List.filter_cons, List.filter_cons, List.filter_cons]
    cases hp : p x
    · cases hq : q x
      · simpa using ih
      · simp only [Bool.false_eq_true, if_false, if_true, Bool.or_true]
        exact (List.perm_middle).trans (ih.cons x)
    · rw [hd x hp]
      simp only [Bool.false_eq_true, if_false, if_true, Bool.or_false, List.cons_append]
      exact ih.cons x
set_option maxHeartbeats 8000000 in
set_option maxRecDepth 100000 in
theorem all_call {w : World} {P : Nat → Prop} {g b : Nat} {wd : Int} {sl : List M} (h : CAt w P g b wd sl) : Calls Try.prog 14 #[.pointer (some ⟨g, 0, none⟩)] w (Made w sl) := by
  have H := hide h
  obtain ⟨D, hown, hrep⟩ := h.days
  have HR := hide hrep
  have HN := hide (none_call h.c1)
  have c1 := h.c1
  have HBL : Hid (b < w.heap.size) := hide hown.lt
  clear h hrep
  go_enter Try.func14, Try.ntmps14
  go_wp2_with (first
    | (go_at_call 20; refine HN.out.mono ?_; rintro e w1 ⟨rfl, e1⟩; subst e1)
    | (at_range; refine wpList_range_own _ rfl _ tMap rfl tD tL lawD uMap _ b (Maps.size D) D rfl hown ?_; intro w0 hrg0 hg0 hs0)
    | go_in)
  go_frame
  have HB0 := hide (grown_none_below (Below.refl w1.heap.size w1) hg0)
  clear hg0 hs0
  go_loopw [3, 5] (fun v3 v5 wr => ∃ (left : Lit → Bool) (cnt : Nat) (acc : List M) (Ai : Option Addr) (ci : Nat), v3 = .slice Ai acc.length ci ∧ wr.ranges Try.prog tD RS b w1.heap.size (Maps.size D) D left cnt ∧ Hid (OwnM wr (w1.heap.size + 1) (.slice Ai acc.length ci) acc) ∧ Hid (acc.Perm (sl.filter (fun m => !left (.int .i64 (m.f0.f0 / wd))))) ∧ Hid (w1.heap.size + 1 ≤ wr.heap.size) ∧ Hid (Below w1.heap.size w1 wr)) (fun _ _ wr => wr.rangeLeft b w1.heap.size)
  case atStart =>
    refine ⟨_, _, [], none, 0, rfl, hrg0, hide (Own.nil _ _ _ _ _), hide ?_, hide hrg0.lt, HB0⟩
    have e : sl.filter (fun m => !Maps.has D (.int .i64 (m.f0.f0 / wd))) = [] := by
      rw [List.filter_eq_nil_iff]
      intro m hm
      have hne : row wd sl (m.f0.f0 / wd) ≠ [] := fun q => by
        have : m ∈ row wd sl (m.f0.f0 / wd) := mem_row.2 ⟨hm, rfl⟩
        rw [q] at this
        cases this
      rw [((HR.out _).2 hne).1]
      simp
    rw [e]
  case round =>
    obtain ⟨left, cnt, acc, Ai, ci, rfl, hrg, HO, HP, HS, HB⟩ := hrel
    clear HB0 hrg0 hown
    have HG := hide hrg
    go_wp2_with (first
      | (at_next; refine wpList_next_ranges _ rfl _ rfl tD lawD RS (fun d : Int => Value.int .i64 d) (fun p : Option Addr × Nat × Nat => Value.slice p.1 p.2.1 p.2.2) (fun key kl hkey => by obtain ⟨q, rfl, _⟩ := Maps.keyOf_int_inv Try.underlying2 hkey; exact ⟨q, rfl⟩) RS_inv b w1.heap.size (Maps.size D) D left cnt rfl hrg ?_ ?_)
      | go_in)
    · intro hc0 hl0
      have hp : acc.Perm sl := by
        have := HP.out
        rwa [show sl.filter (fun m => !left (.int .i64 (m.f0.f0 / wd))) = sl from List.filter_eq_self.2 (fun m _ => by rw [hl0]; rfl)] at this
      have HE : Hid (isort befM acc = sl) := hide (srt_uq_eq (srt_isort weakM acc) H.out.srt ((perm_isort acc).trans hp) ((Uq.perm ((perm_isort acc).trans hp)).2 H.out.uq))
      obtain ⟨Aj, cj, hvj, hcj, hCj, _⟩ := HO.out.reads flatM rfl k25_mk
      injection hvj with e1 e2 e3
      subst e1 e3
      have HSo := hide (sorted_call Ai ci acc hcj (by rw [hp.length_eq]; have := H.out.len; omega) wr hCj)
      clear e2 hcj hCj hp hrg
      go_wp2_with fail
      refine HSo.out.mono ?_
      rw [HE.out]
      rintro e w4 ⟨vS, rfl, hoS, hbS⟩
      go_wp2_with fail
      go_ret
      exact ⟨vS, rfl, hoS.lower HB.out.size, below_step HB.out hbS⟩
    · intro d A n c kl y1 y2 w2 cnt1 hkey hlk hv hat hrg1 hlt hg1 hs1 hen
      obtain ⟨q', eq1, rfl, hwq⟩ := Maps.keyOf_int_inv Try.underlying2 hkey
      obtain rfl : d = q' := by injection eq1
      have hne : row wd sl d ≠ [] := by
        intro e
        have h1 := (HR.out d).1 e
        have h2 := Maps.has_true_of_atKey hat
        rw [h1] at h2
        cases h2
      obtain ⟨_, A', c', hat', hc', hC, hF⟩ := (HR.out d).2 hne
      obtain ⟨rfl, hn, rfl⟩ := rs_unique hv hat hat'
      have HB1 := hide (grown_below HB.out hg1 (Nat.le_refl _))
      have HLT := hide hlt
      have HRG := hide hrg1
      have HO1 := hide (HO.out.move (fun x hx => hg1.block x (HO.out.blk x hx).2 (fun e => by have := (HO.out.blk x hx).1; injection e with e; omega)))
      have HS1 : Hid (w1.heap.size + 1 ≤ w2.heap.size) := hide (by have := HS.out; omega)
      have hll := row_le wd sl d
      have HPN : Hid ((acc ++ row wd sl d).Perm (sl.filter (fun m => !(left (.int .i64 (m.f0.f0 / wd)) && !(Lit.int .i64 (m.f0.f0 / wd)).sameKey (.int .i64 d))))) := hide (by
        refine (HP.out.append_right _).trans ?_
        unfold row
        refine (perm_or _ _ (fun m hm => ?_) sl).trans (List.Perm.of_eq ?_)
        · cases hq : (m.f0.f0 / wd == d)
          · rfl
          · have e : m.f0.f0 / wd = d := by simpa using hq
            rw [e, hlk] at hm
            cases hm
        · congr 1
          funext m
          rw [same_day]
          cases left (.int .i64 (m.f0.f0 / wd)) <;> cases (m.f0.f0 / wd == d) <;> rfl)
      have hal : acc.length ≤ sl.length := by rw [HP.out.length_eq]; exact List.length_filter_le _ _
      obtain ⟨l, hl⟩ : ∃ l, row wd sl d = l := ⟨_, rfl⟩
      rw [hl] at hn hC hc' hll HPN
      subst hn
      have HC := hide (C_below hC HB1.out)
      have HLN : Hid ((acc.length + l.length) * 56 ≤ 140737488355328) := hide (by have h1 := H.out.len; omega)
      clear hkey eq1 hwq hat hat' hC hF hne hv hl hc' hlt hg1 hs1 hrg1 hlk HB hrg hll hal HO HP HS
      go_wp2_with ((with_reducible refine gate_builtin (b := .append) (xs := #[.tmp 17, .tmp 18]) rfl ?_); at_builtin; refine wpList_plain (by rfl) (fun K hK => ?_); refine wp1_append flatM rfl k25_open (.tmp 17) (.tmp 18) 26 rfl zM 56 Try.underlying26 infoM rfl _ (by rfl) HO1.out _ _ _ l (by rfl) HC.out (by omega) HLN.out HS1.out ?_; intro A5 m5 c5 w5 hm ho hg hblk; have HO5 := hide ho; have HG5 := hide hg; have HM5 := hide hm; clear ho hg hblk hm; refine hK _ _ ?_)
      have hrg5 := HRG.out.kept HG5.out (fun e => by have := (HO1.out.blk _ e.symm).1; have := HBL.out; omega) (fun e => by have := (HO1.out.blk _ e.symm).1; omega)
      refine ⟨⟨_, cnt1, acc ++ l, A5, c5, by rw [List.length_append, ← HM5.out], hrg5, hide (by rw [List.length_append, ← HM5.out]; exact HO5.out), HPN, hide (Nat.le_trans HS1.out HG5.out.size), hide (HB1.out.grown HG5.out HB1.out.size (fun x e => by have := (HO1.out.blk x e).1; omega))⟩, ?_⟩
      rw [hrg5.left_eq, HG.out.left_eq]
      exact HLT.out
theorem cs_all {X : Nat → Prop} {w0 w : World} {g b : Nat} {wd : Int} {sl : List M} (h : Cs X w0 w g b wd sl) : Calls Try.prog 14 #[.pointer (some ⟨g, 0, none⟩)] w (Made w sl) := all_call h.at_
end Go.Proofs.Ytmgjnabenemghaa.CQ
