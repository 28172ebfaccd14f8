/- The ladder's bottom and rungs as parts of one list in order. No law is proved here. -/
import Derived.Test.YtkhdghlgkljdgaaCPure
namespace Go.Proofs.Ytkhdghlgkljdgaa.LQ
open Go.Proofs Go.RowKit Go.Proofs.Ytkhdghlgkljdgaa.SortPure Go.Proofs.Ytkhdghlgkljdgaa.Types Go.Proofs.Ytkhdghlgkljdgaa.Ord Go.Proofs.Ytkhdghlgkljdgaa.Sorted Go.Proofs.Ytkhdghlgkljdgaa.CQ
set_option linter.unusedVariables false
set_option linter.unusedSimpArgs false
/-- What stands behind the bottom: the last rung first. -/
def tl (ls : List (List M)) : List M := ls.foldl (fun acc r => isort befM r ++ acc) []
theorem tl_acc (ls : List (List M)) : ∀ acc, ls.foldl (fun acc r => isort befM r ++ acc) acc = tl ls ++ acc := by
  induction ls with
  | nil => intro acc; rfl
  | cons r ls ih =>
    intro acc
    rw [List.foldl_cons, ih]
    unfold tl
    rw [List.foldl_cons, ih (isort befM r ++ [])]
    simp [tl]
theorem tl_nil : tl [] = [] := rfl
theorem tl_one (r : List M) : tl [r] = isort befM r := by simp [tl]
theorem tl_append (a b : List (List M)) : tl (a ++ b) = tl b ++ tl a := by
  unfold tl
  rw [List.foldl_append, tl_acc b]
  rfl
theorem tl_snoc (a : List (List M)) (r : List M) : tl (a ++ [r]) = isort befM r ++ tl a := by rw [tl_append, tl_one]
theorem tl_mid (a : List (List M)) (r : List M) (b : List (List M)) : tl (a ++ r :: b) = tl b ++ (isort befM r ++ tl a) := by
  rw [show a ++ r :: b = (a ++ [r]) ++ b by simp, tl_append, tl_snoc]
theorem mem_isort {r : List M} {x : M} : x ∈ isort befM r ↔ x ∈ r := (perm_isort r).mem_iff
theorem mem_tl {ls : List (List M)} {x : M} : x ∈ tl ls ↔ ∃ r ∈ ls, x ∈ r := by
  induction ls using revInd with
  | nil => simp [tl_nil]
  | snoc ls r ih =>
    rw [tl_snoc, List.mem_append, mem_isort, ih]
    constructor
    · rintro (h | ⟨r', h, h'⟩)
      · exact ⟨r, by simp, h⟩
      · exact ⟨r', by simp [h], h'⟩
    · rintro ⟨r', h, h'⟩
      rcases List.mem_append.1 h with q | q
      · exact .inr ⟨r', q, h'⟩
      · rw [List.mem_singleton.1 q] at h'
        exact .inl h'
theorem perm_tl (ls : List (List M)) : (tl ls).Perm ls.flatten := by
  induction ls using revInd with
  | nil => exact List.Perm.refl _
  | snoc ls r ih =>
    rw [tl_snoc, List.flatten_append]
    simp only [List.flatten_cons, List.flatten_nil, List.append_nil]
    exact ((perm_isort r).append ih).trans List.perm_append_comm
theorem length_tl (ls : List (List M)) : (tl ls).length = (ls.map List.length).sum := by
  rw [(perm_tl ls).length_eq, List.length_flatten]
theorem isort_filter (p : M → Bool) (r : List M) : (isort befM r).filter p = isort befM (r.filter p) := by
  induction r using revInd with
  | nil => rfl
  | snoc r x ih =>
    rw [isort_snoc, ins_filter (srt_isort weakM r), List.filter_append, ih]
    cases hp : p x
    · simp [List.filter_cons, hp]
    · rw [List.filter_cons, if_pos hp, List.filter_nil, isort_snoc, if_pos rfl]
/-- The state: a bottom, rungs none of which is empty, and the list that they are. -/
structure Inv (b : List M) (ls : List (List M)) (sl : List M) : Prop where
  eq : sl = b ++ tl ls
  srt : Srt befM sl
  uq : Uq sl
  ne : ∀ r ∈ ls, r ≠ []
  len : sl.length ≤ 16384
theorem inv_nil : Inv [] [] [] := ⟨rfl, List.Pairwise.nil, List.Pairwise.nil, fun r hr => by simp at hr, by simp⟩
section
variable {b : List M} {ls : List (List M)} {sl : List M} {m : M}
theorem ins_uq (h : Uq sl) (hm : ∀ x ∈ sl, ¬ isOf m.f0.f1 m.f3 x) : Uq (ins befM sl m) := (Uq.perm (perm_ins sl m)).2 (List.pairwise_cons.2 ⟨hm, h⟩)
theorem ins_len (h : sl.length < 16384) : (ins befM sl m).length ≤ 16384 := by rw [length_ins]; omega
theorem ins_right (b t : List M) (m : M) (h : ∀ y ∈ t, befM m y = true) (hb : Srt befM b) : ins befM (b ++ t) m = ins befM b m ++ t := by
  obtain ⟨l1, l2, rfl, h1, h2⟩ := hb.part weakM m
  rw [ins_split l1 l2 m h1 h2, List.append_assoc, ins_split l1 (l2 ++ t) m h1 (fun y hy => (List.mem_append.1 hy).elim (h2 y) (h y))]
  simp
theorem ins_left (b t : List M) (m : M) (h : ∀ y ∈ b, befM m y = false) (ht : Srt befM t) : ins befM (b ++ t) m = b ++ ins befM t m := by
  obtain ⟨l1, l2, rfl, h1, h2⟩ := ht.part weakM m
  rw [ins_split l1 l2 m h1 h2, ← List.append_assoc, ins_split (b ++ l1) l2 m (fun y hy => (List.mem_append.1 hy).elim (h y) (h1 y)) h2]
  simp
theorem behind_of {x y m : M} (h1 : befM m x = true) (h2 : befM y x = false) : befM m y = true := by
  cases q : befM m y
  · have := weakM.tr _ _ _ q h2
    rw [this] at h1
    cases h1
  · rfl
theorem ahead_of {x y m : M} (h1 : befM m x = false) (h2 : befM x y = false) : befM m y = false := weakM.tr _ _ _ h1 h2
/-- All rungs are behind what the last one is behind. -/
theorem Inv.above {pre : List (List M)} {r : List M} {post : List (List M)} (h : Inv b (pre ++ r :: post) sl) (hr : ∀ y ∈ r, befM m y = true) : ∀ y ∈ isort befM r ++ tl pre, befM m y = true := by
  intro y hy
  rcases List.mem_append.1 hy with q | q
  · exact hr y (mem_isort.1 q)
  · obtain ⟨x, hx⟩ := List.exists_mem_of_ne_nil _ (h.ne r (by simp))
    have hs := h.srt
    rw [h.eq, tl_mid, srt_append] at hs
    have h2 := (srt_append.1 (srt_append.1 hs.2.1).2.1).2.2 x (mem_isort.2 hx) y q
    exact behind_of (hr x hx) h2
theorem Inv.all_above (h : Inv b ls sl) (hr : ∀ r, ls.getLast? = some r → ∀ y ∈ r, befM m y = true) : ∀ y ∈ tl ls, befM m y = true := by
  rcases List.eq_nil_or_concat ls with e | ⟨pre, r, e⟩
  · subst e; simp [tl_nil]
  · subst e
    simp only [List.concat_eq_append] at h hr ⊢
    rw [tl_snoc]
    exact h.above (post := []) (hr r (by simp))
theorem Inv.bot (h : Inv b ls sl) : Srt befM b := by
  have hs := h.srt
  rw [h.eq] at hs
  exact (srt_append.1 hs).1
theorem Inv.bottom (h : Inv b ls sl) (hr : ∀ r, ls.getLast? = some r → ∀ y ∈ r, befM m y = true) (hm : ∀ x ∈ sl, ¬ isOf m.f0.f1 m.f3 x) (hl : sl.length < 16384) : Inv (ins befM b m) ls (ins befM sl m) :=
  ⟨by rw [h.eq]; exact ins_right _ _ _ (h.all_above hr) h.bot, h.srt.ins weakM m, ins_uq h.uq hm, h.ne, ins_len hl⟩
theorem Inv.spill (h : Inv b ls sl) {k : Nat} (hk : k < b.length) : Inv (b.take k) (ls ++ [b.drop k]) sl :=
  ⟨by
    rw [tl_snoc, isort_of_srt weakM _ (h.bot.sublist (List.drop_sublist _ _)), ← List.append_assoc, List.take_append_drop]
    exact h.eq, h.srt, h.uq, fun r hr => by
    rcases List.mem_append.1 hr with q | q
    · exact h.ne r q
    · rw [List.mem_singleton.1 q]
      intro e
      have := congrArg List.length e
      rw [List.length_drop] at this
      simp at this
      omega, h.len⟩
theorem Inv.fresh (h : Inv b ls sl) (hr : ∀ r, ls.getLast? = some r → ∀ y ∈ r, befM m y = true) {z : M} (hz : b.getLast? = some z) (hzm : befM m z = false) (hm : ∀ x ∈ sl, ¬ isOf m.f0.f1 m.f3 x) (hl : sl.length < 16384) : Inv b (ls ++ [[m]]) (ins befM sl m) :=
  ⟨by
    rw [tl_snoc, h.eq, ins_split b (tl ls) m (fun y hy => ?_) (h.all_above hr)]
    · rfl
    · have hb := h.bot
      rcases List.eq_nil_or_concat b with e | ⟨b', z', e⟩
      · subst e; simp at hy
      · subst e
        simp only [List.concat_eq_append] at hb hy hz
        rw [List.getLast?_concat] at hz
        cases hz
        exact ahead_of hzm (srt_last weakM hb y hy), h.srt.ins weakM m, ins_uq h.uq hm, fun r hr => by
    rcases List.mem_append.1 hr with q | q
    · exact h.ne r q
    · rw [List.mem_singleton.1 q]; simp, ins_len hl⟩
theorem Inv.add {pre : List (List M)} {r : List M} {post : List (List M)} (h : Inv b (pre ++ r :: post) sl) (hr : r.all (befM m ·) = false) (hp : ∀ r', pre.getLast? = some r' → ∀ y ∈ r', befM m y = true) (hm : ∀ x ∈ sl, ¬ isOf m.f0.f1 m.f3 x) (hl : sl.length < 16384) : Inv b (pre ++ (r ++ [m]) :: post) (ins befM sl m) := by
  obtain ⟨x, hx, hmx⟩ : ∃ x ∈ r, befM m x = false := by
    obtain ⟨x, hx, q⟩ := List.all_eq_false.1 hr
    exact ⟨x, hx, by simpa using q⟩
  have hs := h.srt
  rw [h.eq, tl_mid] at hs
  obtain ⟨s1, s2, s3⟩ := srt_append.1 hs
  obtain ⟨s4, s5, s6⟩ := srt_append.1 s2
  obtain ⟨s7, s8, s9⟩ := srt_append.1 s5
  have hxr : x ∈ isort befM r ++ tl pre := List.mem_append_left _ (mem_isort.2 hx)
  have hpre : ∀ y ∈ tl pre, befM m y = true := by
    rcases List.eq_nil_or_concat pre with e | ⟨pre', r', e⟩
    · subst e; simp [tl_nil]
    · subst e
      simp only [List.concat_eq_append] at h hp ⊢
      rw [tl_snoc]
      have h' : Inv b (pre' ++ r' :: (r :: post)) sl := by simpa using h
      exact h'.above (hp r' (by simp))
  refine ⟨?_, h.srt.ins weakM m, ins_uq h.uq hm, fun r' hr' => ?_, ins_len hl⟩
  · rw [h.eq, tl_mid, tl_mid, isort_snoc]
    rw [ins_left _ _ _ (fun y hy => ahead_of hmx (s3 y hy x (List.mem_append_right _ hxr))) s2]
    rw [ins_left _ _ _ (fun y hy => ahead_of hmx (s6 y hy x hxr)) s5]
    rw [ins_right _ _ _ hpre s7]
  · rcases List.mem_append.1 hr' with q | q
    · exact h.ne r' (List.mem_append_left _ q)
    · rcases List.mem_cons.1 q with e | e
      · rw [e]; simp
      · exact h.ne r' (List.mem_append_right _ (List.mem_cons_of_mem _ e))
theorem Inv.fill {r : List M} (h : Inv [] (ls ++ [r]) sl) : Inv (isort befM r) ls sl :=
  ⟨by rw [h.eq, tl_snoc]; rfl, h.srt, h.uq, fun r' hr' => h.ne r' (List.mem_append_left _ hr'), h.len⟩
theorem filt_l {x y : Int} {z : M} (hz : isOf x y z) {l : List M} (h : ∀ a ∈ l, ¬ isOf a.f0.f1 a.f3 z) : l.filter (oth x y) = l :=
  filter_oth_none (fun m hm q => h m hm ⟨hz.1.trans q.1.symm, hz.2.trans q.2.symm⟩)
theorem filt_r {x y : Int} {z : M} (hz : isOf x y z) {l : List M} (h : ∀ a ∈ l, ¬ isOf z.f0.f1 z.f3 a) : l.filter (oth x y) = l :=
  filter_oth_none (fun m hm q => h m hm ⟨q.1.trans hz.1.symm, q.2.trans hz.2.symm⟩)
theorem uq_append {a b : List M} : Uq (a ++ b) ↔ Uq a ∧ Uq b ∧ ∀ x ∈ a, ∀ y ∈ b, ¬ isOf x.f0.f1 x.f3 y := List.pairwise_append
theorem filter_srt (h : Inv b ls sl) (x y : Int) : Srt befM (sl.filter (oth x y)) ∧ Uq (sl.filter (oth x y)) ∧ (sl.filter (oth x y)).length ≤ 16384 :=
  ⟨List.Pairwise.filter _ h.srt, List.Pairwise.filter _ h.uq, Nat.le_trans (List.length_filter_le _ _) h.len⟩
theorem Inv.cutb (h : Inv b ls sl) {x y : Int} {k : Nat} (hk : k < b.length) (hi : isOf x y b[k]) : Inv (b.eraseIdx k) ls (sl.filter (oth x y)) := by
  obtain ⟨q1, q2, q3⟩ := filter_srt h x y
  have hu := h.uq
  rw [h.eq, uq_append] at hu
  refine ⟨?_, q1, q2, h.ne, q3⟩
  rw [h.eq, List.filter_append, ← erase_filter hu.1 hk hi, filt_r hi (fun a ha => hu.2.2 _ (List.getElem_mem hk) a ha)]
theorem Inv.cutr {pre : List (List M)} {r : List M} {post : List (List M)} (h : Inv b (pre ++ r :: post) sl) {x y : Int} {k : Nat} (hk : k < r.length) (hi : isOf x y r[k]) :
    sl.filter (oth x y) = b ++ (tl post ++ (isort befM (r.eraseIdx k) ++ tl pre)) ∧ Uq r := by
  have hu := h.uq
  rw [h.eq, tl_mid, uq_append] at hu
  obtain ⟨u1, u2, u3⟩ := hu
  obtain ⟨u4, u5, u6⟩ := uq_append.1 u2
  obtain ⟨u7, u8, u9⟩ := uq_append.1 u5
  have hur : Uq r := (Uq.perm (perm_isort r)).1 u7
  have hz : r[k] ∈ isort befM r := mem_isort.2 (List.getElem_mem hk)
  have hz2 : r[k] ∈ isort befM r ++ tl pre := List.mem_append_left _ hz
  refine ⟨?_, hur⟩
  rw [h.eq, tl_mid, List.filter_append, List.filter_append, List.filter_append, isort_filter, ← erase_filter hur hk hi]
  rw [filt_l hi (fun a ha => u3 a ha _ (List.mem_append_right _ hz2)), filt_l hi (fun a ha => u6 a ha _ hz2), filt_r hi (fun a ha => u9 _ hz a ha)]
theorem Inv.cut1 {pre : List (List M)} {r : List M} {post : List (List M)} (h : Inv b (pre ++ r :: post) sl) {x y : Int} {k : Nat} (hk : k < r.length) (hi : isOf x y r[k]) (h1 : r.length = 1) : Inv b (pre ++ post) (sl.filter (oth x y)) := by
  obtain ⟨q1, q2, q3⟩ := filter_srt h x y
  refine ⟨?_, q1, q2, fun r' hr' => h.ne r' ?_, q3⟩
  · rw [(h.cutr hk hi).1, tl_append]
    have : r.eraseIdx k = [] := List.eq_nil_of_length_eq_zero (by rw [List.length_eraseIdx, if_pos hk]; omega)
    rw [this]
    rfl
  · rcases List.mem_append.1 hr' with q | q
    · exact List.mem_append_left _ q
    · exact List.mem_append_right _ (List.mem_cons_of_mem _ q)
theorem Inv.cut2 {pre : List (List M)} {r : List M} {post : List (List M)} (h : Inv b (pre ++ r :: post) sl) {x y : Int} {k : Nat} (hk : k < r.length) (hi : isOf x y r[k]) (h1 : r.length ≠ 1) : Inv b (pre ++ r.eraseIdx k :: post) (sl.filter (oth x y)) := by
  obtain ⟨q1, q2, q3⟩ := filter_srt h x y
  refine ⟨?_, q1, q2, fun r' hr' => ?_, q3⟩
  · rw [(h.cutr hk hi).1, tl_mid]
  · rcases List.mem_append.1 hr' with q | q
    · exact h.ne r' (List.mem_append_left _ q)
    · rcases List.mem_cons.1 q with e | e
      · rw [e]
        intro e2
        have := congrArg List.length e2
        rw [List.length_eraseIdx, if_pos hk] at this
        simp at this
        omega
      · exact h.ne r' (List.mem_append_right _ (List.mem_cons_of_mem _ e))
theorem Inv.all (h : Inv b ls sl) : isort befM (b ++ ls.flatten) = sl := by
  have hp : (isort befM (b ++ ls.flatten)).Perm sl := by
    rw [h.eq]
    exact (perm_isort _).trans (List.Perm.append_left _ (perm_tl ls).symm)
  exact srt_uq_eq (srt_isort weakM _) h.srt hp ((Uq.perm hp).2 h.uq)
theorem Inv.length (h : Inv b ls sl) : sl.length = b.length + (ls.map List.length).sum := by rw [h.eq, List.length_append, length_tl]
theorem Inv.mem (h : Inv b ls sl) {x : M} : x ∈ sl ↔ x ∈ b ∨ ∃ r ∈ ls, x ∈ r := by rw [h.eq, List.mem_append, mem_tl]
theorem Inv.count (h : Inv b ls sl) : b.length + ls.length ≤ sl.length := by
  have h1 : ls.length ≤ (ls.map List.length).sum := by
    have h2 := h.ne
    clear h
    induction ls with
    | nil => simp
    | cons r ls ih =>
      have q := ih (fun r' hr' => h2 r' (List.mem_cons_of_mem _ hr'))
      have q2 : 0 < r.length := List.length_pos_iff.2 (h2 r List.mem_cons_self)
      simp only [List.length_cons, List.map_cons, List.sum_cons]
      omega
  have := h.length
  omega
theorem Inv.rung (h : Inv b ls sl) {r : List M} (hr : r ∈ ls) : b.length + r.length ≤ sl.length := by
  have h1 : r.length ≤ (ls.map List.length).sum := by
    clear h
    induction ls with
    | nil => simp at hr
    | cons r' ls ih =>
      simp only [List.map_cons, List.sum_cons]
      rcases List.mem_cons.1 hr with e | e
      · subst e; omega
      · have := ih e; omega
  have := h.length
  omega
end
end Go.Proofs.Ytkhdghlgkljdgaa.LQ
