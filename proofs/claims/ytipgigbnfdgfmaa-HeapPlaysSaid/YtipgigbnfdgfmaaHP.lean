/- The heap as a whole: New, push. No law is proved here. -/
import Derived.Test.YtipgigbnfdgfmaaHU
import Derived.Test.YtipgigbnfdgfmaaHF
import Derived.StillTailTactics
import Derived.Deep.RegionHeld3
import Derived.Deep.QuietTactic
import Derived.Deep.RegionLaw
import Derived.Deep.RegionWith
import Derived.BigQuiet
namespace Go.Proofs.Ytipgigbnfdgfmaa.HQ
open Go.Proofs Go.Shelf Go.RowKit Go.Deep Go.Sort Go.Proofs.Ytipgigbnfdgfmaa.Types Go.Proofs.Ytipgigbnfdgfmaa.Heap Go.Proofs.Ytipgigbnfdgfmaa.Row Go.Proofs.Ytipgigbnfdgfmaa.Ord Go.Proofs.Ytipgigbnfdgfmaa.Sorted Go.Proofs.Ytipgigbnfdgfmaa.HU Go.Proofs.YtipgigbnfdgfmaaW.PrintWords Go.Proofs.YtipgigbnfdgfmaaW.PrintLast Go.Proofs.YtipgigbnfdgfmaaW.PrintMore
set_option linter.unusedVariables false
set_option linter.unusedSimpArgs false
abbrev cM (x : M) : List Value := c25 x
abbrev ev : Value := .func (.func 20) #[] #[]
/-- A heap at g whose row holds l. -/
structure QAt (w : World) (base g : Nat) (v : Value) (l : List M) : Prop where
  blk : Blk w g tH #[v, .func (.func 20) #[] #[]]
  own : OwnM w base v l
section
variable {w w' : World} {base g : Nat} {v : Value} {l : List M}
theorem QAt.ne (h : QAt w base g v l) : v.ownBlock ≠ some g := own_blk_ne h.own h.blk (by decide)
theorem QAt.below (h : QAt w base g v l) (hb : Below w.heap.size w w') : QAt w' base g v l := ⟨h.blk.below' hb, h.own.below hb⟩
theorem QAt.alloc (h : QAt w base g v l) (o : Obj) : QAt (w.alloc o) base g v l := h.below ((Below.refl _ _).alloc (Nat.le_refl _) _)
theorem QAt.drew (h : QAt w base g v l) : QAt w.drew base g v l := ⟨h.blk.drew, h.own.drew⟩
theorem QAt.drewN (h : QAt w base g v l) (n : Nat) : QAt (w.drewN n) base g v l := ⟨h.blk.drewN n, h.own.drewN n⟩
theorem QAt.c0 (h : QAt w base g v l) : w.cell? ⟨g, 0, none⟩ = some v := h.blk.cell 0
theorem QAt.c1 (h : QAt w base g v l) : w.cell? ⟨g, 1, none⟩ = some (.func (.func 20) #[] #[]) := h.blk.cell 1
end
theorem size_downA {α : Type} [Inhabited α] (lt : α → α → Bool) (n : Nat) : ∀ (i : Nat) (d : Array α), d.size - i = n → (downA lt d i).size = d.size := by
  induction n using Nat.strongRecOn with
  | ind n ih =>
    intro i d hn
    rw [downA]
    split
    · rename_i h
      obtain ⟨c, hc⟩ : ∃ c, (if 2 * i + 2 < d.size ∧ lt d[2 * i + 2]! d[2 * i + 1]! = true then 2 * i + 2 else 2 * i + 1) = c := ⟨_, rfl⟩
      have hc2 : i < c ∧ c < d.size := by rw [← hc]; split <;> omega
      rw [hc]
      split
      · rw [ih (d.size - c) (by omega) c (swp d i c) (by rw [size_swp]), size_swp]
      · rfl
    · rfl
theorem eb : ∀ args w, (callFunc 20 args).run Try.prog w = .ok (.enter 20 args) w := enters_of Try.func20 rfl rfl
theorem befores : Befores Try.prog c25 befM := fun x y w => (before_call x y w).mono fun _ _ h => h
theorem up_own (w : World) (base g : Nat) (A : Option Addr) (c : Nat) (l : List M) (i : Nat) (h : QAt w base g (.slice A l.length c) l) (hi : i < l.length) (hsz : l.length ≤ 4398046511104) :
    Calls Try.prog 32 #[.pointer (some ⟨g, 0, none⟩), .int .i64 i] w fun e w' => e = .returned (.tuple #[]) ∧ QAt w' base g (.slice A l.length c) (upA befM l.toArray i).toList ∧ Only w w' (fun b => (Value.slice A l.length c).ownBlock = some b) := by
  obtain ⟨A', c', hv, _, hA⟩ := h.own.slice
  cases hv
  obtain ⟨b, rfl⟩ := hA (by omega)
  have hs : l.toArray.size = l.length := by simp
  have R : RowK c25 7 w b 0 l.toArray := ⟨flatM.len, flatM.one, h.own.holds flatM, (h.own.blk b rfl).2⟩
  have hne : g ≠ b := fun e => h.ne (by rw [e]; rfl)
  have HC := up_call piles befM befores eb g b 0 c l.toArray l.toArray w w R rfl (SWK.start R.hH) (by rw [hs]; exact h.blk) hne i (by rw [hs]; exact hi) (by rw [hs]; exact hsz)
  refine HC.mono ?_
  rintro e w' ⟨rfl, S⟩
  have hl : (upA befM l.toArray i).toList.length = l.length := by rw [Array.length_toList, size_upA, hs]
  obtain ⟨q1, q2⟩ := h.own.sorted flatM S hl
  rw [hl] at q1
  exact ⟨rfl, ⟨swk_blk S h.blk hne, q1⟩, q2.mono (fun i hi => by rw [hi]; rfl)⟩
theorem down_own (w : World) (base g : Nat) (A : Option Addr) (c : Nat) (l : List M) (i : Nat) (h : QAt w base g (.slice A l.length c) l) (hi : i < l.length) (hsz : l.length ≤ 4398046511104) :
    Calls Try.prog 33 #[.pointer (some ⟨g, 0, none⟩), .int .i64 i] w fun e w' => e = .returned (.tuple #[]) ∧ QAt w' base g (.slice A l.length c) (downA befM l.toArray i).toList ∧ Only w w' (fun b => (Value.slice A l.length c).ownBlock = some b) := by
  obtain ⟨A', c', hv, _, hA⟩ := h.own.slice
  cases hv
  obtain ⟨b, rfl⟩ := hA (by omega)
  have hs : l.toArray.size = l.length := by simp
  have R : RowK c25 7 w b 0 l.toArray := ⟨flatM.len, flatM.one, h.own.holds flatM, (h.own.blk b rfl).2⟩
  have hne : g ≠ b := fun e => h.ne (by rw [e]; rfl)
  have HC := down_call piles befM befores eb g b 0 c l.toArray l.toArray w w R rfl (SWK.start R.hH) (by rw [hs]; exact h.blk) hne i (by rw [hs]; exact hi) (by rw [hs]; exact hsz)
  refine HC.mono ?_
  rintro e w' ⟨rfl, S⟩
  have hl : (downA befM l.toArray i).toList.length = l.length := by rw [Array.length_toList, size_downA befM _ _ _ rfl, hs]
  obtain ⟨q1, q2⟩ := h.own.sorted flatM S hl
  rw [hl] at q1
  exact ⟨rfl, ⟨swk_blk S h.blk hne, q1⟩, q2.mono (fun i hi => by rw [hi]; rfl)⟩
theorem new_call (w : World) (base : Nat) : Calls Try.prog 8 #[] w fun e w' => e = .returned (.pointer (some ⟨w.heap.size, 0, none⟩)) ∧ QAt w' base w.heap.size (.slice none 0 0) [] ∧ Below w.heap.size w w' := by
  go_enter Try.func8, Try.ntmps8
  go_wp2_with fail
  go_ret
  exact ⟨rfl, ⟨Blk.new _ _ _, Own.nil _ _ _ _ _⟩, (Below.refl _ _).alloc (Nat.le_refl _) _⟩
theorem none_call (g : Nat) (v : Value) (w : World) (h : Blk w g tH #[v, .func (.func 20) #[] #[]]) : Calls Try.prog 21 #[.pointer (some ⟨g, 0, none⟩)] w fun e w' => e = .returned (.bool false) ∧ w' = w := by
  have c1 : w.cell? ⟨g, 1, none⟩ = some (.func (.func 20) #[] #[]) := h.cell 1
  have qF : ∀ w, (binOp .eql 41 (.func (.func 20) #[] #[]) .nilFunc).run Try.prog w = .ok (.bool false) w := fun w => by
    have q1 : ∀ d, (Op.equalIn (d + 1) 41 (.func (.func 20) #[] #[]) .nilFunc).run Try.prog w = .ok false w := fun d => by
      simp [Op.equalIn, run_underlying Try.underlying41]
    simp only [binOp]
    simp [Op.equal, Op.maxDepth, q1 9999]
  go_enter Try.func21, Try.ntmps21
  go_wp2
  go_ret
  exact ⟨rfl, rfl⟩
theorem len_call (g : Nat) (w : World) (base : Nat) (A : Option Addr) (c : Nat) (l : List M) (h : QAt w base g (.slice A l.length c) l) : Calls Try.prog 10 #[.pointer (some ⟨g, 0, none⟩)] w fun e w' => e = .returned (.int .i64 (l.length : Nat)) ∧ w' = w := by
  have H := hide (none_call g _ w h.blk)
  have c0 := h.c0
  go_enter Try.func10, Try.ntmps10
  go_wp2_with (go_at_call 21; refine H.out.mono ?_; rintro e w1 ⟨rfl, rfl⟩; clear H)
  go_ret
  exact ⟨rfl, rfl⟩
/-- What a call that changes the heap at g leaves. -/
def Left (w : World) (base g : Nat) (v : Value) (l' : List M) (ans : Value) : Ending → World → Prop := fun e w' =>
  e = .returned ans ∧ ∃ (A' : Option Addr) (c' : Nat), QAt w' base g (.slice A' l'.length c') l' ∧ Only w w' (fun b => b = g ∨ v.ownBlock = some b) ∧ (∀ b, (Value.slice A' l'.length c').ownBlock = some b → v.ownBlock = some b ∨ w.heap.size ≤ b)
set_option maxHeartbeats 8000000 in
set_option maxRecDepth 100000 in
theorem push_call (w : World) (base g : Nat) (A : Option Addr) (c : Nat) (l : List M) (x : M) (h : QAt w base g (.slice A l.length c) l) (hl : l.length < 16384) (hbase : base ≤ w.heap.size) :
    Calls Try.prog 23 #[.pointer (some ⟨g, 0, none⟩), .agg (cM x).toArray] w (Left w base g (.slice A l.length c) (upA befM (l ++ [x]).toArray l.length).toList (.tuple #[])) := by
  have hu := Try.underlying25
  have HL := hide hl
  have HB := hide hbase
  have HA := hide (h.alloc (.cells (cM x).toArray 25))
  have HX := hide (Blk.new w 25 (cM x).toArray)
  have H0 := hide h
  obtain ⟨Q, hQ⟩ : ∃ Q, Left w base g (.slice A l.length c) (upA befM (l ++ [x]).toArray l.length).toList (.tuple #[]) = Q := ⟨_, rfl⟩
  rw [hQ]
  have HQ := hide hQ
  clear h hl hbase hQ
  unfold cM c25 at HA HX ⊢
  go_enter Try.func23, Try.ntmps23
  go_wp2_with fail
  have HO : Hid (Only w (w.alloc (.cells #[.int .i64 x.f0.f0, .int .i64 x.f0.f1, .int .i64 x.f0.f2, .int .i64 x.f1, .int .i64 x.f2, .int .i64 x.f3, .bool x.f4] 25)) (fun b => b = g ∨ (Value.slice A l.length c).ownBlock = some b)) := hide ((Only.refl _ _).alloc _)
  obtain ⟨W, hW⟩ : ∃ W, w.alloc (.cells #[.int .i64 x.f0.f0, .int .i64 x.f0.f1, .int .i64 x.f0.f2, .int .i64 x.f1, .int .i64 x.f2, .int .i64 x.f3, .bool x.f4] 25) = W := ⟨_, rfl⟩
  have HSZ : Hid (W.heap.size = w.heap.size + 1) := hide (by rw [← hW]; exact World.size_alloc _ _)
  rw [hW] at HA HX HO ⊢
  obtain ⟨gx, hgx⟩ : ∃ gx, w.heap.size = gx := ⟨_, rfl⟩
  have HGX := hide hgx
  rw [hgx] at HX HB HSZ ⊢
  clear hW hgx
  have x0 : W.cell? ⟨gx, 0, none⟩ = some (.int .i64 x.f0.f0) := HX.out.cell 0
  have x1 : W.cell? ⟨gx, 1, none⟩ = some (.int .i64 x.f0.f1) := HX.out.cell 1
  have x2 : W.cell? ⟨gx, 2, none⟩ = some (.int .i64 x.f0.f2) := HX.out.cell 2
  have x3 : W.cell? ⟨gx, 3, none⟩ = some (.int .i64 x.f1) := HX.out.cell 3
  have x4 : W.cell? ⟨gx, 4, none⟩ = some (.int .i64 x.f2) := HX.out.cell 4
  have x5 : W.cell? ⟨gx, 5, none⟩ = some (.int .i64 x.f3) := HX.out.cell 5
  have x6 : W.cell? ⟨gx, 6, none⟩ = some (.bool x.f4) := HX.out.cell 6
  have c0 := HA.out.c0
  have c0d : W.drew.cell? ⟨g, 0, none⟩ = some (.slice A l.length c) := HA.out.c0
  have f0 : W.frozen? ⟨g, 0, none⟩ = false := HA.out.blk.frozen 0
  have c0a : ((W.alloc (.cells #[.int .i64 x.f0.f0, .int .i64 x.f0.f1, .int .i64 x.f0.f2, .int .i64 x.f1, .int .i64 x.f2, .int .i64 x.f3, .bool x.f4] 25)).drew).cell? ⟨g, 0, none⟩ = some (.slice A l.length c) := ((HA.out.alloc _).drew).c0
  rename_i K1 h1
  have HK := hide h1
  clear h1
  have hgl : g < W.heap.size := HA.out.blk.lt
  go_region_law ((first
    | (refine step_append flatM rfl k25_open rfl (.tmp 8) (.tmp 10) 26 rfl zM 56 Try.underlying26 infoM rfl _ (by rfl) ((HA.out.own.alloc _).drew) _ _ _ [x] (by rfl) (by exact C_one (Blk.new W 25 _).drew flatM rfl k25_mk) (by omega) (by have := HL.out; simp only [List.length_singleton]; omega) (by have := HB.out; have := HSZ.out; simp; omega) ?_
       intro A' m' c' w5 hm' ho hg hblk
       have HP5 := hide (Blk.grown ((HA.out.alloc _).drew).blk hg (fun e => HA.out.ne e.symm))
       have HOn5 := hide ((HO.out.alloc _).drew.trans (only_of_grown (S := fun b => b = g ∨ (Value.slice A l.length c).ownBlock = some b) hg (fun i e => .inl (.inr e))))
       have HBk5 := hide (hblk)
       have HOw5 := hide ho
       have HM5 := hide hm'
       clear hblk ho hg hm'
       have k5 : w5.cell? ⟨g, 0, none⟩ = some (.slice A l.length c) := HP5.out.cell 0
       have k5f : w5.frozen? ⟨g, 0, none⟩ = false := HP5.out.frozen 0)))
  all_goals (
    refine HK.out _ _ ?_
    clear HK K1
    have hl' : m' = (l ++ [x]).length := by rw [HM5.out]; simp
    subst hl'
    have HL' : Hid ((l ++ [x]).length = l.length + 1) := hide (by simp)
    have HN : Hid (∀ b, (Value.slice A' (l ++ [x]).length c').ownBlock = some b → (Value.slice A l.length c).ownBlock = some b ∨ gx ≤ b) := hide (fun b hb => by
      rcases HBk5.out with q | q
      · exact .inl (q.symm.trans hb)
      · have q2 := q.symm.trans hb
        injection q2 with q3
        have q4 := World.size_alloc W (.cells #[.int .i64 x.f0.f0, .int .i64 x.f0.f1, .int .i64 x.f0.f2, .int .i64 x.f1, .int .i64 x.f2, .int .i64 x.f3, .bool x.f4] 25)
        have q5 := HSZ.out
        refine .inr ?_
        rw [← q3]
        show gx ≤ (W.alloc _).heap.size
        rw [q4, q5]
        omega)
    have HQ6 : Hid (QAt (w5.setCell ⟨g, 0, none⟩ (.slice A' (l ++ [x]).length c')) base g (.slice A' (l ++ [x]).length c') (l ++ [x])) := hide (by
      refine ⟨Blk.set_ HP5.out 0 _, HOw5.out.only (S := fun b => b = g) ((Only.refl w5 (fun b => b = g)).setCell (p := ⟨g, 0, none⟩) (.inl rfl) _) (fun b hb e => ?_)⟩
      rcases HN.out b hb with q | q
      · exact HA.out.ne (by rw [← e]; exact q)
      · have h1 := H0.out.blk.lt
        have h2 := HGX.out
        omega)
    have HO6 : Hid (Only w (w5.setCell ⟨g, 0, none⟩ (.slice A' (l ++ [x]).length c')) (fun b => b = g ∨ (Value.slice A l.length c).ownBlock = some b)) := hide (HOn5.out.setCell (p := ⟨g, 0, none⟩) (.inl (.inl rfl)) _)
    generalize w5.setCell ⟨g, 0, none⟩ (.slice A' (l ++ [x]).length c') = w6 at HQ6 HO6 ⊢
    clear x0 x1 x2 x3 x4 x5 x6 c0 c0d f0 c0a k5 k5f HP5 HOn5 HOw5 HX HA HO HBk5 HM5
    have c0 := HQ6.out.c0
    obtain ⟨nn, hnn⟩ : ∃ nn, (l ++ [x]).length = nn := ⟨_, rfl⟩
    have HU := hide (up_own w6 base g A' c' (l ++ [x]) l.length HQ6.out (by rw [HL'.out]; omega) (by have := HL.out; rw [HL'.out]; omega))
    have hn1 : ((l ++ [x]).length : Int) - 1 = (l.length : Int) := by rw [HL'.out]; omega
    have hn2 : ((l ++ [x]).length : Int) ≤ 16384 := by have := HL.out; rw [HL'.out]; omega
    rw [hnn] at c0 hn1 hn2 ⊢
    go_wp2_with fail
    refine HU.out.mono ?_
    rintro e w7 ⟨rfl, hq, ho⟩
    have HQ7 := hide hq
    have HO7 := hide ho
    clear hq ho HU c0 hn1 hn2
    go_wp2_with fail
    go_end0
    rw [← HQ.out]
    have hl2 : (upA befM (l ++ [x]).toArray l.length).toList.length = (l ++ [x]).length := by rw [Array.length_toList, size_upA]; simp
    refine ⟨rfl, A', c', by rw [hl2]; exact HQ7.out, ?_, fun b hb => ?_⟩
    · exact HO6.out.step HO7.out (fun b hb hlt => by
        rcases HN.out b hb with q | q
        · exact .inr q
        · have := HGX.out
          omega)
    · rw [hl2] at hb
      have := HGX.out
      rcases HN.out b hb with q | q
      · exact .inl q
      · exact .inr (by omega))
end Go.Proofs.Ytipgigbnfdgfmaa.HQ
