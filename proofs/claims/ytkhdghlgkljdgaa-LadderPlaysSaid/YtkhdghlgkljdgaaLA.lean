/- The ladder's state; none, New. No law is proved here. -/
import Derived.Test.YtkhdghlgkljdgaaLPure
import Derived.Test.YtkhdghlgkljdgaaRowCopy
import Derived.Test.YtkhdghlgkljdgaaGrK
import Derived.Test.YtkhdghlgkljdgaaLex
import Derived.StillTailTactics
import Derived.Deep.RegionHeld3
import Derived.Deep.QuietTactic
import Derived.Deep.RegionLaw
import Derived.Deep.RegionWith
import Derived.BigQuiet
import Derived.WalkSpells
namespace Go.Proofs.Ytkhdghlgkljdgaa.LQ
open Go.Proofs Go.Proofs.Ytkhdghlgkljdgaa.CQ Go.Shelf Go.RowKit Go.Deep Go.Sort Go.Proofs.Ytkhdghlgkljdgaa.SortPure Go.Proofs.Ytkhdghlgkljdgaa.Types Go.Proofs.Ytkhdghlgkljdgaa.Heap Go.Proofs.Ytkhdghlgkljdgaa.Row Go.Proofs.Ytkhdghlgkljdgaa.Ord Go.Proofs.Ytkhdghlgkljdgaa.Sorted Go.Proofs.YtkhdghlgkljdgaaW.PrintWords Go.Proofs.YtkhdghlgkljdgaaW.PrintLast Go.Proofs.YtkhdghlgkljdgaaW.PrintMore
set_option linter.unusedVariables false
set_option linter.unusedSimpArgs false
abbrev cM (x : M) : List Value := c25 x
abbrev kM := k25
abbrev tQ : TypeId := 47
abbrev tG : TypeId := 62
abbrev tM : TypeId := 25
/-- A row of messages is read as before where its block has not turned. -/
theorem C_only {w w' : World} {A : Option Addr} {n : Nat} {l : List M} {S : Nat → Prop} (h : Kd.C kM w A n l) (hO : Only w w' S) (hA : ∀ ad, A = some ad → 0 < n → ¬ S ad.block) : Kd.C kM w' A n l :=
  ⟨h.1, h.2.1, fun hn => by
    obtain ⟨ad, e, hc⟩ := h.2.2 hn
    refine ⟨ad, e, fun j p hj => ?_⟩
    obtain ⟨c, hs, hr, hcell⟩ := hc j p hj
    have hr' : c = c25 p := k25_open hr
    refine ⟨c, hs, by rw [hr']; exact k25_mk _ _, fun i u hu => ?_⟩
    have h1 := hcell i u hu
    have hb : (ad.add (j * kM.sz + i)).block = ad.block := by unfold Addr.add; split <;> rfl
    rw [hO.cell (block_lt_of_cell h1) (by rw [hb]; exact hA ad e hn)]
    exact h1⟩
/-- A rung: its block, its capacity, its messages. -/
structure Rg where
  x : Nat
  c : Nat
  l : List M
instance : Inhabited Rg := ⟨⟨0, 0, []⟩⟩
def Rg.v (r : Rg) : Value := .slice (some ⟨r.x, 0, none⟩) r.l.length r.c
def encR (r : Rg) : List Value := [.slice (some ⟨r.x, 0, none⟩) r.l.length r.c]
def kR : Kd Rg where
  sz := 1
  E := []
  K := fun _ r cs => cs = encR r
  M := fun _ _ _ _ _ => False
  K_len := fun h => by rw [h]; rfl
  K_one := fun h u hu => by rw [h] at hu; unfold encR at hu; simp only [List.mem_singleton] at hu; subst hu; rfl
  K_below := fun _ h => h
  K_of_M := fun h => h.elim
  M_mono := fun _ h => h
  M_bound := fun h => h.elim
  M_move := fun _ h => h
  M_lower := fun _ h => h
theorem kR_mk (w : World) (r : Rg) : kR.K w r (encR r) := rfl
theorem kR_open {w : World} {r : Rg} {cs : List Value} (h : kR.K w r cs) : cs = encR r := h
theorem flatR : Flat encR 1 := ⟨fun _ => rfl, fun r u hu => by unfold encR at hu; simp only [List.mem_singleton] at hu; subst hu; rfl, by omega⟩
theorem infoR : (Try.prog.info? tG).map (fun i => (i.zero, i.size, i.bytes)) = some (some (.slice none 0 0), 1, 24) := by kernel_rfl
abbrev OwnR (w : World) (v : Value) (rs : List Rg) : Prop := Own encR 1 tG w 0 v rs
theorem ub (A : Option Addr) (n c x : Nat) : (Value.slice A n c).ownBlock = some x ↔ ∃ ad, A = some ad ∧ ad.block = x := by
  cases A with
  | none => simp [Value.ownBlock]
  | some ad => simp [Value.ownBlock]
/-- A ladder at g: a bottom b, rungs rs. -/
structure LAt (w : World) (S : Nat → Prop) (g : Nat) (A : Option Addr) (c : Nat) (b : List M) (most : Int) (R : Option Addr) (rc : Nat) (rs : List Rg) : Prop where
  blk : Blk w g tQ #[.slice A b.length c, .int .i64 most, .slice R rs.length rc]
  bot : OwnM w 0 (.slice A b.length c) b
  row : OwnR w (.slice R rs.length rc) rs
  rung : ∀ r ∈ rs, OwnM w 0 (.slice (some ⟨r.x, 0, none⟩) r.l.length r.c) r.l
  nd : (rs.map Rg.x).Nodup
  nb : ∀ r ∈ rs, (Value.slice A b.length c).ownBlock ≠ some r.x
  sg : S g
  sb : ∀ x, (Value.slice A b.length c).ownBlock = some x → S x
  sr : ∀ x, (Value.slice R rs.length rc).ownBlock = some x → S x
  ss : ∀ r ∈ rs, S r.x
section
variable {w w' : World} {S T : Nat → Prop} {g : Nat} {A : Option Addr} {c : Nat} {b : List M} {most : Int} {R : Option Addr} {rc : Nat} {rs : List Rg}
theorem LAt.c0 (h : LAt w S g A c b most R rc rs) : w.cell? ⟨g, 0, none⟩ = some (.slice A b.length c) := h.blk.cell 0
theorem LAt.c1 (h : LAt w S g A c b most R rc rs) : w.cell? ⟨g, 1, none⟩ = some (.int .i64 most) := h.blk.cell 1
theorem LAt.c2 (h : LAt w S g A c b most R rc rs) : w.cell? ⟨g, 2, none⟩ = some (.slice R rs.length rc) := h.blk.cell 2
/-- The blocks of a ladder are unlike one another. -/
theorem LAt.bg (h : LAt w S g A c b most R rc rs) : (Value.slice A b.length c).ownBlock ≠ some g := own_blk_ne h.bot h.blk (by decide)
theorem LAt.rg (h : LAt w S g A c b most R rc rs) : (Value.slice R rs.length rc).ownBlock ≠ some g := own_blk_ne h.row h.blk (by decide)
theorem LAt.xg (h : LAt w S g A c b most R rc rs) {r : Rg} (hr : r ∈ rs) : r.x ≠ g := fun e => own_blk_ne (h.rung r hr) h.blk (by decide) (by rw [← e]; rfl)
theorem own_apart {w : World} {b1 b2 : Nat} {e e' : TypeId} {k k' n n' : Nat} {v v' : Value} {xs xs' : List Value} (h : w.ownsRow b1 e k v n xs) (h' : w.ownsRow b2 e' k' v' n' xs') (hne : e ≠ e') {x : Nat} (hv : v.ownBlock = some x) : v'.ownBlock ≠ some x := by
  intro hv'
  rcases h.2 with ⟨rfl, _⟩ | ⟨g1, c1, cur1, rfl, _, hh1, _⟩
  · simp [Value.ownBlock] at hv
  · rcases h'.2 with ⟨rfl, _⟩ | ⟨g2, c2, cur2, rfl, _, hh2, _⟩
    · simp [Value.ownBlock] at hv'
    · simp only [Value.ownBlock, Option.some.injEq] at hv hv'
      subst hv
      subst hv'
      rw [hh1] at hh2
      injection hh2 with hh2
      injection hh2 with _ q
      exact hne q
theorem LAt.rb (h : LAt w S g A c b most R rc rs) {x : Nat} (hx : (Value.slice R rs.length rc).ownBlock = some x) : (Value.slice A b.length c).ownBlock ≠ some x := own_apart h.row h.bot (by decide) hx
theorem LAt.rx (h : LAt w S g A c b most R rc rs) {r : Rg} (hr : r ∈ rs) : (Value.slice R rs.length rc).ownBlock ≠ some r.x := fun e => own_apart h.row (h.rung r hr) (by decide) e rfl
theorem LAt.only (h : LAt w S g A c b most R rc rs) (hO : Only w w' T) (hT : ∀ x, S x → ¬ T x) : LAt w' S g A c b most R rc rs :=
  ⟨h.blk.only hO (hT g h.sg), h.bot.only hO (fun x hx => hT x (h.sb x hx)), h.row.only hO (fun x hx => hT x (h.sr x hx)), fun r hr => (h.rung r hr).only hO (fun x hx => by
    simp only [Value.ownBlock, Option.some.injEq] at hx
    subst hx
    exact hT _ (h.ss r hr)), h.nd, h.nb, h.sg, h.sb, h.sr, h.ss⟩
theorem LAt.below (h : LAt w S g A c b most R rc rs) (hb : Below w.heap.size w w') : LAt w' S g A c b most R rc rs :=
  ⟨h.blk.below' hb, h.bot.below hb, h.row.below hb, fun r hr => (h.rung r hr).below hb, h.nd, h.nb, h.sg, h.sb, h.sr, h.ss⟩
theorem LAt.drew (h : LAt w S g A c b most R rc rs) : LAt w.drew S g A c b most R rc rs := ⟨h.blk, h.bot, h.row, h.rung, h.nd, h.nb, h.sg, h.sb, h.sr, h.ss⟩
theorem LAt.alloc (h : LAt w S g A c b most R rc rs) (o : Obj) : LAt (w.alloc o) S g A c b most R rc rs := h.below ((Below.refl _ _).alloc (Nat.le_refl _) o)
theorem LAt.to (h : LAt w S g A c b most R rc rs) (hT : ∀ x, S x → x < w.heap.size → T x) : LAt w T g A c b most R rc rs :=
  ⟨h.blk, h.bot, h.row, h.rung, h.nd, h.nb, hT _ h.sg h.blk.lt, fun x hx => hT _ (h.sb x hx) (h.bot.blk x hx).2, fun x hx => hT _ (h.sr x hx) (h.row.blk x hx).2, fun r hr => hT _ (h.ss r hr) ((h.rung r hr).blk _ rfl).2⟩
end
/-- How the row of rungs is read. -/
theorem at_R {w : World} {Ro : Option Addr} {rc : Nat} {rs : List Rg} (h : OwnR w (.slice Ro rs.length rc) rs) {i : Nat} (hi : i < rs.length) : ∃ ad, Ro = some ad ∧ w.cell? (ad.add (i * 1)) = some (.slice (some ⟨rs[i].x, 0, none⟩) rs[i].l.length rs[i].c) := by
  obtain ⟨A, c, e, hc, hC, _⟩ := h.reads flatR rfl kR_mk
  cases e
  obtain ⟨ad, e, hcell⟩ := hC.2.2 (by omega)
  obtain ⟨cs, _, hK, hc0⟩ := hcell i _ (List.getElem?_eq_getElem hi)
  obtain rfl := kR_open hK
  exact ⟨ad, e, hc0 0 _ rfl⟩
/-- What a ladder that is there answers to none. -/
theorem none_call {w : World} {g : Nat} {most : Int} (hm : most ≠ 0) (c1 : w.cell? ⟨g, 1, none⟩ = some (.int .i64 most)) : Calls Try.prog 20 #[.pointer (some ⟨g, 0, none⟩)] w fun e w' => e = .returned (.bool false) ∧ w' = w := by
  have h1 : (most == 0) = false := by simpa using hm
  go_enter Try.func20, Try.ntmps20
  go_wp2
  go_ret
  exact ⟨rfl, rfl⟩
theorem new_bad (w : World) {most : Int} (hw : most < 1 ∨ 16384 < most) : Calls Try.prog 8 #[.int .i64 most] w fun e w' => e = .returned (.tuple #[.pointer none, .int .i64 1]) ∧ w' = w := by
  by_cases h1 : most < 1
  · have h2 : decide (most < 1) = true := decide_eq_true h1
    go_enter Try.func8, Try.ntmps8
    go_wp2
    refine bodyPost_ret (v := .tuple #[.pointer none, .int .i64 1]) ?_ rfl ⟨rfl, rfl⟩
    exact results_list (rs := [.tmp 2, .tmp 3]) rfl (by simp) (Vals.tmp (Vals.tmp Vals.nil))
  · have h3 : 16384 < most := by omega
    have h4 : most > 16384 := h3
    go_enter Try.func8, Try.ntmps8
    go_wp2
    refine bodyPost_ret (v := .tuple #[.pointer none, .int .i64 1]) ?_ rfl ⟨rfl, rfl⟩
    exact results_list (rs := [.tmp 2, .tmp 3]) rfl (by simp) (Vals.tmp (Vals.tmp Vals.nil))
theorem new_at (w : World) {most : Int} (h1 : 1 ≤ most) (h2 : most ≤ 16384) : Calls Try.prog 8 #[.int .i64 most] w fun e w' => e = .returned (.tuple #[.pointer (some ⟨w.heap.size, 0, none⟩), .int .i64 0]) ∧ LAt w' (fun x => x = w.heap.size) w.heap.size none 0 [] most none 0 [] ∧ Below w.heap.size w w' := by
  have n1 : ¬ most < 1 := by omega
  have n2 : ¬ most > 16384 := by omega
  go_enter Try.func8, Try.ntmps8
  go_wp2
  refine bodyPost_ret (v := .tuple #[.pointer (some ⟨w.heap.size, 0, none⟩), .int .i64 0]) ?_ rfl ⟨rfl, ⟨Blk.new _ _ _, Own.nil _ _ _ _ _, Own.nil _ _ _ _ _, fun r hr => by simp at hr, List.nodup_nil, fun r hr => by simp at hr, rfl, fun x hx => by simp [Value.ownBlock] at hx, fun x hx => by simp [Value.ownBlock] at hx, fun r hr => by simp at hr⟩, (Below.refl _ _).alloc (Nat.le_refl _) _⟩
  exact results_list (rs := [.tmp 2, .tmp 3]) rfl (by simp) (Vals.tmp (Vals.tmp Vals.nil))
end Go.Proofs.Ytkhdghlgkljdgaa.LQ
