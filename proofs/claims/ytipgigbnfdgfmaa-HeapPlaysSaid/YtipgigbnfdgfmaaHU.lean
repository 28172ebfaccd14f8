/- The contracts of the pile's up and down. No law is proved here. -/
import Derived.Test.YtipgigbnfdgfmaaSorted
import Derived.Test.YtipgigbnfdgfmaaGrK
import Derived.Test.YtipgigbnfdgfmaaLex
import Derived.Shelf.SlSortCmp.QuietGrown
namespace Go.Proofs.Ytipgigbnfdgfmaa.HU
open Go.Proofs Go.Shelf Go.RowKit Go.Lib Go.Sort Go.Proofs.Ytipgigbnfdgfmaa.Types Go.Proofs.Ytipgigbnfdgfmaa.Heap Go.Proofs.Ytipgigbnfdgfmaa.Row Go.Proofs.Ytipgigbnfdgfmaa.Ord Go.Proofs.Ytipgigbnfdgfmaa.Sorted Go.Proofs.YtipgigbnfdgfmaaW.PrintWords Go.Proofs.YtipgigbnfdgfmaaW.PrintLast Go.Proofs.YtipgigbnfdgfmaaW.PrintMore
set_option linter.unusedVariables false
set_option linter.unusedSimpArgs false
abbrev tH : TypeId := 45
/-- What the pile's functions stand on. -/
structure Piles (P : Program) (k : Nat) : Prop where
  mixed : P.follows .mixedOrders = true
  fup : P.funcs[32]? = some Try.f32
  fdn : P.funcs[33]? = some Try.f33
  t0 : P.underlying 0 = some (TypeDesc.tuple #[])
  a0 : ∀ w, Sem.run P (isAgg 0) w = .ok false w
  z0 : ∀ w, Sem.run P (Go.sizeOf 0) w = .ok 1 w
  v0 : ∀ w, Sem.run P (zeroValue 0) w = .ok (Value.tuple #[]) w
  t3 : P.underlying 3 = some (TypeDesc.int IntKind.i64)
  a3 : ∀ w, Sem.run P (isAgg 3) w = .ok false w
  z3 : ∀ w, Sem.run P (Go.sizeOf 3) w = .ok 1 w
  v3 : ∀ w, Sem.run P (zeroValue 3) w = .ok (Value.int IntKind.i64 0) w
  t4 : P.underlying 4 = some (TypeDesc.bool)
  a4 : ∀ w, Sem.run P (isAgg 4) w = .ok false w
  z4 : ∀ w, Sem.run P (Go.sizeOf 4) w = .ok 1 w
  v4 : ∀ w, Sem.run P (zeroValue 4) w = .ok (Value.bool false) w
  t26 : P.underlying 26 = some (TypeDesc.slice 25)
  a26 : ∀ w, Sem.run P (isAgg 26) w = .ok false w
  z26 : ∀ w, Sem.run P (Go.sizeOf 26) w = .ok 1 w
  v26 : ∀ w, Sem.run P (zeroValue 26) w = .ok (Value.slice none 0 0) w
  t41 : P.underlying 41 = some (TypeDesc.func #[25, 25] #[4] false)
  a41 : ∀ w, Sem.run P (isAgg 41) w = .ok false w
  z41 : ∀ w, Sem.run P (Go.sizeOf 41) w = .ok 1 w
  v41 : ∀ w, Sem.run P (zeroValue 41) w = .ok (Value.nilFunc) w
  t68 : P.underlying 68 = some (TypeDesc.pointer 43)
  a68 : ∀ w, Sem.run P (isAgg 68) w = .ok false w
  z68 : ∀ w, Sem.run P (Go.sizeOf 68) w = .ok 1 w
  v68 : ∀ w, Sem.run P (zeroValue 68) w = .ok (Value.pointer none) w
  t43 : P.underlying 43 = some (TypeDesc.struct #[{ name := "l", type := 26, offset := 0, embedded := false, tag := "", pkgPath := "isochron/heap", byteOffset := 0 }, { name := "before", type := 41, offset := 1, embedded := false, tag := "", pkgPath := "isochron/heap", byteOffset := 24 }])
  aE : ∀ w, Sem.run P (isAgg 25) w = .ok true w
  zE : ∀ w, Sem.run P (Go.sizeOf 25) w = .ok k w
theorem piles : Piles Try.prog 7 where
  mixed := by kernel_rfl
  fup := Try.func32
  fdn := Try.func33
  t0 := by kernel_rfl
  a0 := fun w => by kernel_rfl
  z0 := fun w => by kernel_rfl
  v0 := fun w => by kernel_rfl
  t3 := by kernel_rfl
  a3 := fun w => by kernel_rfl
  z3 := fun w => by kernel_rfl
  v3 := fun w => by kernel_rfl
  t4 := by kernel_rfl
  a4 := fun w => by kernel_rfl
  z4 := fun w => by kernel_rfl
  v4 := fun w => by kernel_rfl
  t26 := by kernel_rfl
  a26 := fun w => by kernel_rfl
  z26 := fun w => by kernel_rfl
  v26 := fun w => by kernel_rfl
  t41 := by kernel_rfl
  a41 := fun w => by kernel_rfl
  z41 := fun w => by kernel_rfl
  v41 := fun w => by kernel_rfl
  t68 := by kernel_rfl
  a68 := fun w => by kernel_rfl
  z68 := fun w => by kernel_rfl
  v68 := fun w => by kernel_rfl
  t43 := by kernel_rfl
  aE := fun w => by kernel_rfl
  zE := fun w => by kernel_rfl
section
variable {α : Type} [Inhabited α]
/-- Up from a place. -/
def upA (lt : α → α → Bool) (d : Array α) (i : Nat) : Array α :=
  if h : 0 < i then (if lt d[i]! d[(i - 1) / 2]! then upA lt (swp d i ((i - 1) / 2)) ((i - 1) / 2) else d) else d
termination_by i
decreasing_by omega
theorem size_upA (lt : α → α → Bool) (i : Nat) : ∀ d : Array α, (upA lt d i).size = d.size := by
  induction i using Nat.strongRecOn with
  | ind i ih =>
    intro d
    rw [upA]
    split
    · split
      · rw [ih _ (by omega), size_swp]
      · rfl
    · rfl
variable {P : Program} {k : Nat} {enc : α → List Value}
theorem swk_blk {w0 W : World} {blk off g : Nat} {d : Array α} {t : TypeId} {cs : Array Value} (S : SWK enc k w0 blk off d W) (h : Blk w0 g t cs) (hne : g ≠ blk) : Blk W g t cs := by
  obtain ⟨m, os, rfl⟩ := S
  unfold Blk sortWorldK
  have hi := h.lt
  rw [heap_grow_old _ _ (by rw [size_putRowK]; exact hi)]
  show (w0.heap.modify blk (onCells (putCells id off (flatK enc k d))))[g]? = _
  rw [Array.getElem?_modify, if_neg (fun q => hne q.symm)]
  exact h
/-- What a comparison does. -/
def Befores (P : Program) (enc : α → List Value) (lt : α → α → Bool) : Prop := ∀ (x y : α) (w : World), Calls P 20 #[.agg (enc x).toArray, .agg (enc y).toArray] w fun e w' => e = .returned (.bool (lt x y)) ∧ GrK.Gr w w'
set_option maxHeartbeats 4000000 in
set_option maxRecDepth 1000000 in
theorem up_call (L : Piles P k) (lt : α → α → Bool) (HC : Befores P enc lt) (eb : ∀ args w, (callFunc 20 args).run P w = .ok (.enter 20 args) w) (g blk off cap : Nat) (d0 d : Array α) (w0 w : World) (R : RowK enc k w0 blk off d0) (hs : d.size = d0.size) (S : SWK enc k w0 blk off d w) (hg : Blk w0 g tH #[.slice (some ⟨blk, off, none⟩) d0.size cap, .func (.func 20) #[] #[]]) (hne : g ≠ blk) (i : Nat) (hi : i < d0.size) (hsz : d0.size ≤ 4398046511104) :
    Calls P 32 #[.pointer (some ⟨g, 0, none⟩), .int .i64 i] w fun e w' => e = .returned (.tuple #[]) ∧ SWK enc k w0 blk off (upA lt d i) w' := by
  have mixed := L.mixed; have t0 := L.t0; have a0 := L.a0; have z0 := L.z0; have v0 := L.v0; have t3 := L.t3; have a3 := L.a3; have z3 := L.z3; have v3 := L.v3; have t4 := L.t4; have a4 := L.a4; have z4 := L.z4; have v4 := L.v4; have t26 := L.t26; have a26 := L.a26; have z26 := L.z26; have v26 := L.v26; have t41 := L.t41; have a41 := L.a41; have z41 := L.z41; have v41 := L.v41; have t68 := L.t68; have a68 := L.a68; have z68 := L.z68; have v68 := L.v68; have u43 := fun w => run_underlying (w := w) L.t43; have aE := L.aE; have zE := L.zE
  have FG := L.fup
  have HG := hide hg
  have HS0 := hide S
  have HS := hide hs
  have HI := hide hi
  clear S hg hs hi
  go_enter FG, Try.ntmps32
  go_wp2_with fail
  go_loopw [1] (fun iv wr => ∃ (x : Nat) (dk : Array α), iv = .int .i64 x ∧ Hid (x < d0.size) ∧ Hid (dk.size = d0.size) ∧ Hid (SWK enc k w0 blk off dk wr) ∧ Hid (upA lt dk x = upA lt d i)) (fun iv _ => (intOf iv).toNat)
  case atStart => exact ⟨i, d, rfl, HI, HS, HS0, hide rfl⟩
  case round =>
    obtain ⟨x, dk, rfl, hx, hds, S1, hup⟩ := hrel
    clear HS0 HS HI
    by_cases hlt : 0 < x
    · have b0 : (0 : Int) < (x : Int) := by omega
      have hx2 := hx.out
      have hxi : (x : Int) ≤ 4398046511104 := by omega
      obtain ⟨y, hy⟩ : ∃ y, (x - 1) / 2 = y := ⟨_, rfl⟩
      have hw1 : wrap64 ((x : Int) - 1) = (x : Int) - 1 := by unfold wrap64; omega
      have hw2 : ((x : Int) - 1).tdiv 2 = (y : Int) := by
        rw [Int.tdiv_eq_ediv_of_nonneg (by omega)]
        omega
      have hyx : y < x := by omega
      have HYX := hide hyx
      have HY := hide hy
      have bx : (x : Int) < (d0.size : Int) := by omega
      have byy : (y : Int) < (d0.size : Int) := by omega
      have hB := swk_blk S1.out HG.out hne
      have c0 : ∀ n os, (grow (wr.drewN n) os).cell? ⟨g, 0, none⟩ = some (.slice (some ⟨blk, off, none⟩) d0.size cap) := GrK.cg (hB.cell 0)
      have c1 : ∀ n os, (grow (wr.drewN n) os).cell? ⟨g, 1, none⟩ = some (.func (.func 20) #[] #[]) := GrK.cg (hB.cell 1)
      have lx := fun n os => S1.out.ld R hds.out P x (by have := hds.out; omega) n os
      have ly := fun n os => S1.out.ld R hds.out P y (by have := hds.out; omega) n os
      have hcall := GrK.gr_call (fun W => HC dk[x]! dk[y]! W) wr
      have n1 : (enc dk[x]!).length = k := R.hk _
      have n2 : (enc dk[y]!).length = k := R.hk _
      obtain ⟨bb, hbb⟩ : ∃ bb, lt dk[x]! dk[y]! = bb := ⟨_, rfl⟩
      rw [hbb] at hcall
      have HUP : Hid (upA lt dk x = if bb = true then upA lt (swp dk x y) y else dk) := hide (by rw [upA, dif_pos hlt, hy, hbb])
      clear hbb hy HY
      obtain ⟨ex, hex⟩ : ∃ ex, enc dk[x]! = ex := ⟨_, rfl⟩
      obtain ⟨ey, hey⟩ : ∃ ey, enc dk[y]! = ey := ⟨_, rfl⟩
      rw [hex] at lx hcall n1
      rw [hey] at ly hcall n2
      have HEX := hide hex
      have HEY := hide hey
      clear hex hey
      go_wp2_with fail
      refine wp_region_quiet_grown mixed (Lex.lexB_of _ (by kernel_rfl) (by kernel_rfl)) ?_
      repeat (go_big_quiet_step ((go_at_call 20; exact hcall _ _)))
      refine wpQuiet_nil ?_
      intro _ hw'
      obtain ⟨⟨nq, osq⟩, hw''⟩ := hw'
      subst hw''
      have S3 := hide (S1.out.grown nq osq)
      clear lx ly hcall c0 c1 hB S1
      generalize grow (wr.drewN nq) osq = w3 at S3 ⊢
      cases bb
      · rw [if_neg (by simp)] at HUP
        simp only [Bool.not_false]
        go_wp2_with fail
        refine bodyPost_ret (results_none rfl _ _ _) rfl ?_
        exact ⟨rfl, by rw [← hup.out, HUP.out]; exact S3.out⟩
      · rw [if_pos rfl] at HUP
        simp only [Bool.not_true]
        have hB := swk_blk S3.out HG.out hne
        have c0 : w3.drew.cell? ⟨g, 0, none⟩ = some (.slice (some ⟨blk, off, none⟩) d0.size cap) := hB.cell 0
        have c0' : (w3.drew.setCells blk (off + x * k) ey).cell? ⟨g, 0, none⟩ = some (.slice (some ⟨blk, off, none⟩) d0.size cap) := by
          rw [World.cell?_setCells_out blk _ _ _ _ (fun e _ => absurd e hne)]
          exact c0
        have lxd := S3.out.ld1 R hds.out P x (by have := hds.out; omega)
        have lyd := S3.out.ld1 R hds.out P y (by have := hds.out; omega)
        have sxd := S3.out.st1 R hds.out P x (by have := hds.out; omega) dk[y]!
        have syd := S3.out.st2 R hds.out P x y (by have := hds.out; omega) (by have := hds.out; omega) dk[y]! dk[x]!
        have S4 := hide (S3.out.swapped R x y (by have := hds.out; omega) (by have := hds.out; omega))
        rw [HEX.out] at lxd syd S4
        rw [HEY.out] at lyd sxd syd S4
        clear S3 hB HEX HEY
        go_wp2_with fail
        go_big_region_o
        clear lxd lyd sxd syd c0 c0'
        generalize (w3.drew.setCells blk (off + x * k) ey).setCells blk (off + y * k) ex = w4 at S4 ⊢
        go_wp2_with fail
        go_roundw
        case rel => exact ⟨y, swp dk x y, rfl, hide (by omega), hide (by rw [size_swp]; exact hds.out), S4, hide (by rw [← HUP.out]; exact hup.out)⟩
        case measure => simp [intOf]; omega
    · obtain rfl : x = 0 := by omega
      go_wp2_with fail
      go_end0
      have := hup.out
      rw [upA, dif_neg (by omega)] at this
      rw [← this]
      exact ⟨rfl, S1.out⟩
/-- Down from a place. -/
def downA (lt : α → α → Bool) (d : Array α) (i : Nat) : Array α :=
  if h : 2 * i + 1 < d.size then
    (if lt d[if 2 * i + 2 < d.size ∧ lt d[2 * i + 2]! d[2 * i + 1]! = true then 2 * i + 2 else 2 * i + 1]! d[i]! then
      downA lt (swp d i (if 2 * i + 2 < d.size ∧ lt d[2 * i + 2]! d[2 * i + 1]! = true then 2 * i + 2 else 2 * i + 1)) (if 2 * i + 2 < d.size ∧ lt d[2 * i + 2]! d[2 * i + 1]! = true then 2 * i + 2 else 2 * i + 1) else d) else d
termination_by d.size - i
decreasing_by rw [size_swp]; split <;> omega
set_option maxHeartbeats 4000000 in
set_option maxRecDepth 1000000 in
theorem down_call (L : Piles P k) (lt : α → α → Bool) (HC : Befores P enc lt) (eb : ∀ args w, (callFunc 20 args).run P w = .ok (.enter 20 args) w) (g blk off cap : Nat) (d0 d : Array α) (w0 w : World) (R : RowK enc k w0 blk off d0) (hs : d.size = d0.size) (S : SWK enc k w0 blk off d w) (hg : Blk w0 g tH #[.slice (some ⟨blk, off, none⟩) d0.size cap, .func (.func 20) #[] #[]]) (hne : g ≠ blk) (i : Nat) (hi : i < d0.size) (hsz : d0.size ≤ 4398046511104) :
    Calls P 33 #[.pointer (some ⟨g, 0, none⟩), .int .i64 i] w fun e w' => e = .returned (.tuple #[]) ∧ SWK enc k w0 blk off (downA lt d i) w' := by
  have mixed := L.mixed; have t0 := L.t0; have a0 := L.a0; have z0 := L.z0; have v0 := L.v0; have t3 := L.t3; have a3 := L.a3; have z3 := L.z3; have v3 := L.v3; have t4 := L.t4; have a4 := L.a4; have z4 := L.z4; have v4 := L.v4; have t26 := L.t26; have a26 := L.a26; have z26 := L.z26; have v26 := L.v26; have t41 := L.t41; have a41 := L.a41; have z41 := L.z41; have v41 := L.v41; have t68 := L.t68; have a68 := L.a68; have z68 := L.z68; have v68 := L.v68; have u43 := fun w => run_underlying (w := w) L.t43; have aE := L.aE; have zE := L.zE
  have FG := L.fdn
  have HG := hide hg
  have HS0 := hide S
  have HS := hide hs
  have HI := hide hi
  clear S hg hs hi
  go_enter FG, Try.ntmps33
  go_wp2_with fail
  go_loopw [1] (fun iv wr => ∃ (x : Nat) (dk : Array α), iv = .int .i64 x ∧ Hid (x < d0.size) ∧ Hid (dk.size = d0.size) ∧ Hid (SWK enc k w0 blk off dk wr) ∧ Hid (downA lt dk x = downA lt d i)) (fun iv _ => d0.size - (intOf iv).toNat)
  case atStart => exact ⟨i, d, rfl, HI, HS, HS0, hide rfl⟩
  case round =>
    obtain ⟨x, dk, rfl, hx, hds, S1, hup⟩ := hrel
    clear HS0 HS HI
    have hx2 := hx.out
    have hxi : (x : Int) ≤ 4398046511104 := by omega
    obtain ⟨z, hz⟩ : ∃ z, 2 * x + 1 = z := ⟨_, rfl⟩
    have HZ := hide hz
    have hzI : 2 * (x : Int) + 1 = (z : Int) := by omega
    have hB := swk_blk S1.out HG.out hne
    have c0w : wr.cell? ⟨g, 0, none⟩ = some (.slice (some ⟨blk, off, none⟩) d0.size cap) := hB.cell 0
    by_cases hlt : z < d0.size
    · have bz : ¬ (d0.size : Int) ≤ (z : Int) := by omega
      have bx : (x : Int) < (d0.size : Int) := by omega
      have bz2 : (z : Int) < (d0.size : Int) := by omega
      obtain ⟨z2, hz2⟩ : ∃ z2, z + 1 = z2 := ⟨_, rfl⟩
      have hzI2 : (z : Int) + 1 = (z2 : Int) := by omega
      have HZ2 := hide hz2
      clear hz hz2
      by_cases h2 : z2 < d0.size
      · have b2 : (z2 : Int) < (d0.size : Int) := by omega
        cases hb1 : lt dk[z2]! dk[z]!
        · as_aux_lemma =>
            have c0 : ∀ n os, (grow (wr.drewN n) os).cell? ⟨g, 0, none⟩ = some (.slice (some ⟨blk, off, none⟩) d0.size cap) := GrK.cg (hB.cell 0)
            have c1 : ∀ n os, (grow (wr.drewN n) os).cell? ⟨g, 1, none⟩ = some (.func (.func 20) #[] #[]) := GrK.cg (hB.cell 1)
            have lx := fun n os => S1.out.ld R hds.out P z2 (by have := hds.out; omega) n os
            have ly := fun n os => S1.out.ld R hds.out P z (by have := hds.out; omega) n os
            have hcall := GrK.gr_call (fun W => HC dk[z2]! dk[z]! W) wr
            have n1 : (enc dk[z2]!).length = k := R.hk _
            have n2 : (enc dk[z]!).length = k := R.hk _
            rw [hb1] at hcall
            generalize enc dk[z2]! = ex at lx hcall n1
            generalize enc dk[z]! = ey at ly hcall n2
            go_wp2_with fail
            refine wp_region_quiet_grown mixed (Lex.lexB_of _ (by kernel_rfl) (by kernel_rfl)) ?_
            repeat (go_big_quiet_step ((go_at_call 20; exact hcall _ _)))
            refine wpQuiet_nil ?_
            intro _ hw'
            obtain ⟨⟨nq, osq⟩, hw''⟩ := hw'
            subst hw''
            have S2 := hide (S1.out.grown nq osq)
            clear lx ly hcall n1 n2 c0 c1 hB c0w S1
            generalize grow (wr.drewN nq) osq = w2 at S2 ⊢
            have HJ : Hid ((if 2 * x + 2 < dk.size ∧ lt dk[2 * x + 2]! dk[2 * x + 1]! = true then 2 * x + 2 else 2 * x + 1) = z) := hide (by rw [hds.out, show 2 * x + 2 = z2 by have := HZ.out; have := HZ2.out; omega, show 2 * x + 1 = z from HZ.out, if_neg (fun q => by rw [hb1] at q; exact absurd q.2 (by simp))])
            have HLT : Hid (x < z) := hide (by have := HZ.out; have := HZ2.out; omega)
            have hB := swk_blk S2.out HG.out hne
            have HLS : Hid (z < d0.size ∧ 2 * x + 1 < dk.size) := hide (by have := HZ.out; have := hds.out; exact ⟨by first | exact h2 | exact hlt, by omega⟩)
            have c0 : ∀ n os, (grow (w2.drewN n) os).cell? ⟨g, 0, none⟩ = some (.slice (some ⟨blk, off, none⟩) d0.size cap) := GrK.cg (hB.cell 0)
            have c1 : ∀ n os, (grow (w2.drewN n) os).cell? ⟨g, 1, none⟩ = some (.func (.func 20) #[] #[]) := GrK.cg (hB.cell 1)
            have lx := fun n os => S2.out.ld R hds.out P z (by have := hds.out; omega) n os
            have ly := fun n os => S2.out.ld R hds.out P x (by have := hds.out; omega) n os
            have hcall := GrK.gr_call (fun W => HC dk[z]! dk[x]! W) w2
            have n1 : (enc dk[z]!).length = k := R.hk _
            have n2 : (enc dk[x]!).length = k := R.hk _
            obtain ⟨bb, hbb⟩ : ∃ bb, lt dk[z]! dk[x]! = bb := ⟨_, rfl⟩
            rw [hbb] at hcall
            have HUP : Hid (downA lt dk x = if bb = true then downA lt (swp dk x z) z else dk) := hide (by rw [downA, dif_pos HLS.out.2, HJ.out, hbb])
            clear hbb
            obtain ⟨ex, hex⟩ : ∃ ex, enc dk[z]! = ex := ⟨_, rfl⟩
            obtain ⟨ey, hey⟩ : ∃ ey, enc dk[x]! = ey := ⟨_, rfl⟩
            rw [hex] at lx hcall n1
            rw [hey] at ly hcall n2
            have HEX := hide hex
            have HEY := hide hey
            clear hex hey
            go_wp2_with fail
            refine wp_region_quiet_grown mixed (Lex.lexB_of _ (by kernel_rfl) (by kernel_rfl)) ?_
            repeat (go_big_quiet_step ((go_at_call 20; exact hcall _ _)))
            refine wpQuiet_nil ?_
            intro _ hw'
            obtain ⟨⟨nq, osq⟩, hw''⟩ := hw'
            subst hw''
            have S3 := hide (S2.out.grown nq osq)
            clear lx ly hcall c0 c1 hB S2
            generalize grow (w2.drewN nq) osq = w3 at S3 ⊢
            cases bb
            · rw [if_neg (by simp)] at HUP
              simp only [Bool.not_false]
              go_wp2_with fail
              refine bodyPost_ret (results_none rfl _ _ _) rfl ?_
              exact ⟨rfl, by rw [← hup.out, HUP.out]; exact S3.out⟩
            · rw [if_pos rfl] at HUP
              simp only [Bool.not_true]
              have hB := swk_blk S3.out HG.out hne
              have c0 : w3.drew.cell? ⟨g, 0, none⟩ = some (.slice (some ⟨blk, off, none⟩) d0.size cap) := hB.cell 0
              have c0' : (w3.drew.setCells blk (off + x * k) ex).cell? ⟨g, 0, none⟩ = some (.slice (some ⟨blk, off, none⟩) d0.size cap) := by
                rw [World.cell?_setCells_out blk _ _ _ _ (fun e _ => absurd e hne)]
                exact c0
              have lxd := S3.out.ld1 R hds.out P z (by have := hds.out; omega)
              have lyd := S3.out.ld1 R hds.out P x (by have := hds.out; omega)
              have sxd := S3.out.st1 R hds.out P x (by have := hds.out; omega) dk[z]!
              have syd := S3.out.st2 R hds.out P x z (by have := hds.out; omega) (by have := hds.out; omega) dk[z]! dk[x]!
              have S4 := hide (S3.out.swapped R x z (by have := hds.out; omega) (by have := hds.out; omega))
              rw [HEX.out] at lxd sxd syd S4
              rw [HEY.out] at lyd syd S4
              clear S3 hB HEX HEY
              go_wp2_with fail
              go_big_region_o
              clear lxd lyd sxd syd c0 c0'
              generalize (w3.drew.setCells blk (off + x * k) ex).setCells blk (off + z * k) ey = w4 at S4 ⊢
              go_wp2_with fail
              go_roundw
              case rel => exact ⟨z, swp dk x z, rfl, hide HLS.out.1, hide (by rw [size_swp]; exact hds.out), S4, hide (by rw [← HUP.out]; exact hup.out)⟩
              case measure => have := HLS.out; have := HLT.out; simp [intOf]; omega
        · as_aux_lemma =>
            have c0 : ∀ n os, (grow (wr.drewN n) os).cell? ⟨g, 0, none⟩ = some (.slice (some ⟨blk, off, none⟩) d0.size cap) := GrK.cg (hB.cell 0)
            have c1 : ∀ n os, (grow (wr.drewN n) os).cell? ⟨g, 1, none⟩ = some (.func (.func 20) #[] #[]) := GrK.cg (hB.cell 1)
            have lx := fun n os => S1.out.ld R hds.out P z2 (by have := hds.out; omega) n os
            have ly := fun n os => S1.out.ld R hds.out P z (by have := hds.out; omega) n os
            have hcall := GrK.gr_call (fun W => HC dk[z2]! dk[z]! W) wr
            have n1 : (enc dk[z2]!).length = k := R.hk _
            have n2 : (enc dk[z]!).length = k := R.hk _
            rw [hb1] at hcall
            generalize enc dk[z2]! = ex at lx hcall n1
            generalize enc dk[z]! = ey at ly hcall n2
            go_wp2_with fail
            refine wp_region_quiet_grown mixed (Lex.lexB_of _ (by kernel_rfl) (by kernel_rfl)) ?_
            repeat (go_big_quiet_step ((go_at_call 20; exact hcall _ _)))
            refine wpQuiet_nil ?_
            intro _ hw'
            obtain ⟨⟨nq, osq⟩, hw''⟩ := hw'
            subst hw''
            have S2 := hide (S1.out.grown nq osq)
            clear lx ly hcall n1 n2 c0 c1 hB c0w S1
            generalize grow (wr.drewN nq) osq = w2 at S2 ⊢
            have HJ : Hid ((if 2 * x + 2 < dk.size ∧ lt dk[2 * x + 2]! dk[2 * x + 1]! = true then 2 * x + 2 else 2 * x + 1) = z2) := hide (by rw [hds.out, show 2 * x + 2 = z2 by have := HZ.out; have := HZ2.out; omega, show 2 * x + 1 = z from HZ.out, if_pos ⟨h2, hb1⟩])
            have HLT : Hid (x < z2) := hide (by have := HZ.out; have := HZ2.out; omega)
            have hB := swk_blk S2.out HG.out hne
            have HLS : Hid (z2 < d0.size ∧ 2 * x + 1 < dk.size) := hide (by have := HZ.out; have := hds.out; exact ⟨by first | exact h2 | exact hlt, by omega⟩)
            have c0 : ∀ n os, (grow (w2.drewN n) os).cell? ⟨g, 0, none⟩ = some (.slice (some ⟨blk, off, none⟩) d0.size cap) := GrK.cg (hB.cell 0)
            have c1 : ∀ n os, (grow (w2.drewN n) os).cell? ⟨g, 1, none⟩ = some (.func (.func 20) #[] #[]) := GrK.cg (hB.cell 1)
            have lx := fun n os => S2.out.ld R hds.out P z2 (by have := hds.out; omega) n os
            have ly := fun n os => S2.out.ld R hds.out P x (by have := hds.out; omega) n os
            have hcall := GrK.gr_call (fun W => HC dk[z2]! dk[x]! W) w2
            have n1 : (enc dk[z2]!).length = k := R.hk _
            have n2 : (enc dk[x]!).length = k := R.hk _
            obtain ⟨bb, hbb⟩ : ∃ bb, lt dk[z2]! dk[x]! = bb := ⟨_, rfl⟩
            rw [hbb] at hcall
            have HUP : Hid (downA lt dk x = if bb = true then downA lt (swp dk x z2) z2 else dk) := hide (by rw [downA, dif_pos HLS.out.2, HJ.out, hbb])
            clear hbb
            obtain ⟨ex, hex⟩ : ∃ ex, enc dk[z2]! = ex := ⟨_, rfl⟩
            obtain ⟨ey, hey⟩ : ∃ ey, enc dk[x]! = ey := ⟨_, rfl⟩
            rw [hex] at lx hcall n1
            rw [hey] at ly hcall n2
            have HEX := hide hex
            have HEY := hide hey
            clear hex hey
            go_wp2_with fail
            refine wp_region_quiet_grown mixed (Lex.lexB_of _ (by kernel_rfl) (by kernel_rfl)) ?_
            repeat (go_big_quiet_step ((go_at_call 20; exact hcall _ _)))
            refine wpQuiet_nil ?_
            intro _ hw'
            obtain ⟨⟨nq, osq⟩, hw''⟩ := hw'
            subst hw''
            have S3 := hide (S2.out.grown nq osq)
            clear lx ly hcall c0 c1 hB S2
            generalize grow (w2.drewN nq) osq = w3 at S3 ⊢
            cases bb
            · rw [if_neg (by simp)] at HUP
              simp only [Bool.not_false]
              go_wp2_with fail
              refine bodyPost_ret (results_none rfl _ _ _) rfl ?_
              exact ⟨rfl, by rw [← hup.out, HUP.out]; exact S3.out⟩
            · rw [if_pos rfl] at HUP
              simp only [Bool.not_true]
              have hB := swk_blk S3.out HG.out hne
              have c0 : w3.drew.cell? ⟨g, 0, none⟩ = some (.slice (some ⟨blk, off, none⟩) d0.size cap) := hB.cell 0
              have c0' : (w3.drew.setCells blk (off + x * k) ex).cell? ⟨g, 0, none⟩ = some (.slice (some ⟨blk, off, none⟩) d0.size cap) := by
                rw [World.cell?_setCells_out blk _ _ _ _ (fun e _ => absurd e hne)]
                exact c0
              have lxd := S3.out.ld1 R hds.out P z2 (by have := hds.out; omega)
              have lyd := S3.out.ld1 R hds.out P x (by have := hds.out; omega)
              have sxd := S3.out.st1 R hds.out P x (by have := hds.out; omega) dk[z2]!
              have syd := S3.out.st2 R hds.out P x z2 (by have := hds.out; omega) (by have := hds.out; omega) dk[z2]! dk[x]!
              have S4 := hide (S3.out.swapped R x z2 (by have := hds.out; omega) (by have := hds.out; omega))
              rw [HEX.out] at lxd sxd syd S4
              rw [HEY.out] at lyd syd S4
              clear S3 hB HEX HEY
              go_wp2_with fail
              go_big_region_o
              clear lxd lyd sxd syd c0 c0'
              generalize (w3.drew.setCells blk (off + x * k) ex).setCells blk (off + z2 * k) ey = w4 at S4 ⊢
              go_wp2_with fail
              go_roundw
              case rel => exact ⟨z2, swp dk x z2, rfl, hide HLS.out.1, hide (by rw [size_swp]; exact hds.out), S4, hide (by rw [← HUP.out]; exact hup.out)⟩
              case measure => have := HLS.out; have := HLT.out; simp [intOf]; omega
      · have b2 : ¬ (z2 : Int) < (d0.size : Int) := by omega
        as_aux_lemma =>
          have c0 : ∀ n os, (grow (wr.drewN n) os).cell? ⟨g, 0, none⟩ = some (.slice (some ⟨blk, off, none⟩) d0.size cap) := GrK.cg (hB.cell 0)
          have c1 : ∀ n os, (grow (wr.drewN n) os).cell? ⟨g, 1, none⟩ = some (.func (.func 20) #[] #[]) := GrK.cg (hB.cell 1)
          go_wp2_with fail
          refine wp_region_quiet_grown mixed (Lex.lexB_of _ (by kernel_rfl) (by kernel_rfl)) ?_
          repeat (go_big_quiet_step ((go_at_call 20; exact hcall _ _)))
          refine wpQuiet_nil ?_
          intro _ hw'
          obtain ⟨⟨nq, osq⟩, hw''⟩ := hw'
          subst hw''
          have S2 := hide (S1.out.grown nq osq)
          clear c0 c1 hB c0w S1
          generalize grow (wr.drewN nq) osq = w2 at S2 ⊢
          have HJ : Hid ((if 2 * x + 2 < dk.size ∧ lt dk[2 * x + 2]! dk[2 * x + 1]! = true then 2 * x + 2 else 2 * x + 1) = z) := hide (by rw [hds.out, show 2 * x + 2 = z2 by have := HZ.out; have := HZ2.out; omega, show 2 * x + 1 = z from HZ.out, if_neg (fun q => h2 q.1)])
          have HLT : Hid (x < z) := hide (by have := HZ.out; have := HZ2.out; omega)
          have hB := swk_blk S2.out HG.out hne
          have HLS : Hid (z < d0.size ∧ 2 * x + 1 < dk.size) := hide (by have := HZ.out; have := hds.out; exact ⟨by first | exact h2 | exact hlt, by omega⟩)
          have c0 : ∀ n os, (grow (w2.drewN n) os).cell? ⟨g, 0, none⟩ = some (.slice (some ⟨blk, off, none⟩) d0.size cap) := GrK.cg (hB.cell 0)
          have c1 : ∀ n os, (grow (w2.drewN n) os).cell? ⟨g, 1, none⟩ = some (.func (.func 20) #[] #[]) := GrK.cg (hB.cell 1)
          have lx := fun n os => S2.out.ld R hds.out P z (by have := hds.out; omega) n os
          have ly := fun n os => S2.out.ld R hds.out P x (by have := hds.out; omega) n os
          have hcall := GrK.gr_call (fun W => HC dk[z]! dk[x]! W) w2
          have n1 : (enc dk[z]!).length = k := R.hk _
          have n2 : (enc dk[x]!).length = k := R.hk _
          obtain ⟨bb, hbb⟩ : ∃ bb, lt dk[z]! dk[x]! = bb := ⟨_, rfl⟩
          rw [hbb] at hcall
          have HUP : Hid (downA lt dk x = if bb = true then downA lt (swp dk x z) z else dk) := hide (by rw [downA, dif_pos HLS.out.2, HJ.out, hbb])
          clear hbb
          obtain ⟨ex, hex⟩ : ∃ ex, enc dk[z]! = ex := ⟨_, rfl⟩
          obtain ⟨ey, hey⟩ : ∃ ey, enc dk[x]! = ey := ⟨_, rfl⟩
          rw [hex] at lx hcall n1
          rw [hey] at ly hcall n2
          have HEX := hide hex
          have HEY := hide hey
          clear hex hey
          go_wp2_with fail
          refine wp_region_quiet_grown mixed (Lex.lexB_of _ (by kernel_rfl) (by kernel_rfl)) ?_
          repeat (go_big_quiet_step ((go_at_call 20; exact hcall _ _)))
          refine wpQuiet_nil ?_
          intro _ hw'
          obtain ⟨⟨nq, osq⟩, hw''⟩ := hw'
          subst hw''
          have S3 := hide (S2.out.grown nq osq)
          clear lx ly hcall c0 c1 hB S2
          generalize grow (w2.drewN nq) osq = w3 at S3 ⊢
          cases bb
          · rw [if_neg (by simp)] at HUP
            simp only [Bool.not_false]
            go_wp2_with fail
            refine bodyPost_ret (results_none rfl _ _ _) rfl ?_
            exact ⟨rfl, by rw [← hup.out, HUP.out]; exact S3.out⟩
          · rw [if_pos rfl] at HUP
            simp only [Bool.not_true]
            have hB := swk_blk S3.out HG.out hne
            have c0 : w3.drew.cell? ⟨g, 0, none⟩ = some (.slice (some ⟨blk, off, none⟩) d0.size cap) := hB.cell 0
            have c0' : (w3.drew.setCells blk (off + x * k) ex).cell? ⟨g, 0, none⟩ = some (.slice (some ⟨blk, off, none⟩) d0.size cap) := by
              rw [World.cell?_setCells_out blk _ _ _ _ (fun e _ => absurd e hne)]
              exact c0
            have lxd := S3.out.ld1 R hds.out P z (by have := hds.out; omega)
            have lyd := S3.out.ld1 R hds.out P x (by have := hds.out; omega)
            have sxd := S3.out.st1 R hds.out P x (by have := hds.out; omega) dk[z]!
            have syd := S3.out.st2 R hds.out P x z (by have := hds.out; omega) (by have := hds.out; omega) dk[z]! dk[x]!
            have S4 := hide (S3.out.swapped R x z (by have := hds.out; omega) (by have := hds.out; omega))
            rw [HEX.out] at lxd sxd syd S4
            rw [HEY.out] at lyd syd S4
            clear S3 hB HEX HEY
            go_wp2_with fail
            go_big_region_o
            clear lxd lyd sxd syd c0 c0'
            generalize (w3.drew.setCells blk (off + x * k) ex).setCells blk (off + z * k) ey = w4 at S4 ⊢
            go_wp2_with fail
            go_roundw
            case rel => exact ⟨z, swp dk x z, rfl, hide HLS.out.1, hide (by rw [size_swp]; exact hds.out), S4, hide (by rw [← HUP.out]; exact hup.out)⟩
            case measure => have := HLS.out; have := HLT.out; simp [intOf]; omega
    · have bz : (d0.size : Int) ≤ (z : Int) := by omega
      have hup2 : Hid (downA lt dk x = dk) := hide (by rw [downA, dif_neg (by rw [hds.out, hz]; omega)])
      go_wp2_with fail
      refine bodyPost_ret (results_none rfl _ _ _) rfl ?_
      exact ⟨rfl, by rw [← hup.out, hup2.out]; exact S1.out⟩
end
end Go.Proofs.Ytipgigbnfdgfmaa.HU
