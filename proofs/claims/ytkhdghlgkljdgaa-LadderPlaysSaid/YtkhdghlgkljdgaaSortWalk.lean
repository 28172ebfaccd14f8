/- The contracts of slices' swapRange and rotate (stable sort), at elements of k cells. No law is proved here. -/
import Derived.Test.YtkhdghlgkljdgaaProg
import Derived.Test.YtkhdghlgkljdgaaSortPure2
import Derived.Shelf.SlSortCmp.KitK
import Derived.Sort.WalkB2
import Derived.Sort.WalkB12
import Derived.Deep.LoopGhost
set_option linter.unusedVariables false
set_option linter.unusedSimpArgs false
namespace Go.Proofs.Ytkhdghlgkljdgaa.SortW
open Go.Proofs Go.Shelf Go.RowKit Go.Lib Go.Sort Go.Proofs.Ytkhdghlgkljdgaa.SortPure

/-- What the sort's functions stand on. -/
structure Sorts (P : Program) (k : Nat) : Prop where
  mixed : P.follows .mixedOrders = true
  fswp : P.funcs[53]? = some Try.f53
  frot : P.funcs[51]? = some Try.f51
  fsym : P.funcs[48]? = some Try.f48
  fins : P.funcs[47]? = some Try.f47
  fsta : P.funcs[43]? = some Try.f43
  t0 : P.underlying 0 = some (TypeDesc.tuple #[])
  a0 : ∀ w, Sem.run P (isAgg 0) w = .ok false w
  z0 : ∀ w, Sem.run P (Go.sizeOf 0) w = .ok 1 w
  v0 : ∀ w, Sem.run P (zeroValue 0) w = .ok (Value.tuple #[]) w
  t3 : P.underlying 3 = some (TypeDesc.int IntKind.i64)
  a3 : ∀ w, Sem.run P (isAgg 3) w = .ok false w
  z3 : ∀ w, Sem.run P (Go.sizeOf 3) w = .ok 1 w
  v3 : ∀ w, Sem.run P (zeroValue 3) w = .ok (Value.int IntKind.i64 0) w
  tu : P.underlying 86 = some (TypeDesc.int IntKind.u64)
  au : ∀ w, Sem.run P (isAgg 86) w = .ok false w
  zu : ∀ w, Sem.run P (Go.sizeOf 86) w = .ok 1 w
  vu : ∀ w, Sem.run P (zeroValue 86) w = .ok (Value.int IntKind.u64 0) w
  t4 : P.underlying 4 = some (TypeDesc.bool)
  a4 : ∀ w, Sem.run P (isAgg 4) w = .ok false w
  z4 : ∀ w, Sem.run P (Go.sizeOf 4) w = .ok 1 w
  v4 : ∀ w, Sem.run P (zeroValue 4) w = .ok (Value.bool false) w
  t22 : P.underlying 26 = some (TypeDesc.slice 25)
  a22 : ∀ w, Sem.run P (isAgg 26) w = .ok false w
  z22 : ∀ w, Sem.run P (Go.sizeOf 26) w = .ok 1 w
  v22 : ∀ w, Sem.run P (zeroValue 26) w = .ok (Value.slice none 0 0) w
  t25 : P.underlying 67 = some (TypeDesc.func #[25, 25] #[3] false)
  a25 : ∀ w, Sem.run P (isAgg 67) w = .ok false w
  z25 : ∀ w, Sem.run P (Go.sizeOf 67) w = .ok 1 w
  v25 : ∀ w, Sem.run P (zeroValue 67) w = .ok (Value.nilFunc) w
  aE : ∀ w, Sem.run P (isAgg 25) w = .ok true w
  zE : ∀ w, Sem.run P (Go.sizeOf 25) w = .ok k w

variable {P : Program} {α : Type} [Inhabited α] {k : Nat} {enc : α → List Value}

theorem hide {p : Prop} (h : p) : Hid p := h
/-- What such a call leaves: the row holds T. -/
def Holds' (enc : α → List Value) (k : Nat) (w0 : World) (blk off : Nat) (T : List α) : Ending → World → Prop := fun e w' => e = .returned (.tuple #[]) ∧ ∃ d' : Array α, SWK enc k w0 blk off d' w' ∧ d'.toList = T

set_option maxHeartbeats 4000000 in
set_option maxRecDepth 1000000 in
theorem swapRange_call (L : Sorts P k) (fv : Value) (blk off cap a b n : Nat) (d0 d : Array α) (w0 w : World) (R : RowK enc k w0 blk off d0) (hs : d.size = d0.size) (S : SWK enc k w0 blk off d w)
    (A U C V B : List α) (hd : d.toList = A ++ (U ++ (C ++ (V ++ B)))) (ha : a = A.length) (hU : U.length = n) (hV : V.length = n) (hb : b = a + n + C.length) (hsz : d0.size < 4611686018427387904) :
    Calls P 53 #[.slice (some ⟨blk, off, none⟩) d0.size cap, .int .i64 a, .int .i64 b, .int .i64 n, fv] w (Holds' enc k w0 blk off (A ++ (V ++ (C ++ (U ++ B))))) := by
  have mixed := L.mixed; have t0 := L.t0; have a0 := L.a0; have z0 := L.z0; have v0 := L.v0; have t3 := L.t3; have a3 := L.a3; have z3 := L.z3; have v3 := L.v3; have t4 := L.t4; have a4 := L.a4; have z4 := L.z4; have v4 := L.v4; have t22 := L.t22; have a22 := L.a22; have z22 := L.z22; have v22 := L.v22; have t25 := L.t25; have a25 := L.a25; have z25 := L.z25; have v25 := L.v25
  have aE := L.aE; have zE := L.zE
  have FG := L.fswp
  have S0 : Aside (SWK enc k w0 blk off d w) := S
  have hlen : d.size = A.length + (n + (C.length + (n + B.length))) := by
    have := congrArg List.length hd
    simpa [hU, hV] using this
  have bb : b + n ≤ d0.size := by omega
  have ba : a + n ≤ b := by omega
  have HA : Aside (a = A.length) := ha
  have HU : Aside (U.length = n) := hU
  have HV : Aside (V.length = n) := hV
  have HB : Aside (b = a + n + C.length) := hb
  have HS : Aside (d.size = d0.size) := hs
  have HD : Aside (d.toList = A ++ (V.take 0 ++ (U.drop 0 ++ (C ++ (U.take 0 ++ (V.drop 0 ++ B)))))) := by rw [hd]; rfl
  clear S hlen ha hU hV hb hs hd
  go_enter FG, Try.ntmps53
  go_wp2
  go_loopg [10] n (fun kx s10 wr => ∃ (i : Nat) (dk : Array α), s10 = .int .i64 i ∧ i ≤ n ∧ n - i ≤ kx ∧ Aside (dk.size = d0.size) ∧ Aside (SWK enc k w0 blk off dk wr) ∧ Aside (dk.toList = A ++ (V.take i ++ (U.drop i ++ (C ++ (U.take i ++ (V.drop i ++ B)))))))
  case atStart => exact ⟨0, d, rfl, Nat.zero_le _, by omega, HS, S0, HD⟩
  case round =>
    clear S0 HD
    obtain ⟨i, dk, rfl, hi, hkx, hds, S1, hdk⟩ := hrel
    by_cases hlt : (i : Int) < (n : Int)
    · go_wp2_with fail
      have ea44 : ((a : Int) + (i : Int)).toNat = a + i := by omega
      have pa44 : (0 : Int) ≤ (a : Int) + (i : Int) := by omega
      have ba44 : (a : Int) + (i : Int) < (d0.size : Int) := by omega
      have ra44 : IntKind.i64.wrap ((a : Int) + (i : Int)) = (a : Int) + (i : Int) := by rw [IntKind.wrap_i64]; omega
      have ec44 : ((b : Int) + (i : Int)).toNat = b + i := by omega
      have pc44 : (0 : Int) ≤ (b : Int) + (i : Int) := by omega
      have bc44 : (b : Int) + (i : Int) < (d0.size : Int) := by omega
      have rc44 : IntKind.i64.wrap ((b : Int) + (i : Int)) = (b : Int) + (i : Int) := by rw [IntKind.wrap_i64]; omega
      have hds' : dk.size = d0.size := hds.out
      have S2 : Aside (SWK enc k w0 blk off (swp dk (a + i) (b + i)) ((wr.drew.setCells blk (off + (a + i) * k) (enc dk[b + i]!)).setCells blk (off + (b + i) * k) (enc dk[a + i]!))) := S1.out.swapped R (a + i) (b + i) (by omega) (by omega)
      have l44a := S1.out.ld1 R hds' P (a + i) (by omega)
      have l44b := S1.out.ld1 R hds' P (b + i) (by omega)
      have s44a := S1.out.st1 R hds' P (a + i) (by omega) dk[b + i]!
      have s44b := S1.out.st2 R hds' P (a + i) (b + i) (by omega) (by omega) dk[b + i]! dk[a + i]!
      have n44a : (enc dk[a + i]!).length = k := R.hk _
      have n44b : (enc dk[b + i]!).length = k := R.hk _
      clear hds'
      generalize enc dk[a + i]! = cI44 at S2 l44a s44b n44a
      generalize enc dk[b + i]! = cJ44 at S2 l44b s44a s44b n44b
      clear S1
      go_wp2_with fail
      go_big_region_o
      clear l44a l44b s44a s44b
      generalize (wr.drew.setCells blk (off + (a + i) * k) cJ44).setCells blk (off + (b + i) * k) cI44 = w2 at S2 ⊢
      go_wp2
      go_roundg (n - (i + 1))
      case measure => omega
      case rel =>
        exact ⟨i + 1, swp dk (a + i) (b + i), by go_num, by omega, Nat.le_refl _, (show _ = _ by rw [size_swp]; exact hds.out), S2, swr_step HU.out HV.out (by omega) hdk.out (by rw [HA.out]) (by rw [HB.out, HA.out])⟩
    · have hin : i = n := by omega
      have HI : Aside (i = n) := hin
      clear hin
      go_wp2
      go_end0
      refine ⟨rfl, dk, S1.out, ?_⟩
      rw [hdk.out, HI.out, List.take_of_length_le (by rw [HV.out]; exact Nat.le_refl _), List.drop_of_length_le (by rw [HU.out]; exact Nat.le_refl _), List.take_of_length_le (by rw [HU.out]; exact Nat.le_refl _), List.drop_of_length_le (by rw [HV.out]; exact Nat.le_refl _)]
      rfl

set_option maxHeartbeats 4000000 in
set_option maxRecDepth 1000000 in
theorem rotate_call (L : Sorts P k) (fv : Value) (blk off cap a m b : Nat) (d0 d : Array α) (w0 w : World) (R : RowK enc k w0 blk off d0) (hs : d.size = d0.size) (S : SWK enc k w0 blk off d w)
    (A X Y B : List α) (hd : d.toList = A ++ (X ++ (Y ++ B))) (ha : a = A.length) (hX : m = a + X.length) (hY : b = m + Y.length) (h1 : a < m) (h2 : m < b) (hsz : d0.size < 4611686018427387904) :
    Calls P 51 #[.slice (some ⟨blk, off, none⟩) d0.size cap, .int .i64 a, .int .i64 m, .int .i64 b, fv] w (Holds' enc k w0 blk off (A ++ (Y ++ (X ++ B)))) := by
  have mixed := L.mixed; have t0 := L.t0; have a0 := L.a0; have z0 := L.z0; have v0 := L.v0; have t3 := L.t3; have a3 := L.a3; have z3 := L.z3; have v3 := L.v3; have t4 := L.t4; have a4 := L.a4; have z4 := L.z4; have v4 := L.v4; have t22 := L.t22; have a22 := L.a22; have z22 := L.z22; have v22 := L.v22; have t25 := L.t25; have a25 := L.a25; have z25 := L.z25; have v25 := L.v25
  have FG := L.frot
  have es : ∀ args w, (callFunc 53 args).run P w = .ok (.enter 53 args) w := enters_of L.fswp rfl rfl
  have hlen : d.size = A.length + (X.length + (Y.length + B.length)) := by
    have := congrArg List.length hd
    simpa using this
  have bb : b ≤ d0.size := by omega
  have S0 : Aside (SWK enc k w0 blk off d w) := S
  have HS : Aside (d.size = d0.size) := hs
  have HRot : Aside (Rot d (A ++ (Y ++ (X ++ B))) m (m - a) (b - m)) := ⟨A, X, Y, B, hd, by omega, by omega, by omega, rfl⟩
  have HT : Hid ((A ++ (Y ++ (X ++ B))).length = d0.size) := hide (by simp; omega)
  generalize A ++ (Y ++ (X ++ B)) = T at HRot HT ⊢
  clear S hlen ha hX hY hs hd
  go_enter FG, Try.ntmps51
  go_wp2
  go_loopg [10, 11] (b - a) (fun kx s10 s11 wr => ∃ (i j : Nat) (dk : Array α), s10 = .int .i64 i ∧ s11 = .int .i64 j ∧ 0 < i ∧ 0 < j ∧ i ≤ m ∧ m + j ≤ b ∧ i + j ≤ kx ∧ Aside (dk.size = d0.size) ∧ Aside (SWK enc k w0 blk off dk wr) ∧ Aside (Rot dk T m i j))
  case atStart => exact ⟨m - a, b - m, d, by first | go_num | (congr 1; omega), by first | go_num | (congr 1; omega), by omega, by omega, by omega, by omega, by omega, HS, S0, HRot⟩
  case round =>
    clear S0 HRot HS
    obtain ⟨i, j, dk, rfl, rfl, hi, hj, him, hjb, hkx, hds, S1, hR⟩ := hrel
    rcases Nat.lt_trichotomy i j with hlt | heq | hgt
    · obtain ⟨A1, U1, C1, V1, B1, q1, q2, q3, q4, q5, q6, q7⟩ := hR.out.less hlt
      have HC := swapRange_call (enc := enc) L fv blk off cap (m - i) (m + j - i) i d0 dk w0 wr R hds.out S1.out A1 U1 C1 V1 B1 q1 q2.symm q3 q4 (by omega) hsz
      rw [show ((m - i : Nat) : Int) = (m : Int) - (i : Int) by omega, show ((m + j - i : Nat) : Int) = (m : Int) + (j : Int) - (i : Int) by omega] at HC
      have n1 : ((i : Int) != (j : Int)) = true := by rw [bne_iff_ne]; omega
      have n2 : ¬ (j : Int) < (i : Int) := by omega
      have n3 : decide ((j : Int) < (i : Int)) = false := decide_eq_false n2
      have HQ := hide q7
      have HCC := hide HC
      clear q1 q2 q3 q4 q5 q6 q7 HC hR S1
      go_wp2_with (go_at_fn 53; refine (Hid.out HCC).mono ?_; rintro e w1 ⟨rfl, d1, S2, hd1⟩; have S3 := hide S2; have HD := hide hd1; clear S2 hd1 HCC)
      go_roundg (i + (j - i))
      case measure => omega
      case rel => exact ⟨i, j - i, d1, rfl, by first | go_num | (congr 1; omega), hi, by omega, him, by omega, Nat.le_refl _, Rot.sz (HQ.out d1 HD.out) HT.out, S3.out, HQ.out d1 HD.out⟩
    · subst heq
      obtain ⟨A1, U1, V1, B1, q1, q2, q3, q4, q5, q6, q7⟩ := hR.out.eq
      have HC := swapRange_call (enc := enc) L fv blk off cap (m - i) m i d0 dk w0 wr R hds.out S1.out A1 U1 [] V1 B1 q1 q2.symm q3 q4 (by simp; omega) hsz
      rw [show ((m - i : Nat) : Int) = (m : Int) - (i : Int) by omega, ← q7] at HC
      have n1 : ((i : Int) != (i : Int)) = false := by simp
      have HCC := hide HC
      clear q1 q2 q3 q4 q5 q6 q7 HC hR S1
      go_wp2_with (go_at_fn 53; refine (Hid.out HCC).mono ?_; rintro e w1 ⟨rfl, d1, S2, hd1⟩; have S3 := hide S2; have HD := hide hd1; clear S2 hd1 HCC)
      go_end0
      exact ⟨rfl, d1, S3.out, HD.out⟩
    · obtain ⟨A1, U1, C1, V1, B1, q1, q2, q3, q4, q5, q6, q7⟩ := hR.out.gt hgt
      have HC := swapRange_call (enc := enc) L fv blk off cap (m - i) m j d0 dk w0 wr R hds.out S1.out A1 U1 C1 V1 B1 q1 q2.symm q3 q4 (by omega) hsz
      rw [show ((m - i : Nat) : Int) = (m : Int) - (i : Int) by omega] at HC
      have n1 : ((i : Int) != (j : Int)) = true := by rw [bne_iff_ne]; omega
      have n2 : (j : Int) < (i : Int) := by omega
      have n3 : decide ((j : Int) < (i : Int)) = true := decide_eq_true n2
      have HQ := hide q7
      have HCC := hide HC
      clear q1 q2 q3 q4 q5 q6 q7 HC hR S1
      go_wp2_with (go_at_fn 53; refine (Hid.out HCC).mono ?_; rintro e w1 ⟨rfl, d1, S2, hd1⟩; have S3 := hide S2; have HD := hide hd1; clear S2 hd1 HCC)
      go_roundg ((i - j) + j)
      case measure => omega
      case rel => exact ⟨i - j, j, d1, by first | go_num | (congr 1; omega), rfl, by omega, hj, by omega, hjb, Nat.le_refl _, Rot.sz (HQ.out d1 HD.out) HT.out, S3.out, HQ.out d1 HD.out⟩
end Go.Proofs.Ytkhdghlgkljdgaa.SortW
