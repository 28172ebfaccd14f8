/- The contract of slices' stable sort, at elements of k cells. No law is proved here. -/
import Derived.Test.YtkhdghlgkljdgaaSortSym
set_option linter.unusedVariables false
set_option linter.unusedSimpArgs false
set_option linter.unusedSectionVars false
namespace Go.Proofs.Ytkhdghlgkljdgaa.SortW
open Go.Proofs Go.Shelf Go.RowKit Go.Lib Go.Sort Go.Proofs.Ytkhdghlgkljdgaa.SortPure
variable {P : Program} {α : Type} [Inhabited α] {k : Nat} {enc : α → List Value}

theorem sym_all (L : Sorts P k) (cf : α → α → Int) (W : Weak (ltOf cf)) (g : Nat) (cb : Array Value) (eg : ∀ args w, (callFunc g args).run P w = .ok (.enter g args) w)
    (blk off cap : Nat) (d0 : Array α) (w0 : World) (hcmp : CmpLays P g cb enc k cf blk off d0.size w0) (R : RowK enc k w0 blk off d0) (hsz : d0.size < 1152921504606846976) :
    ∀ N a m b, b - a ≤ N → SymOk P k enc cf g cb blk off cap d0 w0 a m b := by
  intro N
  induction N with
  | zero => intro a m b h d w A X Y B hs S hd hX hY ha hm hb h1 h2; omega
  | succ N ih =>
    intro a m b h d w A X Y B hs S hd hX hY ha hm hb h1 h2
    by_cases c1 : m = a + 1
    · obtain ⟨x, rfl⟩ : ∃ x, X = [x] := List.length_eq_one_iff.1 (by omega)
      exact sym_left L cf W g cb eg blk off cap a m b d0 d w0 w hcmp R hs S A Y B x hd hY ha c1 hb (by omega)
    · by_cases c2 : b = m + 1
      · obtain ⟨y, rfl⟩ : ∃ y, Y = [y] := List.length_eq_one_iff.1 (by omega)
        exact sym_right L cf W g cb eg blk off cap a m b d0 d w0 w hcmp R hs S A X B y hd hX ha hm c2 (by omega) (by omega)
      · by_cases c3 : (a + b) / 2 < m
        · exact sym_gen L cf W g cb eg blk off cap a m b _ _ _ _ d0 d w0 w hcmp R hs S (fun a' m' b' h' => ih a' m' b' (by omega)) A X Y B hd hX hY ha hm hb (by omega) (by omega) hsz rfl rfl (.inl ⟨c3, rfl, rfl⟩)
        · exact sym_gen L cf W g cb eg blk off cap a m b _ _ _ _ d0 d w0 w hcmp R hs S (fun a' m' b' h' => ih a' m' b' (by omega)) A X Y B hd hX hY ha hm hb (by omega) (by omega) hsz rfl rfl (.inr ⟨by omega, rfl, rfl⟩)

theorem size_ins {lt : α → α → Bool} (d : Array α) (a b : Nat) (hab : a ≤ b) (hb : b ≤ d.size) : (Sort.insertionSort lt d a b).size = d.size := by
  have hd : d.toList = d.toList.take a ++ ((d.toList.drop a).take (b - a) ++ (d.toList.drop a).drop (b - a)) := by rw [List.take_append_drop, List.take_append_drop]
  have := insertionSort_list (lt := lt) _ _ _ d hd (a := a) (b := b) (by simp; omega) (by simp; omega)
  have h2 := congrArg List.length this
  simp [length_isort] at h2
  omega

theorem ins_call {ρ : Ren} (L : SlLaysF0.n20 P ρ) (aE : ∀ w, (isAgg (ρ.t 24)).run P w = .ok true w) (zE : ∀ w, (Go.sizeOf (ρ.t 24)).run P w = .ok k w) (cf : α → α → Int) (g : Nat) (cb : Array Value) (eg : ∀ args w, (callFunc g args).run P w = .ok (.enter g args) w)
    (blk off cap a b : Nat) (d0 d : Array α) (w0 w : World) (hcmp : CmpLays P g cb enc k cf blk off d0.size w0) (R : RowK enc k w0 blk off d0) (hs : d.size = d0.size) (S : SWK enc k w0 blk off d w) (hab : a ≤ b) (hb : b ≤ d0.size) (hsz : d0.size < 4611686018427387904) :
    Calls P (ρ.f 20) #[.slice (some ⟨blk, off, none⟩) d0.size cap, .int .i64 a, .int .i64 b, .func (.func g) #[] cb] w fun e w' => e = .returned (.tuple #[]) ∧ SWK enc k w0 blk off (Sort.insertionSort (ltOf cf) d a b) w' := by
  have hs' : (Sort.insertionSort (ltOf cf) d a b).size = d.size := size_ins d a b hab (by omega)
  have hC : CmpLays P g cb enc k cf blk off d.size w := fun m os dk hdk x y => by
    obtain ⟨n0, os0, rfl⟩ := S
    rw [sortWorldK_on enc k w0 blk off n0 m d dk os0 os R.hblk hdk]
    exact hcmp _ _ dk (by omega) x y
  rw [← hs]
  refine (AnyQ.insertionSortCmpFunc L k aE zE enc R.hk R.h1 cf g cb blk off cap a b d w eg hC (S.holds R.hblk R.hH hs) (S.lt R.hblk) hab (by omega) (by omega)).mono ?_
  rintro e w' ⟨rfl, n, os, rfl⟩
  exact ⟨rfl, S.on R.hblk n _ os hs'⟩

set_option maxHeartbeats 16000000 in
set_option maxRecDepth 1000000 in
theorem stable_call {ρ : Ren} (Li : SlLaysF0.n20 P ρ) (hρ : ρ.f 20 = 47) (hρt : ρ.t 24 = 25) (L : Sorts P k) (cf : α → α → Int) (W : Weak (ltOf cf)) (g : Nat) (cb : Array Value) (eg : ∀ args w, (callFunc g args).run P w = .ok (.enter g args) w)
    (blk off cap n : Nat) (d0 : Array α) (w0 : World) (hn : n = d0.size) (hcmp : CmpLays P g cb enc k cf blk off d0.size w0) (R : RowK enc k w0 blk off d0) (hsz : d0.size < 1152921504606846976) :
    Calls P 43 #[.slice (some ⟨blk, off, none⟩) d0.size cap, .int .i64 n, .func (.func g) #[] cb] w0 (Holds' enc k w0 blk off (isort (ltOf cf) d0.toList)) := by
  have mixed := L.mixed; have t0 := L.t0; have a0 := L.a0; have z0 := L.z0; have v0 := L.v0; have t3 := L.t3; have a3 := L.a3; have z3 := L.z3; have v3 := L.v3; have t4 := L.t4; have a4 := L.a4; have z4 := L.z4; have v4 := L.v4; have t22 := L.t22; have a22 := L.a22; have z22 := L.z22; have v22 := L.v22; have t25 := L.t25; have a25 := L.a25; have z25 := L.z25; have v25 := L.v25
  have FG := L.fsta
  have esym : ∀ args w, (callFunc 48 args).run P w = .ok (.enter 48 args) w := enters_of L.fsym rfl rfl
  have eins : ∀ args w, (callFunc 47 args).run P w = .ok (.enter 47 args) w := enters_of L.fins rfl rfl
  have HSym := hide (sym_all L cf W g cb eg blk off cap d0 w0 hcmp R hsz)
  have HIns : Hid (∀ (a b : Nat) (d : Array α) (w : World), d.size = d0.size → SWK enc k w0 blk off d w → a ≤ b → b ≤ d0.size → Calls P 47 #[.slice (some ⟨blk, off, none⟩) d0.size cap, .int .i64 a, .int .i64 b, .func (.func g) #[] cb] w fun e w' => e = .returned (.tuple #[]) ∧ SWK enc k w0 blk off (Sort.insertionSort (ltOf cf) d a b) w') := hide (fun a b d w hs S hab hb => by
    rw [← hρ]
    exact ins_call Li (by rw [hρt]; exact L.aE) (by rw [hρt]; exact L.zE) cf g cb eg blk off cap a b d0 d w0 w hcmp R hs S hab hb (by omega))
  have HN := hide hn
  have nb : n < 1152921504606846976 := by omega
  have HL : Hid (d0.toList.length = n) := hide (by simp [hn])
  have S0 := hide (SWK.start R.hH)
  have HP0 := hide (pass1_start (lt := ltOf cf) d0 20)
  clear hcmp hn hsz
  obtain ⟨T, hT⟩ : ∃ T, d0.toList = T := ⟨_, rfl⟩
  rw [hT] at HP0 HL ⊢
  clear hT
  go_enter FG, Try.ntmps43
  go_wp2
  go_loopg [7, 8] n (fun kx s7 s8 wr => ∃ (a : Nat) (dk : Array α), s7 = .int .i64 a ∧ s8 = .int .i64 ((a : Int) + 20) ∧ a ≤ n ∧ n - a ≤ kx ∧ Hid (dk.size = d0.size) ∧ Hid (SWK enc k w0 blk off dk wr) ∧ Hid (Pass1 (ltOf cf) T 20 a dk))
  case atStart => exact ⟨0, d0, rfl, rfl, Nat.zero_le _, Nat.le_refl _, hide rfl, S0, HP0⟩
  case round =>
    clear S0 HP0
    obtain ⟨a, dk, rfl, rfl, han, hkx, hds, S1, HP⟩ := hrel
    by_cases hlt : a + 20 ≤ n
    · have hltz : (a : Int) + 20 ≤ (n : Int) := by omega
      have HC := HIns.out a (a + 20) dk wr hds.out S1.out (by omega) (by rw [← HN.out]; exact hlt)
      rw [show ((a + 20 : Nat) : Int) = (a : Int) + 20 by omega] at HC
      have HCC := hide HC
      clear HC
      go_wp2_with (go_at_fn 47; refine (Hid.out HCC).mono ?_; rintro e w1 ⟨rfl, S2⟩; have S3 := hide S2; clear S2 HCC)
      go_roundg (n - (a + 20))
      case measure => omega
      case rel => exact ⟨a + 20, _, by first | go_num | rfl, by first | go_num | (congr 1; omega), hlt, Nat.le_refl _, hide (by rw [size_ins _ _ _ (by omega) (by rw [hds.out, ← HN.out]; exact hlt)]; exact hds.out), S3, hide (HP.out.step (by omega) rfl (by rw [HL.out]; exact hlt))⟩
    · have hltz : ¬ (a : Int) + 20 ≤ (n : Int) := by omega
      have HCC := hide (HIns.out a n dk wr hds.out S1.out han (by rw [← HN.out]; exact Nat.le_refl _))
      have HE := hide (HP.out.last HL.out.symm (by omega))
      have HS2 : Hid ((Sort.insertionSort (ltOf cf) dk a n).size = d0.size) := hide (by rw [size_ins _ _ _ han (by rw [hds.out, ← HN.out]; exact Nat.le_refl _)]; exact hds.out)
      go_wp2_with (go_at_fn 47; refine (Hid.out HCC).mono ?_; rintro e w1 ⟨rfl, S2⟩; have S3 := hide S2; clear S2 HCC)
      generalize Sort.insertionSort (ltOf cf) dk a n = d1 at S3 HE HS2
      clear S1 HP hds hlt hltz han hkx
      go_loopg [6] n (fun kx s6 wr => ∃ (bs : Nat) (dk : Array α), s6 = .int .i64 bs ∧ 0 < bs ∧ bs ≤ 2 * n + 20 ∧ n - bs ≤ kx ∧ Hid (dk.size = d0.size) ∧ Hid (SWK enc k w0 blk off dk wr) ∧ Hid (dk.toList = blocks (ltOf cf) bs T))
      case atStart => exact ⟨20, d1, rfl, by omega, by omega, by omega, HS2, S3, HE⟩
      case round =>
        clear S3 HS2 HE
        obtain ⟨bs, d2, rfl, hb0, hbn, hkb, hds, S1, HP⟩ := hrel
        by_cases hlb : bs < n
        · have hltz : (bs : Int) < (n : Int) := by omega
          have HP0 := hide (pass2_start HP.out)
          clear HP
          go_wp2_with fail
          obtain ⟨wo, hwo⟩ : ∃ wo : World, wo = wr := ⟨_, rfl⟩
          subst hwo
          go_loopg [7, 8] n (fun kx s7 s8 wr => ∃ (a : Nat) (dk : Array α), s7 = .int .i64 a ∧ s8 = .int .i64 ((a : Int) + 2 * (bs : Int)) ∧ a ≤ n ∧ n - a ≤ kx ∧ Hid (dk.size = d0.size) ∧ Hid (SWK enc k w0 blk off dk wr) ∧ Hid (Pass2 (ltOf cf) T bs a dk))
          case atStart => exact ⟨0, d2, rfl, by congr 1; omega, Nat.zero_le _, by omega, hds, S1, HP0⟩
          case round =>
            clear S1 HP0 hds
            obtain ⟨a, dk, rfl, rfl, han, hkx, hds, S1, HP⟩ := hrel
            by_cases hlt : a + 2 * bs ≤ n
            · have hltz2 : (a : Int) + 2 * (bs : Int) ≤ (n : Int) := by omega
              obtain ⟨A, X, Y, B, q1, q2, q3, q4, q5, q6, q7⟩ := HP.out.go W hb0 (by rw [HL.out]; exact hlt)
              have HC := HSym.out _ a (a + bs) (a + 2 * bs) (Nat.le_refl _) dk wr A X Y B hds.out S1.out q1 q5 q6 q2.symm (by omega) (by omega) (by omega) (by omega)
              rw [show ((a + 2 * bs : Nat) : Int) = (a : Int) + 2 * (bs : Int) by omega, show ((a + bs : Nat) : Int) = (a : Int) + (bs : Int) by omega] at HC
              have HCC := hide HC
              have HQ := hide q7
              have HSz : Hid ((A ++ (merge (ltOf cf) X Y ++ B)).length = d0.size) := hide (by
                have := congrArg List.length q1
                rw [← hds.out]
                simp [length_merge] at this ⊢
                omega)
              clear q1 q2 q3 q4 q5 q6 q7 HC S1 HP
              go_wp2_with (go_at_fn 48; refine (Hid.out HCC).mono ?_; rintro e w1 ⟨rfl, d3, S2, hd3⟩; have S3 := hide S2; have HD3 := hide hd3; clear S2 hd3 HCC)
              go_roundg (n - (a + 2 * bs))
              case measure => omega
              case rel => exact ⟨a + 2 * bs, d3, by first | rfl | (congr 1; omega), by (congr 1 <;> omega), hlt, Nat.le_refl _, hide (sz_of HD3.out HSz.out), S3, hide (HQ.out d3 HD3.out)⟩
            · have hltz2 : ¬ (a : Int) + 2 * (bs : Int) ≤ (n : Int) := by omega
              by_cases hm : a + bs < n
              · have hmz : (a : Int) + (bs : Int) < (n : Int) := by omega
                obtain ⟨A, X, Y, B, q1, q2, q3, q4, q5, q6, q7⟩ := HP.out.rest W hb0 (by rw [HL.out]; omega) (by rw [HL.out]; exact hm)
                have HC := HSym.out _ a (a + bs) n (Nat.le_refl _) dk wr A X Y B hds.out S1.out q1 q5 q6 q2.symm (by omega) (by rw [q4, HL.out]; omega) (by omega) (by omega)
                rw [show ((a + bs : Nat) : Int) = (a : Int) + (bs : Int) by omega] at HC
                have HCC := hide HC
                have HQ := hide q7
                have HSz : Hid ((A ++ (merge (ltOf cf) X Y ++ B)).length = d0.size) := hide (by
                  have := congrArg List.length q1
                  rw [← hds.out]
                  simp [length_merge] at this ⊢
                  omega)
                clear q1 q2 q3 q4 q5 q6 q7 HC S1 HP
                go_wp2_with (go_at_fn 48; refine (Hid.out HCC).mono ?_; rintro e w1 ⟨rfl, d3, S2, hd3⟩; have S3 := hide S2; have HD3 := hide hd3; clear S2 hd3 HCC)
                go_roundg (n - 2 * bs)
                case measure => omega
                case rel => exact ⟨2 * bs, d3, by congr 1; omega, by omega, by omega, Nat.le_refl _, hide (sz_of HD3.out HSz.out), S3, hide (HQ.out d3 HD3.out)⟩
              · have hmz : ¬ (a : Int) + (bs : Int) < (n : Int) := by omega
                have HQ := hide (HP.out.last (by rw [HL.out]; omega))
                go_wp2
                go_roundg (n - 2 * bs)
                case measure => omega
                case rel => exact ⟨2 * bs, dk, by congr 1; omega, by omega, by omega, Nat.le_refl _, hds, S1, HQ⟩
        · have hltz : ¬ (bs : Int) < (n : Int) := by omega
          have HLb : Hid (T.length ≤ bs) := hide (by rw [HL.out]; omega)
          go_wp2
          go_end0
          exact ⟨rfl, d2, S1.out, by rw [HP.out, blocks_le _ _ HLb.out]⟩
end Go.Proofs.Ytkhdghlgkljdgaa.SortW
