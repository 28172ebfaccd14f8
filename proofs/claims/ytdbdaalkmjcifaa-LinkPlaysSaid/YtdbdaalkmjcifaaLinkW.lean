/- What both ways, the program's and the reference's, answer alike. No law is proved here. -/
import Derived.Test.YtdbdaalkmjcifaaLinkT
import Derived.Test.YtdbdaalkmjcifaaLinkU
import Derived.Test.YtdbdaalkmjcifaaLinkV
set_option linter.unusedVariables false
set_option linter.unusedSimpArgs false
namespace Go.Proofs.Ytdbdaalkmjcifaa.Link
open Go.Proofs Go.RowKit Go.Sort Go.Proofs.Ytdbdaalkmjcifaa.Types Go.Proofs.Ytdbdaalkmjcifaa.Heap Go.Proofs.Ytdbdaalkmjcifaa.Row Go.Proofs.YtdbdaalkmjcifaaW.PrintWords Go.Proofs.YtdbdaalkmjcifaaW.PrintLast Go.Proofs.YtdbdaalkmjcifaaW.PrintMore
theorem WayAt.lower {t : Nat} {w : World} {base base' p : Nat} {L : Lk} {most : Int} {v : Value} {l : List Pc} (h : WayAt t w base p L most v l) (hb : base' ≤ base) : WayAt t w base' p L most v l := ⟨h.blk, h.own.lower hb, h.ne⟩
theorem other {t t' : Nat} {w w' : World} {b p q : Nat} {L L' : Lk} {m m' : Int} {v v' v1 : Value} {l l' : List Pc} (ht : t ≠ t') (h1 : 35 ≠ t) (h2 : 35 ≠ t') (HW : WayAt t w b p L m v l) (HV : WayAt t' w b q L' m' v' l')
    (hap : ∀ i, v.ownBlock = some i → v'.ownBlock ≠ some i) (hO : Only w w' (fun i => i = p ∨ some i = v.ownBlock)) (hOb : ∀ i, v1.ownBlock = some i → some i = v.ownBlock ∨ w.heap.size ≤ i) :
    WayAt t' w' b q L' m' v' l' ∧ (∀ i, v1.ownBlock = some i → v'.ownBlock ≠ some i) := by
  refine ⟨HV.only hO (fun q1 => ?_) (fun i hi q1 => ?_), fun i hi e => ?_⟩
  · rcases q1 with q1 | q1
    · exact Blk.ne_ HW.blk HV.blk ht q1.symm
    · exact own_blk_ne HW.own HV.blk h2 q1.symm
  · rcases q1 with q1 | q1
    · exact own_blk_ne HV.own HW.blk h1 (q1 ▸ hi)
    · exact hap i q1.symm hi
  · rcases hOb i hi with g | g
    · exact hap i g.symm e
    · have := (HV.own.blk i e).2
      omega
theorem below_way {t : Nat} {w0 w w' : World} {b p : Nat} {L : Lk} {m : Int} {v : Value} {l : List Pc} (HB : Below w0.heap.size w0 w) (HW : WayAt t w b p L m v l) (hb : b = w0.heap.size) (hp : w0.heap.size ≤ p) (hO : Only w w' (fun i => i = p ∨ some i = v.ownBlock)) : Below w0.heap.size w0 w' :=
  HB.trans (hO.below HB.size (fun i hi => by
    rcases hi with e | e
    · rw [e]; exact hp
    · have := (HW.own.blk i e.symm).1
      omega))
section
variable (L : Lk) (most : Int) (l : List Pc)
theorem put_both (x : Pc) (hm : 1 ≤ most) (hm2 : most ≤ 1024) (hl : (l.length + 1) * 64 ≤ 140737488355328) : ∃ (r : Int) (l' : List Pc), l'.length ≤ l.length + 1 ∧
    (∀ W b p A c, WayAt tW W b p L most (.slice A l.length c) l → b ≤ W.heap.size → Calls Try.prog 10 #[.pointer (some ⟨p, 0, none⟩), .agg (c35 x).toArray] W (Left tW W b p L most (.slice A l.length c) l' (.int .i64 r))) ∧
    (∀ W b p A c, WayAt tR W b p L most (.slice A l.length c) l → b ≤ W.heap.size → Calls Try.prog 20 #[.pointer (some ⟨p, 0, none⟩), .agg (c35 x).toArray] W (Left tR W b p L most (.slice A l.length c) l' (.int .i64 r))) := by
  obtain ⟨⟨xk, xto, xval, xuid, xan⟩, xcol⟩ := x
  cases hmay : may ⟨xk, xto, xval, xuid, xan⟩
  · exact ⟨1, l, by omega, fun W b p A c h hb => put_arg W b p L most A c l _ h hm (.inl hmay), fun W b p A c h hb => rput_arg_a W b p L most A c l xk xto xval xuid xan xcol h hmay⟩
  · by_cases h1 : xk.f1 = L.f0
    · have b1 : (xk.f1 != L.f0) = false := by rw [h1]; simp
      by_cases h2 : xto = L.f1
      · have b2 : (xto != L.f1) = false := by rw [h2]; simp
        cases xan
        · by_cases h3 : most ≤ (l.length : Int)
          · exact ⟨9, l, by omega, fun W b p A c h hb => put_full W b p L most A c l _ h hm hm2 (by omega) hmay h1 h2 rfl (by unfold room; rw [if_neg (by omega)]), fun W b p A c h hb => rput_full W b p L most A c l xk xto xval xuid xcol h hmay b1 b2 h3 (by omega)⟩
          · exact ⟨0, l ++ [_], by simp, fun W b p A c h hb => put_ok W b p L most A c l _ h hm hm2 hl hb hmay h1 h2 (.inr (by unfold room; rw [if_pos (by omega)]; omega)), fun W b p A c h hb => rput_ok_false W b p L most A c l xk xto xval xuid xcol h hmay b1 b2 h3 hl hb⟩
        · exact ⟨0, l ++ [_], by simp, fun W b p A c h hb => put_ok W b p L most A c l _ h hm hm2 hl hb hmay h1 h2 (.inl rfl), fun W b p A c h hb => rput_ok_true W b p L most A c l xk xto xval xuid xcol h hmay b1 b2 hl hb⟩
      · have b2 : (xto != L.f1) = true := by simpa using h2
        exact ⟨1, l, by omega, fun W b p A c h hb => put_arg W b p L most A c l _ h hm (.inr (.inr h2)), fun W b p A c h hb => rput_arg_c W b p L most A c l xk xto xval xuid xan xcol h hmay b1 b2⟩
    · have b1 : (xk.f1 != L.f0) = true := by simpa using h1
      exact ⟨1, l, by omega, fun W b p A c h hb => put_arg W b p L most A c l _ h hm (.inr (.inl h1)), fun W b p A c h hb => rput_arg_b W b p L most A c l xk xto xval xuid xan xcol h hmay b1⟩
theorem peek_both (n : Int) (hm : most ≠ 0) (hl : l.length ≤ 4398046511104) : ∃ (x : Pc) (r : Int),
    (∀ W b p A c, WayAt tW W b p L most (.slice A l.length c) l → Calls Try.prog 16 #[.pointer (some ⟨p, 0, none⟩), .int .i64 n] W fun e w' => e = .returned (.tuple #[.agg (c35 x).toArray, .int .i64 r]) ∧ Below W.heap.size W w') ∧
    (∀ W b p A c, WayAt tR W b p L most (.slice A l.length c) l → Calls Try.prog 21 #[.pointer (some ⟨p, 0, none⟩), .int .i64 n] W fun e w' => e = .returned (.tuple #[.agg (c35 x).toArray, .int .i64 r]) ∧ Below W.heap.size W w') := by
  rcases Nat.eq_zero_or_pos l.length with h0 | h0
  · obtain rfl : l = [] := List.eq_nil_of_length_eq_zero h0
    exact ⟨z35, 6, fun W b p A c h => peek_none W b p L most A c n h hm, fun W b p A c h => rpeek_none W b p L most A c n h⟩
  · obtain ⟨j, hj, hp⟩ := plc_spec L n l.length h0
    exact ⟨l[j], 0, fun W b p A c h => peek_call W b p L most A c l n h hm hl j hj hp, fun W b p A c h => rpeek_call W b p L most A c l n h hl j l[j] (List.getElem?_eq_getElem hj) hp⟩
theorem take_both (n : Int) (hm : most ≠ 0) (hl : l.length * 64 ≤ 140737488355328) : ∃ (x : Pc) (r : Int) (l' : List Pc), l'.length ≤ l.length ∧
    (∀ W b p A c, WayAt tW W b p L most (.slice A l.length c) l → b ≤ W.heap.size → Calls Try.prog 17 #[.pointer (some ⟨p, 0, none⟩), .int .i64 n] W (Left tW W b p L most (.slice A l.length c) l' (.tuple #[.agg (c35 x).toArray, .int .i64 r]))) ∧
    (∀ W b p A c, WayAt tR W b p L most (.slice A l.length c) l → b ≤ W.heap.size → Calls Try.prog 22 #[.pointer (some ⟨p, 0, none⟩), .int .i64 n] W (Left tR W b p L most (.slice A l.length c) l' (.tuple #[.agg (c35 x).toArray, .int .i64 r]))) := by
  rcases Nat.eq_zero_or_pos l.length with h0 | h0
  · obtain rfl : l = [] := List.eq_nil_of_length_eq_zero h0
    refine ⟨z35, 6, [], Nat.le_refl _, fun W b p A c h hb => (take_none W b p L most A c n h hm).mono ?_, fun W b p A c h hb => (rtake_none W b p L most A c n h).mono ?_⟩
    · rintro e w' ⟨rfl, hb'⟩
      exact left_same h hb'
    · rintro e w' ⟨rfl, hb'⟩
      exact left_same h hb'
  · obtain ⟨j, hj, hp⟩ := plc_spec L n l.length h0
    have hx : l[j]? = some l[j] := List.getElem?_eq_getElem hj
    refine ⟨l[j], 0, l.eraseIdx j, by rw [List.length_eraseIdx]; split <;> omega, fun W b p A c h hb => take_call W b p L most A c l n h hm hb hl j l[j] hx hp, fun W b p A c h hb => rtake_call W b p L most A c l n h hb hl j l[j] hx hp⟩
end
end Go.Proofs.Ytdbdaalkmjcifaa.Link
