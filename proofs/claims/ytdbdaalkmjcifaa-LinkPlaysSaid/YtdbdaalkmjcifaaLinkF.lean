/- The contract of link's All. No law is proved here. -/
import Derived.Test.YtdbdaalkmjcifaaLinkB
set_option linter.unusedVariables false
set_option linter.unusedSimpArgs false
namespace Go.Proofs.Ytdbdaalkmjcifaa.Link
open Go.Proofs Go.RowKit Go.Sort Go.Proofs.Ytdbdaalkmjcifaa.Types Go.Proofs.Ytdbdaalkmjcifaa.Heap Go.Proofs.Ytdbdaalkmjcifaa.Row Go.Proofs.YtdbdaalkmjcifaaW.PrintWords Go.Proofs.YtdbdaalkmjcifaaW.PrintLast Go.Proofs.YtdbdaalkmjcifaaW.PrintMore
set_option maxHeartbeats 4000000 in
set_option maxRecDepth 100000 in
theorem all_call (w : World) (base p : Nat) (L : Lk) (most : Int) (A : Option Addr) (c : Nat) (l : List Pc) (h : WayAt tW w base p L most (.slice A l.length c) l) (hm : most ≠ 0) (hl : l.length * 64 ≤ 140737488355328) :
    Calls Try.prog 18 #[.pointer (some ⟨p, 0, none⟩)] w fun e w' => ∃ A' c', e = .returned (.slice A' l.length c') ∧ OwnP w' w.heap.size (.slice A' l.length c') l ∧ Below w.heap.size w w' := by
  have c5 := h.c5
  have HN := hide (none_call w base p L most _ l h hm)
  have HW := hide h
  have HL := hide hl
  obtain ⟨A', c', hv, hlc, hC, _⟩ := h.own.reads flatP rfl k35_mk
  cases hv
  have HC := hide hC
  clear h hl hC hlc
  go_enter Try.func18, Try.ntmps18
  have HE : Hid (OwnP w w.heap.size (.slice none 0 0) []) := hide (Own.nil _ _ _ _ _)
  go_wp2_with (first
    | (go_at_call 27; refine (unhide HN).mono ?_; rintro e w' ⟨rfl, rfl⟩)
    | ((with_reducible refine gate_builtin (b := .append) (xs := #[.const (.slice none 0 0), .tmp 8]) rfl ?_); at_builtin; refine wp_append flatP rfl k35_open rfl (.const (.slice none 0 0)) (.tmp 8) 50 rfl zP 64 Try.underlying50 infoP rfl _ rfl HE.out _ _ _ l rfl HC.out (by omega) ?aL (Nat.le_refl _) ?_; (case aL => have := HL.out; simpa using this); rintro v' w5 ho hg))
  have ho' : OwnP w5 w.heap.size v' l := ho
  obtain ⟨A', c', hv, _, _⟩ := ho'.slice
  subst hv
  have hb : Below w.heap.size w w5 := (only_of_grown (S := fun _ => False) hg (fun i e => by have e' : (none : Option Nat) = some i := e; cases e')).below (Nat.le_refl _) (fun _ h => h.elim)
  go_ret
  exact ⟨A', c', rfl, ho', hb⟩
end Go.Proofs.Ytdbdaalkmjcifaa.Link
