/- Messages with their places for numbers. No law is proved here. -/
import Derived.Test.YtkhdghlgkljdgaaLO
namespace Go.Proofs.Ytkhdghlgkljdgaa.LQ
open Go.Proofs Go.Shelf Go.RowKit Go.Deep Go.Sort Go.Proofs.Ytkhdghlgkljdgaa.SortPure Go.Proofs.Ytkhdghlgkljdgaa.Types Go.Proofs.Ytkhdghlgkljdgaa.Heap Go.Proofs.Ytkhdghlgkljdgaa.Row Go.Proofs.Ytkhdghlgkljdgaa.Ord Go.Proofs.Ytkhdghlgkljdgaa.Sorted
set_option linter.unusedVariables false
set_option linter.unusedSimpArgs false
def retag (i : Nat) (m : M) : M := ⟨m.f0, m.f1, m.f2, (i : Int), m.f4⟩
/-- The messages with their places for numbers. -/
def tag (l : List M) : List M := l.mapIdx retag
theorem tag_take (l : List M) (k : Nat) (hk : k < l.length) : (tag l).take (k + 1) = (tag l).take k ++ [retag k l[k]] := by
  have h : k < (tag l).length := by simpa [tag] using hk
  rw [List.take_succ_eq_append_getElem h]
  simp [tag]
theorem tag_get (l : List M) (k : Nat) (h : k < (tag l).length) : ((tag l)[k]).f3 = (k : Int) := by
  simp [tag, retag]
end Go.Proofs.Ytkhdghlgkljdgaa.LQ
