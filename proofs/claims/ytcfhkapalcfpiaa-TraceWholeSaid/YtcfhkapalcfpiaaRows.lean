/-
  No cell of these rows narrows 'for every input' (looked for: loops, veiled, ifaces, maps, wideKeys, modest, calm, conditions, laid).
  DERIVED. THE GIVEN ROWS OF THIS SEAT. 8 by the template 'for every input the law returns true; each argument reads behind the call as it read before'; 0 by the template 'total and deterministic' (their statements: YtcfhkapalcfpiaaTotals.lean).
  GIVEN WITH THE SEED: the statements are not yours to turn. If you find one false, say at which input.
  Laid BY PROGRAM, IN A SANDBOX (cutbox-rows.mjs): the forced cells as the released guide's own fill.sh prints them over the translation 98ef615c4c6250fc… (all of the seat's roots in one cut). By AI agents, Wed Nov 11 2026. No macro, syntax, notation, axiom, sorry.
-/
import Derived.Test.YtcfhkapalcfpiaaChecked
import GoSem.Claim
import GoSem.ClaimJoined
import GoSem.ClaimMapViews
import Derived.JoinedTies
import Derived.KernelRfl
namespace Go.Proofs.Ytcfhkapalcfpiaa
/- THE CELL 'sum', in the pinned program and in every row, IS THE sha256 OF THE DUMP (.gsa) THAT YtcfhkapalcfpiaaProg.lean LOADS. Nothing in Lean hashes anything: it is a label: what it is worth is what the hold of that sum in a sandbox is worth. -/
noncomputable def Try.pinned : Pinned := { name := "ytcfhkapalcfpiaa", sum := "98ef615c4c6250fce458c6649fdda2d9b8da265ec7b30dd90d53181e6b9f91b5", checked := Try.checked }
namespace Rows
def none {H : Type} : Left H := { results := [], args := [] }

/-- 'isochronlaw20.TraceDiffers': WHATEVER THE INPUT: true; the input reads as it did. -/
def traceDiffersSpec : ChangeSpec := { name := "traceDiffers", fn := fun _ => fun
  | [d1, d2] => { results := [.lit (.bool true)], args := [d1, d2] }
  | _ => none }
def traceDiffersRow : OpenClaim := { program := "ytcfhkapalcfpiaa", sum := "98ef615c4c6250fce458c6649fdda2d9b8da265ec7b30dd90d53181e6b9f91b5", func := "isochron/isochronlaw20.TraceDiffers", spec := "traceDiffers", apart := false }
def TraceDiffersSaid : Prop := traceDiffersRow.holds Try.pinned (OpenSpec.ofChange traceDiffersSpec)

/-- ITS FALSE NEIGHBOUR: 'it returns false'. Refute it at one input. -/
def traceDiffersWrong : ChangeSpec := { name := "traceDiffers", fn := fun _ => fun
  | [d1, d2] => { results := [.lit (.bool false)], args := [d1, d2] }
  | _ => none }
def TraceDiffersWrongFalsely : Prop := traceDiffersRow.holds Try.pinned (OpenSpec.ofChange traceDiffersWrong)

/-- 'isochronlaw20.TraceProjects': WHATEVER THE INPUT: true; the input reads as it did. -/
def traceProjectsSpec : ChangeSpec := { name := "traceProjects", fn := fun _ => fun
  | [d1, d2] => { results := [.lit (.bool true)], args := [d1, d2] }
  | _ => none }
def traceProjectsRow : OpenClaim := { program := "ytcfhkapalcfpiaa", sum := "98ef615c4c6250fce458c6649fdda2d9b8da265ec7b30dd90d53181e6b9f91b5", func := "isochron/isochronlaw20.TraceProjects", spec := "traceProjects", unfollowed := true, recurses := true, apart := false }
def TraceProjectsSaid : Prop := traceProjectsRow.holds Try.pinned (OpenSpec.ofChange traceProjectsSpec)

/-- ITS FALSE NEIGHBOUR: 'it returns false'. Refute it at one input. -/
def traceProjectsWrong : ChangeSpec := { name := "traceProjects", fn := fun _ => fun
  | [d1, d2] => { results := [.lit (.bool false)], args := [d1, d2] }
  | _ => none }
def TraceProjectsWrongFalsely : Prop := traceProjectsRow.holds Try.pinned (OpenSpec.ofChange traceProjectsWrong)

/-- 'isochronlaw20.TraceLanes': WHATEVER THE INPUT: true; the input reads as it did. -/
def traceLanesSpec : ChangeSpec := { name := "traceLanes", fn := fun _ => fun
  | [d1, d2] => { results := [.lit (.bool true)], args := [d1, d2] }
  | _ => none }
def traceLanesRow : OpenClaim := { program := "ytcfhkapalcfpiaa", sum := "98ef615c4c6250fce458c6649fdda2d9b8da265ec7b30dd90d53181e6b9f91b5", func := "isochron/isochronlaw20.TraceLanes", spec := "traceLanes", unfollowed := true, recurses := true, apart := false }
def TraceLanesSaid : Prop := traceLanesRow.holds Try.pinned (OpenSpec.ofChange traceLanesSpec)

/-- ITS FALSE NEIGHBOUR: 'it returns false'. Refute it at one input. -/
def traceLanesWrong : ChangeSpec := { name := "traceLanes", fn := fun _ => fun
  | [d1, d2] => { results := [.lit (.bool false)], args := [d1, d2] }
  | _ => none }
def TraceLanesWrongFalsely : Prop := traceLanesRow.holds Try.pinned (OpenSpec.ofChange traceLanesWrong)

/-- 'isochronlaw20.TracePairs': WHATEVER THE INPUT: true; the input reads as it did. -/
def tracePairsSpec : ChangeSpec := { name := "tracePairs", fn := fun _ => fun
  | [d1, d2] => { results := [.lit (.bool true)], args := [d1, d2] }
  | _ => none }
def tracePairsRow : OpenClaim := { program := "ytcfhkapalcfpiaa", sum := "98ef615c4c6250fce458c6649fdda2d9b8da265ec7b30dd90d53181e6b9f91b5", func := "isochron/isochronlaw20.TracePairs", spec := "tracePairs", apart := false }
def TracePairsSaid : Prop := tracePairsRow.holds Try.pinned (OpenSpec.ofChange tracePairsSpec)

/-- ITS FALSE NEIGHBOUR: 'it returns false'. Refute it at one input. -/
def tracePairsWrong : ChangeSpec := { name := "tracePairs", fn := fun _ => fun
  | [d1, d2] => { results := [.lit (.bool false)], args := [d1, d2] }
  | _ => none }
def TracePairsWrongFalsely : Prop := tracePairsRow.holds Try.pinned (OpenSpec.ofChange tracePairsWrong)

/-- 'isochronlaw20.TraceBegins': WHATEVER THE INPUT: true; the input reads as it did. -/
def traceBeginsSpec : ChangeSpec := { name := "traceBegins", fn := fun _ => fun
  | [d1, d2, d3] => { results := [.lit (.bool true)], args := [d1, d2, d3] }
  | _ => none }
def traceBeginsRow : OpenClaim := { program := "ytcfhkapalcfpiaa", sum := "98ef615c4c6250fce458c6649fdda2d9b8da265ec7b30dd90d53181e6b9f91b5", func := "isochron/isochronlaw20.TraceBegins", spec := "traceBegins", apart := false }
def TraceBeginsSaid : Prop := traceBeginsRow.holds Try.pinned (OpenSpec.ofChange traceBeginsSpec)

/-- ITS FALSE NEIGHBOUR: 'it returns false'. Refute it at one input. -/
def traceBeginsWrong : ChangeSpec := { name := "traceBegins", fn := fun _ => fun
  | [d1, d2, d3] => { results := [.lit (.bool false)], args := [d1, d2, d3] }
  | _ => none }
def TraceBeginsWrongFalsely : Prop := traceBeginsRow.holds Try.pinned (OpenSpec.ofChange traceBeginsWrong)

/-- 'isochronlaw20.TraceMerges': WHATEVER THE INPUT: true; the input reads as it did. -/
def traceMergesSpec : ChangeSpec := { name := "traceMerges", fn := fun _ => fun
  | [d] => { results := [.lit (.bool true)], args := [d] }
  | _ => none }
def traceMergesRow : OpenClaim := { program := "ytcfhkapalcfpiaa", sum := "98ef615c4c6250fce458c6649fdda2d9b8da265ec7b30dd90d53181e6b9f91b5", func := "isochron/isochronlaw20.TraceMerges", spec := "traceMerges", unfollowed := true, recurses := true, apart := false }
def TraceMergesSaid : Prop := traceMergesRow.holds Try.pinned (OpenSpec.ofChange traceMergesSpec)

/-- ITS FALSE NEIGHBOUR: 'it returns false'. Refute it at one input. -/
def traceMergesWrong : ChangeSpec := { name := "traceMerges", fn := fun _ => fun
  | [d] => { results := [.lit (.bool false)], args := [d] }
  | _ => none }
def TraceMergesWrongFalsely : Prop := traceMergesRow.holds Try.pinned (OpenSpec.ofChange traceMergesWrong)

/-- 'isochronlaw20.TraceRises': WHATEVER THE INPUT: true; the input reads as it did. -/
def traceRisesSpec : ChangeSpec := { name := "traceRises", fn := fun _ => fun
  | [d] => { results := [.lit (.bool true)], args := [d] }
  | _ => none }
def traceRisesRow : OpenClaim := { program := "ytcfhkapalcfpiaa", sum := "98ef615c4c6250fce458c6649fdda2d9b8da265ec7b30dd90d53181e6b9f91b5", func := "isochron/isochronlaw20.TraceRises", spec := "traceRises", unfollowed := true, recurses := true, apart := false }
def TraceRisesSaid : Prop := traceRisesRow.holds Try.pinned (OpenSpec.ofChange traceRisesSpec)

/-- ITS FALSE NEIGHBOUR: 'it returns false'. Refute it at one input. -/
def traceRisesWrong : ChangeSpec := { name := "traceRises", fn := fun _ => fun
  | [d] => { results := [.lit (.bool false)], args := [d] }
  | _ => none }
def TraceRisesWrongFalsely : Prop := traceRisesRow.holds Try.pinned (OpenSpec.ofChange traceRisesWrong)

/-- 'isochronlaw20.TraceWhole': WHATEVER THE INPUT: true; the input reads as it did. -/
def traceWholeSpec : ChangeSpec := { name := "traceWhole", fn := fun _ => fun
  | [d] => { results := [.lit (.bool true)], args := [d] }
  | _ => none }
def traceWholeRow : OpenClaim := { program := "ytcfhkapalcfpiaa", sum := "98ef615c4c6250fce458c6649fdda2d9b8da265ec7b30dd90d53181e6b9f91b5", func := "isochron/isochronlaw20.TraceWhole", spec := "traceWhole", unfollowed := true, recurses := true, apart := false }
def TraceWholeSaid : Prop := traceWholeRow.holds Try.pinned (OpenSpec.ofChange traceWholeSpec)

/-- ITS FALSE NEIGHBOUR: 'it returns false'. Refute it at one input. -/
def traceWholeWrong : ChangeSpec := { name := "traceWhole", fn := fun _ => fun
  | [d] => { results := [.lit (.bool false)], args := [d] }
  | _ => none }
def TraceWholeWrongFalsely : Prop := traceWholeRow.holds Try.pinned (OpenSpec.ofChange traceWholeWrong)

/- THE SECOND FORM. 'bulk': how many values and letters a reading holds, each counted each time it is reached (what is shared counts as often as it is met; a slice's spare places count too). A statement '..UptoSaid' is the law's where the arguments, and the package variables that the reading takes, are together of bulk at most 1048576: NARROWER than '..Said'. Prove '..Said' where nothing that the law and all that it calls make is longer than what came in: it says more and counts as full. Else prove '..UptoSaid'. A law counts once. -/
mutual
def uptoBulk {H : Type} : DataW H → Nat
  | .lit (.string bytes) => bytes.length + 1
  | .lit _ => 1
  | .nil => 1
  | .ptr d => uptoBulk d + 1
  | .slice elems spare => uptoBulkAll elems + uptoBulkAll spare + 1
  | .agg parts => uptoBulkAll parts + 1
  | .iface _ d => uptoBulk d + 1
  | .map entries => uptoBulkEntries entries + 1
  | .held _ => 1
def uptoBulkAll {H : Type} : List (DataW H) → Nat
  | [] => 0
  | d :: r => uptoBulk d + uptoBulkAll r
def uptoBulkEntries {H : Type} : List (Lit × DataW H) → Nat
  | [] => 0
  | x :: r => uptoBulkEntry x + uptoBulkEntries r
def uptoBulkEntry {H : Type} : Lit × DataW H → Nat
  | (.string bytes, d) => bytes.length + uptoBulk d + 1
  | (_, d) => uptoBulk d + 1
 end
def uptoSmall : (H : Type) → List (DataW H) → Bool := fun _ ds => decide (uptoBulkAll ds ≤ 1048576)
def OpenSpec.upto (s : _root_.Go.ChangeSpec) : _root_.Go.OpenSpec := { _root_.Go.OpenSpec.ofChange s with cond := some uptoSmall }

/-- 'isochronlaw20.TraceDiffers', WHERE WHAT IT READS IS OF BULK AT MOST 1048576: true; the input reads as it did. -/
def traceDiffersUptoRow : OpenClaim := { program := "ytcfhkapalcfpiaa", sum := "98ef615c4c6250fce458c6649fdda2d9b8da265ec7b30dd90d53181e6b9f91b5", func := "isochron/isochronlaw20.TraceDiffers", spec := "traceDiffers", apart := false, narrowed := true }
def TraceDiffersUptoSaid : Prop := traceDiffersUptoRow.holds Try.pinned (OpenSpec.upto traceDiffersSpec)

/-- 'isochronlaw20.TraceProjects', WHERE WHAT IT READS IS OF BULK AT MOST 1048576: true; the input reads as it did. -/
def traceProjectsUptoRow : OpenClaim := { program := "ytcfhkapalcfpiaa", sum := "98ef615c4c6250fce458c6649fdda2d9b8da265ec7b30dd90d53181e6b9f91b5", func := "isochron/isochronlaw20.TraceProjects", spec := "traceProjects", unfollowed := true, recurses := true, apart := false, narrowed := true }
def TraceProjectsUptoSaid : Prop := traceProjectsUptoRow.holds Try.pinned (OpenSpec.upto traceProjectsSpec)

/-- 'isochronlaw20.TraceLanes', WHERE WHAT IT READS IS OF BULK AT MOST 1048576: true; the input reads as it did. -/
def traceLanesUptoRow : OpenClaim := { program := "ytcfhkapalcfpiaa", sum := "98ef615c4c6250fce458c6649fdda2d9b8da265ec7b30dd90d53181e6b9f91b5", func := "isochron/isochronlaw20.TraceLanes", spec := "traceLanes", unfollowed := true, recurses := true, apart := false, narrowed := true }
def TraceLanesUptoSaid : Prop := traceLanesUptoRow.holds Try.pinned (OpenSpec.upto traceLanesSpec)

/-- 'isochronlaw20.TracePairs', WHERE WHAT IT READS IS OF BULK AT MOST 1048576: true; the input reads as it did. -/
def tracePairsUptoRow : OpenClaim := { program := "ytcfhkapalcfpiaa", sum := "98ef615c4c6250fce458c6649fdda2d9b8da265ec7b30dd90d53181e6b9f91b5", func := "isochron/isochronlaw20.TracePairs", spec := "tracePairs", apart := false, narrowed := true }
def TracePairsUptoSaid : Prop := tracePairsUptoRow.holds Try.pinned (OpenSpec.upto tracePairsSpec)

/-- 'isochronlaw20.TraceBegins', WHERE WHAT IT READS IS OF BULK AT MOST 1048576: true; the input reads as it did. -/
def traceBeginsUptoRow : OpenClaim := { program := "ytcfhkapalcfpiaa", sum := "98ef615c4c6250fce458c6649fdda2d9b8da265ec7b30dd90d53181e6b9f91b5", func := "isochron/isochronlaw20.TraceBegins", spec := "traceBegins", apart := false, narrowed := true }
def TraceBeginsUptoSaid : Prop := traceBeginsUptoRow.holds Try.pinned (OpenSpec.upto traceBeginsSpec)

/-- 'isochronlaw20.TraceMerges', WHERE WHAT IT READS IS OF BULK AT MOST 1048576: true; the input reads as it did. -/
def traceMergesUptoRow : OpenClaim := { program := "ytcfhkapalcfpiaa", sum := "98ef615c4c6250fce458c6649fdda2d9b8da265ec7b30dd90d53181e6b9f91b5", func := "isochron/isochronlaw20.TraceMerges", spec := "traceMerges", unfollowed := true, recurses := true, apart := false, narrowed := true }
def TraceMergesUptoSaid : Prop := traceMergesUptoRow.holds Try.pinned (OpenSpec.upto traceMergesSpec)

/-- 'isochronlaw20.TraceRises', WHERE WHAT IT READS IS OF BULK AT MOST 1048576: true; the input reads as it did. -/
def traceRisesUptoRow : OpenClaim := { program := "ytcfhkapalcfpiaa", sum := "98ef615c4c6250fce458c6649fdda2d9b8da265ec7b30dd90d53181e6b9f91b5", func := "isochron/isochronlaw20.TraceRises", spec := "traceRises", unfollowed := true, recurses := true, apart := false, narrowed := true }
def TraceRisesUptoSaid : Prop := traceRisesUptoRow.holds Try.pinned (OpenSpec.upto traceRisesSpec)

/-- 'isochronlaw20.TraceWhole', WHERE WHAT IT READS IS OF BULK AT MOST 1048576: true; the input reads as it did. -/
def traceWholeUptoRow : OpenClaim := { program := "ytcfhkapalcfpiaa", sum := "98ef615c4c6250fce458c6649fdda2d9b8da265ec7b30dd90d53181e6b9f91b5", func := "isochron/isochronlaw20.TraceWhole", spec := "traceWhole", unfollowed := true, recurses := true, apart := false, narrowed := true }
def TraceWholeUptoSaid : Prop := traceWholeUptoRow.holds Try.pinned (OpenSpec.upto traceWholeSpec)

end Rows
end Go.Proofs.Ytcfhkapalcfpiaa
