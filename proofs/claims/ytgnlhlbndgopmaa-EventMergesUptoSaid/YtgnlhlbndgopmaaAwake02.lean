/- The law's own 'awake'. No law is proved here. -/
import Derived.Test.YtgnlhlbndgopmaaOrd
set_option linter.unusedVariables false
set_option linter.unusedSimpArgs false
namespace Go.Proofs.Ytgnlhlbndgopmaa.Awake
open Go.Proofs Go.RowKit Go.Sort Go.Proofs.Ytgnlhlbndgopmaa.Types Go.Proofs.Ytgnlhlbndgopmaa.Heap Go.Proofs.Ytgnlhlbndgopmaa.Ord Go.Proofs.YtgnlhlbndgopmaaW.PrintWords Go.Proofs.YtgnlhlbndgopmaaW.PrintLast Go.Proofs.YtgnlhlbndgopmaaW.PrintMore
theorem awake_call (w : World) : Calls Try.prog 15 #[] w fun e w' => e = .returned (.bool true) ∧ Gr w w' := by
  have H := hide (fun W => ck_call 1 0 0 2 0 0 W)
  rw [show ck 1 0 0 2 0 0 = -1 from rfl] at H
  go_enter Try.func15, Try.ntmps15
  go_wp2_with (go_at_call 13; refine (Hid.out H _).mono ?_; rintro e w1 ⟨rfl, hg⟩)
  go_ret
  exact ⟨rfl, hg⟩
end Go.Proofs.Ytgnlhlbndgopmaa.Awake
