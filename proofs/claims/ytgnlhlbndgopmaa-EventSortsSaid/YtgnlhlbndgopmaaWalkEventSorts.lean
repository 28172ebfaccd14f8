/- The walk of EventSorts. -/
import Derived.Test.YtgnlhlbndgopmaaSame
import Derived.Test.YtgnlhlbndgopmaaAwake02
import Derived.Test.YtgnlhlbndgopmaaKindsEventSorts
set_option linter.unusedVariables false
set_option linter.unusedSimpArgs false
namespace Go.Proofs.Ytgnlhlbndgopmaa.eventSorts
open Go.Proofs Go.RowKit Go.Sort Go.Proofs.Ytgnlhlbndgopmaa.Types Go.Proofs.Ytgnlhlbndgopmaa.Heap Go.Proofs.Ytgnlhlbndgopmaa.Row Go.Proofs.Ytgnlhlbndgopmaa.Ord Go.Proofs.YtgnlhlbndgopmaaW.PrintWords Go.Proofs.YtgnlhlbndgopmaaW.PrintLast Go.Proofs.YtgnlhlbndgopmaaW.PrintMore
open Go.Proofs.Ytgnlhlbndgopmaa.Sorted (M OwnM Made flatM infoM zM sorted_call)
open Go.Proofs.Ytgnlhlbndgopmaa.SortPure (isort length_isort)
set_option maxHeartbeats 8000000 in
set_option maxRecDepth 100000 in
theorem walk (A0 : Option Addr) (c0 : Nat) (l0 : List S29) (hc0 : l0.length ≤ c0) (w0 : ∀ y ∈ l0, I29 y) (y0 : l0.length * 56 ≤ 140737488351232) (w : World) (hr0 : Kd.C k29 w A0 l0.length l0) :
    Calls Try.prog 10 #[.slice A0 l0.length c0] w fun e w' => e = .returned (.bool true) ∧ Below w.heap.size w w' := by
  have HR := hide hr0
  have HY : Hid (l0.length * 56 ≤ 140737488355328) := hide (by omega)
  have HC := hide hc0
  have E1 : Hid (OwnM (w.alloc (.cells #[] 29)) w.heap.size (.slice (some ⟨w.heap.size, 0, none⟩) 0 0) []) := hide (Own.empty w _ _ (Nat.le_refl _))
  have BW1 : Hid (Below w.heap.size w (w.alloc (.cells #[] 29))) := hide ((Below.refl w.heap.size w).alloc (Nat.le_refl _) _)
  clear hr0 w0 y0 hc0
  go_enter Try.func10, Try.ntmps10
  go_wp2_with ((with_reducible refine gate_builtin (b := .append) (xs := #[.tmp 4, .tmp 5]) rfl ?_); at_builtin; refine wp_append flatM rfl k29_open rfl (.tmp 4) (.tmp 5) 36 rfl zM 56 Try.underlying36 infoM rfl _ rfl E1.out _ _ _ l0 rfl (C_below HR.out BW1.out) (by omega) ?aL ?aB ?_; (case aL => have := HY.out; simpa using this); (case aB => exact BW1.out.size); intro v1 w1 ho hg; obtain ⟨A1, c1, rfl, hc1, hC1, _⟩ := ho.reads flatM rfl k29_mk; have HC1 := hide hC1; have Hc1 := hide hc1; have B1 := hide (BW1.out.grown hg BW1.out.size (fun b hb => (E1.out.blk b hb).1)); clear ho hg E1 BW1 hC1 hc1)
  go_wp2_with fail
  refine (sorted_call A1 c1 l0 Hc1.out HY.out _ HC1.out).mono ?_
  rintro e w2 ⟨v2, rfl, ho2, hb2⟩
  obtain ⟨A2, c2, rfl, hc2, hC2, _⟩ := ho2.reads flatM rfl k29_mk
  have B2 := hide (below_step B1.out hb2)
  have HC2 := hide hC2
  have HM2 := hide (C_below HC1.out hb2)
  clear ho2 hb2 hC2 hc2
  go_wp2_with fail
  refine (Ref02.rsorted_call A0 c0 l0 HC.out HY.out _ (C_below HR.out B2.out)).mono ?_
  rintro e w3 ⟨v3, rfl, ho3, hb3⟩
  obtain ⟨A3, c3, rfl, hc3, hC3, _⟩ := ho3.reads flatM rfl k29_mk
  have B3 := hide (below_step B2.out hb3)
  have HC3 := hide hC3
  have HM3 := hide (C_below HM2.out hb3)
  have HS3 := hide (C_below HC2.out hb3)
  clear ho3 hb3 hC3 hc3
  go_wp2_with fail
  refine (Same.same_call A2 _ c2 (isort befM l0) A3 _ c3 (isort befM l0) rfl rfl (by rw [length_isort]; exact HY.out) true (by simp) _ HS3.out HC3.out).mono ?_
  rintro e w4 ⟨rfl, hg4⟩
  have B4 := hide (below_step B3.out hg4.below)
  have HM4 := hide (C_below HM3.out hg4.below)
  clear hg4
  go_wp2_with fail
  refine (Same.same_call A1 _ c1 l0 A0 _ c0 l0 rfl rfl HY.out true (by simp) _ HM4.out (C_below HR.out B4.out)).mono ?_
  rintro e w5 ⟨rfl, hg5⟩
  have B5 := hide (below_step B4.out hg5.below)
  clear hg5
  go_wp2_with fail
  refine (Awake.awake_call _).mono ?_
  rintro e w6 ⟨rfl, hg6⟩
  have B6 := hide (below_step B5.out hg6.below)
  clear hg6
  go_wp2_with fail
  go_ret
  exact ⟨rfl, B6.out⟩
end Go.Proofs.Ytgnlhlbndgopmaa.eventSorts
