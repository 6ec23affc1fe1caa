/- The contract of spylaw1.nums at this program: it returns true. No conditions. -/
import Derived.Test.YtmgcmknobnonhaaWUp
import Derived.Test.YtmgcmknobnonhaaPNumMulDivsx5
namespace Go.Proofs.Ytmgcmknobnonhaa.Num
open Go.RowKit Go.Proofs.YtmgcmknobnonhaaW.PrintWords Go.Proofs.YtmgcmknobnonhaaW.PrintLast
set_option linter.unusedVariables false
theorem round_said : PNumMulDivs.num_RoundDiv.f 1 (-5) 2 = some (-3) := by decide +kernel
theorem ceil_said : PNumMulDivs.num_CeilDiv.f (-5) 2 = some (-2) := by decide +kernel
set_option maxHeartbeats 400000 in
theorem nums_any (w : World) : Calls Try.prog 9 #[] w fun e w' => e = .returned (.bool true) ∧ Below w.heap.size w w' := by
  go_enter Try.func9, Try.ntmps9
  go_wp2_with fail
  refine (muldiv_any 4611686018427387904 6 8 3458764513820540928 _ ⟨by decide, by decide⟩ ⟨by decide, by decide⟩ ⟨by decide, by decide⟩ (show _ = _ by decide)).mono ?_
  rintro e w1 ⟨rfl, hb1⟩
  have e1 : mv 8 3458764513820540928 = 3458764513820540928 := by decide
  have e2 : me 8 3458764513820540928 = 0 := by decide
  rw [e1, e2]
  clear e1 e2
  go_wp2_with fail
  refine (PNumMulDivs.num_RoundDiv.calls 1 (-5) 2 (-3) _ round_said).mono ?_
  rintro e w2 ⟨rfl, hd2⟩
  have hb2 := below_step hb1 hd2.below
  clear hb1 hd2
  go_wp2_with fail
  refine (PNumMulDivs.num_CeilDiv.calls (-5) 2 (-2) _ ceil_said).mono ?_
  rintro e w3 ⟨rfl, hd3⟩
  have hb3 := below_step hb2 hd3.below
  clear hb2 hd3
  go_wp2
  go_ret
  exact ⟨rfl, hb3⟩
end Go.Proofs.Ytmgcmknobnonhaa.Num
