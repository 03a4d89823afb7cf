import Derived.Test.YtekkoodlnaapeaaGreatDoorMemoAhead
/- The law FnAhead, reckoned. -/
set_option linter.unusedVariables false
set_option linter.unusedSimpArgs false
set_option linter.constructorNameAsVariable false
/- Ahead: the run, case Ahead2. -/
namespace Go.Proofs.YtekkoodlnaapeaaGreatDoor.SX
set_option maxRecDepth 100000
def cAhead2 : Ctx := ⟨[(0,255),(0,255),(0,255),(1,3),(48,57)], [(lvar 0, 3, 4)], [(lvar 1, 6, .c 2)]⟩
def tAhead2 : List SI := [lvar 0, lvar 1]
def lAhead2 : List Memo := [mAhead0, mAhead7, mAhead2, mAhead8, mAhead9]
noncomputable def oAhead2 : Orc := orcM [18] lAhead2 (orcA cAhead2 tAhead2)
theorem lAhead2_ok : ∀ M ∈ lAhead2, memoChk M ((evF cAheadP0 pgT (orcA cAheadP0 []) 1000).call M.f M.args ⟨.nil, 0⟩) = true := List.forall_mem_cons.2 ⟨mAhead0_ok, List.forall_mem_cons.2 ⟨mAhead7_ok, List.forall_mem_cons.2 ⟨mAhead2_ok, List.forall_mem_cons.2 ⟨mAhead8_ok, List.forall_mem_cons.2 ⟨mAhead9_ok, fun _ h => (nomatch h)⟩⟩⟩⟩⟩
theorem lAhead2_pl : lAhead2.all (fun M => plains M.args) = true := by kernel_rfl
theorem rAhead2 : isT ((evF cAhead2 pgT oAhead2 1000).call 6 [.v (.op 0)] ⟨.nil, 0⟩) = true := by kernel_rfl
end Go.Proofs.YtekkoodlnaapeaaGreatDoor.SX
