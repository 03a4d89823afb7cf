import Derived.Test.YtekkoodlnaapeaaGreatDoorMemoAhead
/- The law FnAhead, reckoned. -/
set_option linter.unusedVariables false
set_option linter.unusedSimpArgs false
set_option linter.constructorNameAsVariable false
/- Ahead: the run, case Ahead0. -/
namespace Go.Proofs.YtekkoodlnaapeaaGreatDoor.SX
set_option maxRecDepth 100000
def cAhead0 : Ctx := ⟨[(0,255),(0,255),(0,255),(1,3),(48,57)], [(lvar 0, 3, 4)], [(lvar 1, 6, .c 0)]⟩
def tAhead0 : List SI := [lvar 0, lvar 1]
def lAhead0 : List Memo := [mAhead0, mAhead1, mAhead2, mAhead3, mAhead4]
noncomputable def oAhead0 : Orc := orcM [18] lAhead0 (orcA cAhead0 tAhead0)
theorem lAhead0_ok : ∀ M ∈ lAhead0, memoChk M ((evF cAheadP0 pgT (orcA cAheadP0 []) 1000).call M.f M.args ⟨.nil, 0⟩) = true := List.forall_mem_cons.2 ⟨mAhead0_ok, List.forall_mem_cons.2 ⟨mAhead1_ok, List.forall_mem_cons.2 ⟨mAhead2_ok, List.forall_mem_cons.2 ⟨mAhead3_ok, List.forall_mem_cons.2 ⟨mAhead4_ok, fun _ h => (nomatch h)⟩⟩⟩⟩⟩
theorem lAhead0_pl : lAhead0.all (fun M => plains M.args) = true := by kernel_rfl
theorem rAhead0 : isT ((evF cAhead0 pgT oAhead0 1000).call 6 [.v (.op 0)] ⟨.nil, 0⟩) = true := by kernel_rfl
end Go.Proofs.YtekkoodlnaapeaaGreatDoor.SX
