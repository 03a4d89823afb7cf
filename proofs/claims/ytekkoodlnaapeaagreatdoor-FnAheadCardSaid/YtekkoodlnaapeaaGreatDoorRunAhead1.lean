import Derived.Test.YtekkoodlnaapeaaGreatDoorMemoAhead
/- The law FnAhead, reckoned. -/
set_option linter.unusedVariables false
set_option linter.unusedSimpArgs false
set_option linter.constructorNameAsVariable false
/- Ahead: the run, case Ahead1. -/
namespace Go.Proofs.YtekkoodlnaapeaaGreatDoor.SX
set_option maxRecDepth 100000
def cAhead1 : Ctx := ⟨[(0,255),(0,255),(0,255),(1,3),(48,57)], [(lvar 0, 3, 4)], [(lvar 1, 6, .c 1)]⟩
def tAhead1 : List SI := [lvar 0, lvar 1]
def lAhead1 : List Memo := [mAhead0, mAhead5, mAhead2, mAhead6, mAhead4]
noncomputable def oAhead1 : Orc := orcM [18] lAhead1 (orcA cAhead1 tAhead1)
theorem lAhead1_ok : ∀ M ∈ lAhead1, memoChk M ((evF cAheadP0 pgT (orcA cAheadP0 []) 1000).call M.f M.args ⟨.nil, 0⟩) = true := List.forall_mem_cons.2 ⟨mAhead0_ok, List.forall_mem_cons.2 ⟨mAhead5_ok, List.forall_mem_cons.2 ⟨mAhead2_ok, List.forall_mem_cons.2 ⟨mAhead6_ok, List.forall_mem_cons.2 ⟨mAhead4_ok, fun _ h => (nomatch h)⟩⟩⟩⟩⟩
theorem lAhead1_pl : lAhead1.all (fun M => plains M.args) = true := by kernel_rfl
theorem rAhead1 : isT ((evF cAhead1 pgT oAhead1 1000).call 6 [.v (.op 0)] ⟨.nil, 0⟩) = true := by kernel_rfl
end Go.Proofs.YtekkoodlnaapeaaGreatDoor.SX
