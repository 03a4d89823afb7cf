import Derived.Test.YtekkoodlnaapeaaGreatDoorMemoAhead
/- The law FnAhead, reckoned. -/
set_option linter.unusedVariables false
set_option linter.unusedSimpArgs false
set_option linter.constructorNameAsVariable false
/- Ahead: the run, case Ahead5. -/
namespace Go.Proofs.YtekkoodlnaapeaaGreatDoor.SX
set_option maxRecDepth 100000
def cAhead5 : Ctx := ⟨[(0,255),(0,255),(0,255),(1,3),(48,57)], [(lvar 0, 3, 4)], [(lvar 1, 6, .c 5)]⟩
def tAhead5 : List SI := [lvar 0, lvar 1]
def lAhead5 : List Memo := [mAhead0, mAhead16, mAhead2, mAhead17, mAhead18]
noncomputable def oAhead5 : Orc := orcM [18] lAhead5 (orcA cAhead5 tAhead5)
theorem lAhead5_ok : ∀ M ∈ lAhead5, memoChk M ((evF cAheadP0 pgT (orcA cAheadP0 []) 1000).call M.f M.args ⟨.nil, 0⟩) = true := List.forall_mem_cons.2 ⟨mAhead0_ok, List.forall_mem_cons.2 ⟨mAhead16_ok, List.forall_mem_cons.2 ⟨mAhead2_ok, List.forall_mem_cons.2 ⟨mAhead17_ok, List.forall_mem_cons.2 ⟨mAhead18_ok, fun _ h => (nomatch h)⟩⟩⟩⟩⟩
theorem lAhead5_pl : lAhead5.all (fun M => plains M.args) = true := by kernel_rfl
theorem rAhead5 : isT ((evF cAhead5 pgT oAhead5 1000).call 6 [.v (.op 0)] ⟨.nil, 0⟩) = true := by kernel_rfl
end Go.Proofs.YtekkoodlnaapeaaGreatDoor.SX
