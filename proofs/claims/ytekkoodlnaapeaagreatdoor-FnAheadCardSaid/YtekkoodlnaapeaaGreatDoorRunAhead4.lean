import Derived.Test.YtekkoodlnaapeaaGreatDoorMemoAhead
/- The law FnAhead, reckoned. -/
set_option linter.unusedVariables false
set_option linter.unusedSimpArgs false
set_option linter.constructorNameAsVariable false
/- Ahead: the run, case Ahead4. -/
namespace Go.Proofs.YtekkoodlnaapeaaGreatDoor.SX
set_option maxRecDepth 100000
def cAhead4 : Ctx := ⟨[(0,255),(0,255),(0,255),(1,3),(48,57)], [(lvar 0, 3, 4)], [(lvar 1, 6, .c 4)]⟩
def tAhead4 : List SI := [lvar 0, lvar 1]
def lAhead4 : List Memo := [mAhead0, mAhead13, mAhead2, mAhead14, mAhead15]
noncomputable def oAhead4 : Orc := orcM [18] lAhead4 (orcA cAhead4 tAhead4)
theorem lAhead4_ok : ∀ M ∈ lAhead4, memoChk M ((evF cAheadP0 pgT (orcA cAheadP0 []) 1000).call M.f M.args ⟨.nil, 0⟩) = true := List.forall_mem_cons.2 ⟨mAhead0_ok, List.forall_mem_cons.2 ⟨mAhead13_ok, List.forall_mem_cons.2 ⟨mAhead2_ok, List.forall_mem_cons.2 ⟨mAhead14_ok, List.forall_mem_cons.2 ⟨mAhead15_ok, fun _ h => (nomatch h)⟩⟩⟩⟩⟩
theorem lAhead4_pl : lAhead4.all (fun M => plains M.args) = true := by kernel_rfl
theorem rAhead4 : isT ((evF cAhead4 pgT oAhead4 1000).call 6 [.v (.op 0)] ⟨.nil, 0⟩) = true := by kernel_rfl
end Go.Proofs.YtekkoodlnaapeaaGreatDoor.SX
