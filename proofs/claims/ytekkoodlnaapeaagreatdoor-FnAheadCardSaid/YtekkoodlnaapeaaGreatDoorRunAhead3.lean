import Derived.Test.YtekkoodlnaapeaaGreatDoorMemoAhead
/- The law FnAhead, reckoned. -/
set_option linter.unusedVariables false
set_option linter.unusedSimpArgs false
set_option linter.constructorNameAsVariable false
/- Ahead: the run, case Ahead3. -/
namespace Go.Proofs.YtekkoodlnaapeaaGreatDoor.SX
set_option maxRecDepth 100000
def cAhead3 : Ctx := ⟨[(0,255),(0,255),(0,255),(1,3),(48,57)], [(lvar 0, 3, 4)], [(lvar 1, 6, .c 3)]⟩
def tAhead3 : List SI := [lvar 0, lvar 1]
def lAhead3 : List Memo := [mAhead0, mAhead10, mAhead2, mAhead11, mAhead12]
noncomputable def oAhead3 : Orc := orcM [18] lAhead3 (orcA cAhead3 tAhead3)
theorem lAhead3_ok : ∀ M ∈ lAhead3, memoChk M ((evF cAheadP0 pgT (orcA cAheadP0 []) 1000).call M.f M.args ⟨.nil, 0⟩) = true := List.forall_mem_cons.2 ⟨mAhead0_ok, List.forall_mem_cons.2 ⟨mAhead10_ok, List.forall_mem_cons.2 ⟨mAhead2_ok, List.forall_mem_cons.2 ⟨mAhead11_ok, List.forall_mem_cons.2 ⟨mAhead12_ok, fun _ h => (nomatch h)⟩⟩⟩⟩⟩
theorem lAhead3_pl : lAhead3.all (fun M => plains M.args) = true := by kernel_rfl
theorem rAhead3 : isT ((evF cAhead3 pgT oAhead3 1000).call 6 [.v (.op 0)] ⟨.nil, 0⟩) = true := by kernel_rfl
end Go.Proofs.YtekkoodlnaapeaaGreatDoor.SX
