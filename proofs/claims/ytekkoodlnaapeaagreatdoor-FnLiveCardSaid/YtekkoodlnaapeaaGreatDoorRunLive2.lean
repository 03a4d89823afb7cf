import Derived.Test.YtekkoodlnaapeaaGreatDoorMemoLive
/- The law FnLive, reckoned. -/
set_option linter.unusedVariables false
set_option linter.unusedSimpArgs false
set_option linter.constructorNameAsVariable false
/- Live: the run, case Live2. -/
namespace Go.Proofs.YtekkoodlnaapeaaGreatDoor.SX
set_option maxRecDepth 100000
def cLive2 : Ctx := ⟨[(0,255),(0,255),(0,255),(1,3),(48,57),(1,3),(48,57)], [(lvar 0, 3, 4), (lvar 1, 5, 6)], [(lvar 2, 3, .c 2)]⟩
def tLive2 : List SI := [lvar 0, lvar 1, lvar 2]
def lLive2 : List Memo := [mLive0, mLive9, mLive2, mLive3, mLive10, mLive5, mLive11]
noncomputable def oLive2 : Orc := orcM [18] lLive2 (orcA cLive2 tLive2)
theorem lLive2_ok : ∀ M ∈ lLive2, memoChk M ((evF cLiveP0 pgT (orcA cLiveP0 []) 1000).call M.f M.args ⟨.nil, 0⟩) = true := List.forall_mem_cons.2 ⟨mLive0_ok, List.forall_mem_cons.2 ⟨mLive9_ok, List.forall_mem_cons.2 ⟨mLive2_ok, List.forall_mem_cons.2 ⟨mLive3_ok, List.forall_mem_cons.2 ⟨mLive10_ok, List.forall_mem_cons.2 ⟨mLive5_ok, List.forall_mem_cons.2 ⟨mLive11_ok, fun _ h => (nomatch h)⟩⟩⟩⟩⟩⟩⟩
theorem lLive2_pl : lLive2.all (fun M => plains M.args) = true := by kernel_rfl
theorem rLive2 : isT ((evF cLive2 pgT oLive2 1000).call 7 [.v (.op 0)] ⟨.nil, 0⟩) = true := by kernel_rfl
end Go.Proofs.YtekkoodlnaapeaaGreatDoor.SX
