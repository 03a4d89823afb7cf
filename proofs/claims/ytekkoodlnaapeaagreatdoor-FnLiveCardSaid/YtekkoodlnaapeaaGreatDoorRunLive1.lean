import Derived.Test.YtekkoodlnaapeaaGreatDoorMemoLive
/- The law FnLive, reckoned. -/
set_option linter.unusedVariables false
set_option linter.unusedSimpArgs false
set_option linter.constructorNameAsVariable false
/- Live: the run, case Live1. -/
namespace Go.Proofs.YtekkoodlnaapeaaGreatDoor.SX
set_option maxRecDepth 100000
def cLive1 : Ctx := ⟨[(0,255),(0,255),(0,255),(1,3),(48,57),(1,3),(48,57)], [(lvar 0, 3, 4), (lvar 1, 5, 6)], [(lvar 2, 3, .c 1)]⟩
def tLive1 : List SI := [lvar 0, lvar 1, lvar 2]
def lLive1 : List Memo := [mLive0, mLive7, mLive2, mLive3, mLive8, mLive5, mLive6]
noncomputable def oLive1 : Orc := orcM [18] lLive1 (orcA cLive1 tLive1)
theorem lLive1_ok : ∀ M ∈ lLive1, memoChk M ((evF cLiveP0 pgT (orcA cLiveP0 []) 1000).call M.f M.args ⟨.nil, 0⟩) = true := List.forall_mem_cons.2 ⟨mLive0_ok, List.forall_mem_cons.2 ⟨mLive7_ok, List.forall_mem_cons.2 ⟨mLive2_ok, List.forall_mem_cons.2 ⟨mLive3_ok, List.forall_mem_cons.2 ⟨mLive8_ok, List.forall_mem_cons.2 ⟨mLive5_ok, List.forall_mem_cons.2 ⟨mLive6_ok, fun _ h => (nomatch h)⟩⟩⟩⟩⟩⟩⟩
theorem lLive1_pl : lLive1.all (fun M => plains M.args) = true := by kernel_rfl
theorem rLive1 : isT ((evF cLive1 pgT oLive1 1000).call 7 [.v (.op 0)] ⟨.nil, 0⟩) = true := by kernel_rfl
end Go.Proofs.YtekkoodlnaapeaaGreatDoor.SX
