import Derived.Test.YtekkoodlnaapeaaGreatDoorMemoLive
/- The law FnLive, reckoned. -/
set_option linter.unusedVariables false
set_option linter.unusedSimpArgs false
set_option linter.constructorNameAsVariable false
/- Live: the run, case Live0. -/
namespace Go.Proofs.YtekkoodlnaapeaaGreatDoor.SX
set_option maxRecDepth 100000
def cLive0 : Ctx := ⟨[(0,255),(0,255),(0,255),(1,3),(48,57),(1,3),(48,57)], [(lvar 0, 3, 4), (lvar 1, 5, 6)], [(lvar 2, 3, .c 0)]⟩
def tLive0 : List SI := [lvar 0, lvar 1, lvar 2]
def lLive0 : List Memo := [mLive0, mLive1, mLive2, mLive3, mLive4, mLive5, mLive6]
noncomputable def oLive0 : Orc := orcM [18] lLive0 (orcA cLive0 tLive0)
theorem lLive0_ok : ∀ M ∈ lLive0, memoChk M ((evF cLiveP0 pgT (orcA cLiveP0 []) 1000).call M.f M.args ⟨.nil, 0⟩) = true := List.forall_mem_cons.2 ⟨mLive0_ok, List.forall_mem_cons.2 ⟨mLive1_ok, List.forall_mem_cons.2 ⟨mLive2_ok, List.forall_mem_cons.2 ⟨mLive3_ok, List.forall_mem_cons.2 ⟨mLive4_ok, List.forall_mem_cons.2 ⟨mLive5_ok, List.forall_mem_cons.2 ⟨mLive6_ok, fun _ h => (nomatch h)⟩⟩⟩⟩⟩⟩⟩
theorem lLive0_pl : lLive0.all (fun M => plains M.args) = true := by kernel_rfl
theorem rLive0 : isT ((evF cLive0 pgT oLive0 1000).call 7 [.v (.op 0)] ⟨.nil, 0⟩) = true := by kernel_rfl
end Go.Proofs.YtekkoodlnaapeaaGreatDoor.SX
