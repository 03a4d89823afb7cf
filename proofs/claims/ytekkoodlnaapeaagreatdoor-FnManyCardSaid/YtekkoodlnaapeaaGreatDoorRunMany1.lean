import Derived.Test.YtekkoodlnaapeaaGreatDoorMemoMany
/- The law FnMany, reckoned. -/
set_option linter.unusedVariables false
set_option linter.unusedSimpArgs false
set_option linter.constructorNameAsVariable false
/- Many: the run, case Many1. -/
namespace Go.Proofs.YtekkoodlnaapeaaGreatDoor.SX
set_option maxRecDepth 100000
def cMany1 : Ctx := ⟨[(0,255),(0,255),(0,255),(1,3),(48,57)], [(lvar 0, 3, 4)], [(lvar 1, 2, .c 1)]⟩
def tMany1 : List SI := [lvar 0, lvar 1]
def lMany1 : List Memo := [mMany0, mMany1, mMany2, mMany10, mMany4, mMany5, mMany6, mMany11, mMany8, mMany9]
noncomputable def oMany1 : Orc := orcM [18] lMany1 (orcA cMany1 tMany1)
theorem lMany1_ok : ∀ M ∈ lMany1, memoChk M ((evF cManyP0 pgT (orcA cManyP0 []) 1000).call M.f M.args ⟨.nil, 0⟩) = true := List.forall_mem_cons.2 ⟨mMany0_ok, List.forall_mem_cons.2 ⟨mMany1_ok, List.forall_mem_cons.2 ⟨mMany2_ok, List.forall_mem_cons.2 ⟨mMany10_ok, List.forall_mem_cons.2 ⟨mMany4_ok, List.forall_mem_cons.2 ⟨mMany5_ok, List.forall_mem_cons.2 ⟨mMany6_ok, List.forall_mem_cons.2 ⟨mMany11_ok, List.forall_mem_cons.2 ⟨mMany8_ok, List.forall_mem_cons.2 ⟨mMany9_ok, fun _ h => (nomatch h)⟩⟩⟩⟩⟩⟩⟩⟩⟩⟩
theorem lMany1_pl : lMany1.all (fun M => plains M.args) = true := by kernel_rfl
theorem rMany1 : isT ((evF cMany1 pgT oMany1 1000).call 5 [.v (.op 0)] ⟨.nil, 0⟩) = true := by kernel_rfl
end Go.Proofs.YtekkoodlnaapeaaGreatDoor.SX
