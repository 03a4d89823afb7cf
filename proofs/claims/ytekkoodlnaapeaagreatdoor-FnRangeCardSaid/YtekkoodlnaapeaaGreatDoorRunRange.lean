import Derived.Test.YtekkoodlnaapeaaGreatDoorMemoRange
/- The law FnRange, reckoned. -/
set_option linter.unusedVariables false
set_option linter.unusedSimpArgs false
set_option linter.constructorNameAsVariable false
/- Range: the run, case Range. -/
namespace Go.Proofs.YtekkoodlnaapeaaGreatDoor.SX
set_option maxRecDepth 100000
def cRange : Ctx := ⟨[(0,255),(0,255),(0,255),(0,8),(1,3),(48,57),(1,3),(48,57),(1,3),(48,57)], [(.p [([0],1)] 2, 4, 5), (.p [([3],1)] 1, 6, 7), (.p [([0],2)] 4, 8, 9)], [(lvar 1, 9, lvar 3)]⟩
def tRange : List SI := [lvar 0, lvar 1]
def lRange : List Memo := [mRange0, mRange1, mRange2, mRange3, mRange4, mRange5, mRange6, mRange7, mRange8, mRange9]
noncomputable def oRange : Orc := orcM [18] lRange (orcA cRange tRange)
theorem lRange_ok : ∀ M ∈ lRange, memoChk M ((evF cRangeP0 pgT (orcA cRangeP0 []) 1000).call M.f M.args ⟨.nil, 0⟩) = true := List.forall_mem_cons.2 ⟨mRange0_ok, List.forall_mem_cons.2 ⟨mRange1_ok, List.forall_mem_cons.2 ⟨mRange2_ok, List.forall_mem_cons.2 ⟨mRange3_ok, List.forall_mem_cons.2 ⟨mRange4_ok, List.forall_mem_cons.2 ⟨mRange5_ok, List.forall_mem_cons.2 ⟨mRange6_ok, List.forall_mem_cons.2 ⟨mRange7_ok, List.forall_mem_cons.2 ⟨mRange8_ok, List.forall_mem_cons.2 ⟨mRange9_ok, fun _ h => (nomatch h)⟩⟩⟩⟩⟩⟩⟩⟩⟩⟩
theorem lRange_pl : lRange.all (fun M => plains M.args) = true := by kernel_rfl
theorem rRange : isT ((evF cRange pgT oRange 1000).call 3 [.v (.op 0)] ⟨.nil, 0⟩) = true := by kernel_rfl
end Go.Proofs.YtekkoodlnaapeaaGreatDoor.SX
