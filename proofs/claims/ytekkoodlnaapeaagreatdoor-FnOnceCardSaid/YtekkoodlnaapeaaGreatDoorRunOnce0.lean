import Derived.Test.YtekkoodlnaapeaaGreatDoorMemoOnce
/- The law FnOnce, reckoned. -/
set_option linter.unusedVariables false
set_option linter.unusedSimpArgs false
set_option linter.constructorNameAsVariable false
/- Once: the run, case Once0. -/
namespace Go.Proofs.YtekkoodlnaapeaaGreatDoor.SX
set_option maxRecDepth 100000
def cOnce0 : Ctx := ⟨[(0,255),(0,255),(0,255),(1,3),(48,57)], [(lvar 0, 3, 4)], [(lvar 1, 2, .c 0)]⟩
def tOnce0 : List SI := [lvar 0, lvar 1]
def lOnce0 : List Memo := [mOnce0, mOnce1, mOnce2, mOnce3, mOnce4, mOnce5, mOnce6]
noncomputable def oOnce0 : Orc := orcM [18] lOnce0 (orcA cOnce0 tOnce0)
theorem lOnce0_ok : ∀ M ∈ lOnce0, memoChk M ((evF cOnceP0 pgT (orcA cOnceP0 []) 1000).call M.f M.args ⟨.nil, 0⟩) = true := List.forall_mem_cons.2 ⟨mOnce0_ok, List.forall_mem_cons.2 ⟨mOnce1_ok, List.forall_mem_cons.2 ⟨mOnce2_ok, List.forall_mem_cons.2 ⟨mOnce3_ok, List.forall_mem_cons.2 ⟨mOnce4_ok, List.forall_mem_cons.2 ⟨mOnce5_ok, List.forall_mem_cons.2 ⟨mOnce6_ok, fun _ h => (nomatch h)⟩⟩⟩⟩⟩⟩⟩
theorem lOnce0_pl : lOnce0.all (fun M => plains M.args) = true := by kernel_rfl
theorem rOnce0 : isT ((evF cOnce0 pgT oOnce0 1000).call 8 [.v (.op 0)] ⟨.nil, 0⟩) = true := by kernel_rfl
end Go.Proofs.YtekkoodlnaapeaaGreatDoor.SX
