import Derived.Test.YtekkoodlnaapeaaGreatDoorMemoOnce
/- The law FnOnce, reckoned. -/
set_option linter.unusedVariables false
set_option linter.unusedSimpArgs false
set_option linter.constructorNameAsVariable false
/- Once: the run, case Once1. -/
namespace Go.Proofs.YtekkoodlnaapeaaGreatDoor.SX
set_option maxRecDepth 100000
def cOnce1 : Ctx := ⟨[(0,255),(0,255),(0,255),(1,3),(48,57)], [(lvar 0, 3, 4)], [(lvar 1, 2, .c 1)]⟩
def tOnce1 : List SI := [lvar 0, lvar 1]
def lOnce1 : List Memo := [mOnce0, mOnce1, mOnce7, mOnce3, mOnce4, mOnce8, mOnce9]
noncomputable def oOnce1 : Orc := orcM [18] lOnce1 (orcA cOnce1 tOnce1)
theorem lOnce1_ok : ∀ M ∈ lOnce1, memoChk M ((evF cOnceP0 pgT (orcA cOnceP0 []) 1000).call M.f M.args ⟨.nil, 0⟩) = true := List.forall_mem_cons.2 ⟨mOnce0_ok, List.forall_mem_cons.2 ⟨mOnce1_ok, List.forall_mem_cons.2 ⟨mOnce7_ok, List.forall_mem_cons.2 ⟨mOnce3_ok, List.forall_mem_cons.2 ⟨mOnce4_ok, List.forall_mem_cons.2 ⟨mOnce8_ok, List.forall_mem_cons.2 ⟨mOnce9_ok, fun _ h => (nomatch h)⟩⟩⟩⟩⟩⟩⟩
theorem lOnce1_pl : lOnce1.all (fun M => plains M.args) = true := by kernel_rfl
theorem rOnce1 : isT ((evF cOnce1 pgT oOnce1 1000).call 8 [.v (.op 0)] ⟨.nil, 0⟩) = true := by kernel_rfl
end Go.Proofs.YtekkoodlnaapeaaGreatDoor.SX
