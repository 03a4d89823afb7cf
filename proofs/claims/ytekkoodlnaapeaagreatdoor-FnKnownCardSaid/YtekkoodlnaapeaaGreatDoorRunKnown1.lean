import Derived.Test.YtekkoodlnaapeaaGreatDoorMemoKnown
import Derived.Test.YtekkoodlnaapeaaGreatDoorOnum
/- The law FnKnown, reckoned. -/
set_option linter.unusedVariables false
set_option linter.unusedSimpArgs false
set_option linter.constructorNameAsVariable false
/- Known: the run, case Known1. -/
namespace Go.Proofs.YtekkoodlnaapeaaGreatDoor.SX
set_option maxRecDepth 100000
def cKnown1 : Ctx := ⟨[(1,255),(0,255),(0,255),(0,99),(1,3),(48,57),(1,3),(48,57),(1,3),(48,57)], [(lvar 0, 4, 5), (lvar 1, 6, 7), (lvar 3, 8, 9)], [(lvar 2, 100, lvar 3)]⟩
def tKnown1 : List SI := [lvar 0, lvar 1, lvar 2]
def lKnown1 : List Memo := [mKnown2, mKnown3]
noncomputable def oKnown1 : Orc := orcM [18] lKnown1 (orcN cKnown1 tKnown1)
theorem lKnown1_ok : ∀ M ∈ lKnown1, memoChk M ((evF cKnownP1 pgT (orcA cKnownP1 []) 1000).call M.f M.args ⟨.nil, 0⟩) = true := List.forall_mem_cons.2 ⟨mKnown2_ok, List.forall_mem_cons.2 ⟨mKnown3_ok, fun _ h => (nomatch h)⟩⟩
theorem lKnown1_pl : lKnown1.all (fun M => plains M.args) = true := by kernel_rfl
theorem rKnown1 : isT ((evF cKnown1 pgT oKnown1 1000).call 4 [.v (.op 0)] ⟨.nil, 0⟩) = true := by kernel_rfl
end Go.Proofs.YtekkoodlnaapeaaGreatDoor.SX
