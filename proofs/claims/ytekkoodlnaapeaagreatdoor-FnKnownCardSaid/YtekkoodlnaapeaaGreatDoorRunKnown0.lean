import Derived.Test.YtekkoodlnaapeaaGreatDoorMemoKnown
import Derived.Test.YtekkoodlnaapeaaGreatDoorOnum
/- The law FnKnown, reckoned. -/
set_option linter.unusedVariables false
set_option linter.unusedSimpArgs false
set_option linter.constructorNameAsVariable false
/- Known: the run, case Known0. -/
namespace Go.Proofs.YtekkoodlnaapeaaGreatDoor.SX
set_option maxRecDepth 100000
def cKnown0 : Ctx := ⟨[(0,255),(0,255),(0,255),(0,99),(1,3),(48,57),(1,3),(48,57),(1,3),(48,57)], [(lvar 1, 6, 7), (lvar 3, 8, 9)], [(lvar 2, 100, lvar 3)]⟩
def tKnown0 : List SI := [.c 0, lvar 1, lvar 2]
def lKnown0 : List Memo := [mKnown0, mKnown1]
noncomputable def oKnown0 : Orc := orcM [18] lKnown0 (orcN cKnown0 tKnown0)
theorem lKnown0_ok : ∀ M ∈ lKnown0, memoChk M ((evF cKnownP0 pgT (orcA cKnownP0 []) 1000).call M.f M.args ⟨.nil, 0⟩) = true := List.forall_mem_cons.2 ⟨mKnown0_ok, List.forall_mem_cons.2 ⟨mKnown1_ok, fun _ h => (nomatch h)⟩⟩
theorem lKnown0_pl : lKnown0.all (fun M => plains M.args) = true := by kernel_rfl
theorem rKnown0 : isT ((evF cKnown0 pgT oKnown0 1000).call 4 [.v (.op 0)] ⟨.nil, 0⟩) = true := by kernel_rfl
end Go.Proofs.YtekkoodlnaapeaaGreatDoor.SX
