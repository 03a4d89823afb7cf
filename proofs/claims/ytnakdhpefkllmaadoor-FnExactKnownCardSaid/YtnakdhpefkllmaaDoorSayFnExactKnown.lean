import Derived.Test.YtnakdhpefkllmaaDoorPFnExactKnownx13
/- The pure statement of the law FnExactKnown, over its printed function. -/
namespace Go.Proofs.YtnakdhpefkllmaaDoor.PFnExactKnown
open Go.RowKit Go.Proofs.YtnakdhpefkllmaaDoor.PFnExactKnown Go.Proofs.YtnakdhpefkllmaaDoorW.PrintWords Go.Proofs.YtnakdhpefkllmaaDoorW.PrintLast Go.Proofs.YtnakdhpefkllmaaDoorW.PrintMore

def laws_FnExactKnown.Say : Prop := ∀ (l0_0 : (List ByteArray)) (l0_1 : (List S65)) (l0_2 : (List S68)) (l0_3 : (List S71)) (l0_4 : (List S74)) (a1 : Int), (l0_0.length ≤ maxLen ∧ ∀ x_ ∈ l0_0, x_.size ≤ maxLen) → (l0_1.length ≤ maxLen ∧ ∀ x_ ∈ l0_1, (x_.f0.size ≤ maxLen) ∧ (x_.f1.size ≤ maxLen) ∧ (x_.f2.size ≤ maxLen)) → (l0_2.length ≤ maxLen ∧ ∀ x_ ∈ l0_2, ((Lit.int .i64 x_.f0).wf = true) ∧ (x_.f1.size ≤ maxLen) ∧ (x_.f2.size ≤ maxLen) ∧ (x_.f3.size ≤ maxLen)) → (l0_3.length ≤ maxLen ∧ ∀ x_ ∈ l0_3, ((Lit.int .i64 x_.f0).wf = true) ∧ (x_.f1.size ≤ maxLen) ∧ ((Lit.int .i64 x_.f2).wf = true)) → (l0_4.length ≤ maxLen ∧ ∀ x_ ∈ l0_4, ((Lit.int .i64 x_.f0).wf = true) ∧ ((Lit.int .i64 x_.f1).wf = true) ∧ (x_.f2.size ≤ maxLen) ∧ (x_.f3.size ≤ maxLen) ∧ ((Lit.int .i64 x_.f4).wf = true) ∧ ((Lit.int .i64 x_.f5).wf = true)) → (Lit.int .i64 a1).wf = true → ∃ k, laws_FnExactKnown.f k l0_0 l0_1 l0_2 l0_3 l0_4 a1 = some true

end Go.Proofs.YtnakdhpefkllmaaDoor.PFnExactKnown
