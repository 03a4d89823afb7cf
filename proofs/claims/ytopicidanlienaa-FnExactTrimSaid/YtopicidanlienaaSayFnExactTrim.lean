import Derived.Test.YtopicidanlienaaPFnExactTrimx19
/- The pure statement of the law FnExactTrim, over its printed function. -/
namespace Go.Proofs.Ytopicidanlienaa.PFnExactTrim
open Go.RowKit Go.Proofs.Ytopicidanlienaa.PFnExactTrim Go.Proofs.YtopicidanlienaaW.PrintWords Go.Proofs.YtopicidanlienaaW.PrintLast Go.Proofs.YtopicidanlienaaW.PrintMore

def laws_FnExactTrim.Say : Prop := ∀ (l0_0 : (List ByteArray)) (l0_1 : (List S77)) (l0_2 : (List S79)) (l0_3 : (List S81)) (l0_4 : (List S83)), (l0_0.length ≤ maxLen ∧ ∀ x_ ∈ l0_0, x_.size ≤ maxLen) → (l0_1.length ≤ maxLen ∧ ∀ x_ ∈ l0_1, (x_.f0.size ≤ maxLen) ∧ (x_.f1.size ≤ maxLen) ∧ (x_.f2.size ≤ maxLen)) → (l0_2.length ≤ maxLen ∧ ∀ x_ ∈ l0_2, ((Lit.int .i64 x_.f0).wf = true) ∧ (x_.f1.size ≤ maxLen) ∧ (x_.f2.size ≤ maxLen) ∧ (x_.f3.size ≤ maxLen)) → (l0_3.length ≤ maxLen ∧ ∀ x_ ∈ l0_3, ((Lit.int .i64 x_.f0).wf = true) ∧ (x_.f1.size ≤ maxLen) ∧ ((Lit.int .i64 x_.f2).wf = true)) → (l0_4.length ≤ maxLen ∧ ∀ x_ ∈ l0_4, ((Lit.int .i64 x_.f0).wf = true) ∧ ((Lit.int .i64 x_.f1).wf = true) ∧ (x_.f2.size ≤ maxLen) ∧ (x_.f3.size ≤ maxLen) ∧ ((Lit.int .i64 x_.f4).wf = true) ∧ ((Lit.int .i64 x_.f5).wf = true)) → ∃ k, laws_FnExactTrim.f k l0_0 l0_1 l0_2 l0_3 l0_4 = some true

end Go.Proofs.Ytopicidanlienaa.PFnExactTrim
