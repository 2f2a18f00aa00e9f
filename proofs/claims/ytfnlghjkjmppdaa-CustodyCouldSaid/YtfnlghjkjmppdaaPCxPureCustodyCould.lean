/- The pure statement of CustodyCould. -/
import Derived.Test.YtfnlghjkjmppdaaPCx0
import Derived.Test.YtfnlghjkjmppdaaPCxOk
namespace Go.Proofs.Ytfnlghjkjmppdaa.PC
open Go.RowKit Go.Proofs.YtfnlghjkjmppdaaW.PrintWords Go.Proofs.Ytfnlghjkjmppdaa.Opn
set_option linter.unusedVariables false in
def kimberlitelaw06_CustodyCould.ok (l0 : List (S37)) (a1 : Int) (l2 : List (S37)) : Prop := (fun l : List (S37) => l.length ≤ maxLen ∧ ∀ x ∈ l, ok37 x) l0 ∧ (fun n => (Lit.int .i64 n).wf = true) a1 ∧ (fun l : List (S37) => l.length ≤ maxLen ∧ ∀ x ∈ l, ok37 x) l2 ∧ True
def kimberlitelaw06_CustodyCould.Pure2 : Prop := ∀ (l0 : List (S37)) (a1 : Int) (l2 : List (S37)), (fun l : List (S37) => l.length ≤ maxLen ∧ ∀ x ∈ l, ok37 x) l0 → (fun n => (Lit.int .i64 n).wf = true) a1 → (fun l : List (S37) => l.length ≤ maxLen ∧ ∀ x ∈ l, ok37 x) l2 → ∃ _k : Nat, kimberlitelaw06_CustodyCould.ok l0 a1 l2
end Go.Proofs.Ytfnlghjkjmppdaa.PC
