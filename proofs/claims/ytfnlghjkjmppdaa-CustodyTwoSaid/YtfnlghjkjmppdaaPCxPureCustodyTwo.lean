/- The pure statement of CustodyTwo. -/
import Derived.Test.YtfnlghjkjmppdaaPCx0
import Derived.Test.YtfnlghjkjmppdaaPCxOk
namespace Go.Proofs.Ytfnlghjkjmppdaa.PC
open Go.RowKit Go.Proofs.YtfnlghjkjmppdaaW.PrintWords Go.Proofs.Ytfnlghjkjmppdaa.Opn
set_option linter.unusedVariables false in
def kimberlitelaw06_CustodyTwo.ok (l0 : List (S37)) : Prop := (fun l : List (S37) => l.length ≤ maxLen ∧ ∀ x ∈ l, ok37 x) l0 ∧ True
def kimberlitelaw06_CustodyTwo.Pure2 : Prop := ∀ (l0 : List (S37)), (fun l : List (S37) => l.length ≤ maxLen ∧ ∀ x ∈ l, ok37 x) l0 → ∃ _k : Nat, kimberlitelaw06_CustodyTwo.ok l0
end Go.Proofs.Ytfnlghjkjmppdaa.PC
