/- The pure statement of CustodyTaken. -/
import Derived.Test.YtfnlghjkjmppdaaPCx0
import Derived.Test.YtfnlghjkjmppdaaPCxOk
namespace Go.Proofs.Ytfnlghjkjmppdaa.PC
open Go.RowKit Go.Proofs.YtfnlghjkjmppdaaW.PrintWords Go.Proofs.Ytfnlghjkjmppdaa.Opn
set_option linter.unusedVariables false in
def kimberlitelaw06_CustodyTaken.ok (l0 : List (S37)) (a1 : Int) (a2 : Int) (l3 : List (S37)) : Prop := (fun l : List (S37) => l.length ≤ maxLen ∧ ∀ x ∈ l, ok37 x) l0 ∧ (fun n => (Lit.int .i64 n).wf = true) a1 ∧ (fun n => (Lit.int .i64 n).wf = true) a2 ∧ (fun l : List (S37) => l.length ≤ maxLen ∧ ∀ x ∈ l, ok37 x) l3 ∧ True
def kimberlitelaw06_CustodyTaken.Pure2 : Prop := ∀ (l0 : List (S37)) (a1 : Int) (a2 : Int) (l3 : List (S37)), (fun l : List (S37) => l.length ≤ maxLen ∧ ∀ x ∈ l, ok37 x) l0 → (fun n => (Lit.int .i64 n).wf = true) a1 → (fun n => (Lit.int .i64 n).wf = true) a2 → (fun l : List (S37) => l.length ≤ maxLen ∧ ∀ x ∈ l, ok37 x) l3 → ∃ _k : Nat, kimberlitelaw06_CustodyTaken.ok l0 a1 a2 l3
end Go.Proofs.Ytfnlghjkjmppdaa.PC
