/- The pure statement of CustodyGroups. -/
import Derived.Test.YtfnlghjkjmppdaaPCx0
import Derived.Test.YtfnlghjkjmppdaaPCxOk
namespace Go.Proofs.Ytfnlghjkjmppdaa.PC
open Go.RowKit Go.Proofs.YtfnlghjkjmppdaaW.PrintWords Go.Proofs.Ytfnlghjkjmppdaa.Opn
set_option linter.unusedVariables false in
def kimberlitelaw06_CustodyGroups.ok (l0 : List (S37)) (a1 : Int) (a2 : Int) (a3 : Int) : Prop := (fun l : List (S37) => l.length ≤ maxLen ∧ ∀ x ∈ l, ok37 x) l0 ∧ (fun n => (Lit.int .i64 n).wf = true) a1 ∧ (fun n => (Lit.int .i64 n).wf = true) a2 ∧ (fun n => (Lit.int .i64 n).wf = true) a3 ∧ True
def kimberlitelaw06_CustodyGroups.Pure2 : Prop := ∀ (l0 : List (S37)) (a1 : Int) (a2 : Int) (a3 : Int), (fun l : List (S37) => l.length ≤ maxLen ∧ ∀ x ∈ l, ok37 x) l0 → (fun n => (Lit.int .i64 n).wf = true) a1 → (fun n => (Lit.int .i64 n).wf = true) a2 → (fun n => (Lit.int .i64 n).wf = true) a3 → ∃ _k : Nat, kimberlitelaw06_CustodyGroups.ok l0 a1 a2 a3
end Go.Proofs.Ytfnlghjkjmppdaa.PC
