/- The pure statement of ProofOrder. -/
import Derived.Test.YtacjdoekgmmfoaaPLx0
import Derived.Test.YtacjdoekgmmfoaaPLxOk
namespace Go.Proofs.Ytacjdoekgmmfoaa.PL
open Go.RowKit Go.Proofs.YtacjdoekgmmfoaaW.PrintWords Go.Proofs.Ytacjdoekgmmfoaa.Opn
set_option linter.unusedVariables false in
def kimberlitelaw07_ProofOrder.ok (l0 : List (List Int)) (a1 : Int) (a2 : Int) : Prop := (fun l : List (List Int) => l.length ≤ maxLen ∧ ∀ x ∈ l, (fun l : List Int => l.length ≤ maxLen ∧ ∀ x ∈ l, (fun n => (Lit.int .u8 n).wf = true) x) x) l0 ∧ (fun n => (Lit.int .i64 n).wf = true) a1 ∧ (fun n => (Lit.int .i64 n).wf = true) a2 ∧ True
def kimberlitelaw07_ProofOrder.Pure2 : Prop := ∀ (l0 : List (List Int)) (a1 : Int) (a2 : Int), (fun l : List (List Int) => l.length ≤ maxLen ∧ ∀ x ∈ l, (fun l : List Int => l.length ≤ maxLen ∧ ∀ x ∈ l, (fun n => (Lit.int .u8 n).wf = true) x) x) l0 → (fun n => (Lit.int .i64 n).wf = true) a1 → (fun n => (Lit.int .i64 n).wf = true) a2 → ∃ _k : Nat, kimberlitelaw07_ProofOrder.ok l0 a1 a2
end Go.Proofs.Ytacjdoekgmmfoaa.PL
