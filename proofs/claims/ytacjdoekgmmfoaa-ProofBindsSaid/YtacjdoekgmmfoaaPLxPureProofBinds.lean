/- The pure statement of ProofBinds. -/
import Derived.Test.YtacjdoekgmmfoaaPLx0
import Derived.Test.YtacjdoekgmmfoaaPLxOk
namespace Go.Proofs.Ytacjdoekgmmfoaa.PL
open Go.RowKit Go.Proofs.YtacjdoekgmmfoaaW.PrintWords Go.Proofs.Ytacjdoekgmmfoaa.Opn
set_option linter.unusedVariables false in
def kimberlitelaw07_ProofBinds.ok (l0 : List (List Int)) (a1 : Int) (l2 : List Int) (a3 : Int) (a4 : Int) : Prop := (fun l : List (List Int) => l.length ≤ maxLen ∧ ∀ x ∈ l, (fun l : List Int => l.length ≤ maxLen ∧ ∀ x ∈ l, (fun n => (Lit.int .u8 n).wf = true) x) x) l0 ∧ (fun n => (Lit.int .i64 n).wf = true) a1 ∧ (fun l : List Int => l.length ≤ maxLen ∧ ∀ x ∈ l, (fun n => (Lit.int .u8 n).wf = true) x) l2 ∧ (fun n => (Lit.int .i64 n).wf = true) a3 ∧ (fun n => (Lit.int .i64 n).wf = true) a4 ∧ True
def kimberlitelaw07_ProofBinds.Pure2 : Prop := ∀ (l0 : List (List Int)) (a1 : Int) (l2 : List Int) (a3 : Int) (a4 : Int), (fun l : List (List Int) => l.length ≤ maxLen ∧ ∀ x ∈ l, (fun l : List Int => l.length ≤ maxLen ∧ ∀ x ∈ l, (fun n => (Lit.int .u8 n).wf = true) x) x) l0 → (fun n => (Lit.int .i64 n).wf = true) a1 → (fun l : List Int => l.length ≤ maxLen ∧ ∀ x ∈ l, (fun n => (Lit.int .u8 n).wf = true) x) l2 → (fun n => (Lit.int .i64 n).wf = true) a3 → (fun n => (Lit.int .i64 n).wf = true) a4 → ∃ _k : Nat, kimberlitelaw07_ProofBinds.ok l0 a1 l2 a3 a4
end Go.Proofs.Ytacjdoekgmmfoaa.PL
