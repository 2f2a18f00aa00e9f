/- The pure statement of ProofGrows. -/
import Derived.Test.YtacjdoekgmmfoaaPLx0
import Derived.Test.YtacjdoekgmmfoaaPLxOk
namespace Go.Proofs.Ytacjdoekgmmfoaa.PL
open Go.RowKit Go.Proofs.YtacjdoekgmmfoaaW.PrintWords Go.Proofs.Ytacjdoekgmmfoaa.Opn
set_option linter.unusedVariables false in
def kimberlitelaw07_ProofGrows.ok (l0 : List (List Int)) (l1 : List (List Int)) (a2 : Int) (a3 : Int) (a4 : Int) : Prop := (fun l : List (List Int) => l.length ≤ maxLen ∧ ∀ x ∈ l, (fun l : List Int => l.length ≤ maxLen ∧ ∀ x ∈ l, (fun n => (Lit.int .u8 n).wf = true) x) x) l0 ∧ (fun l : List (List Int) => l.length ≤ maxLen ∧ ∀ x ∈ l, (fun l : List Int => l.length ≤ maxLen ∧ ∀ x ∈ l, (fun n => (Lit.int .u8 n).wf = true) x) x) l1 ∧ (fun n => (Lit.int .i64 n).wf = true) a2 ∧ (fun n => (Lit.int .u8 n).wf = true) a3 ∧ (fun n => (Lit.int .u64 n).wf = true) a4 ∧ True
def kimberlitelaw07_ProofGrows.Pure2 : Prop := ∀ (l0 : List (List Int)) (l1 : List (List Int)) (a2 : Int) (a3 : Int) (a4 : Int), (fun l : List (List Int) => l.length ≤ maxLen ∧ ∀ x ∈ l, (fun l : List Int => l.length ≤ maxLen ∧ ∀ x ∈ l, (fun n => (Lit.int .u8 n).wf = true) x) x) l0 → (fun l : List (List Int) => l.length ≤ maxLen ∧ ∀ x ∈ l, (fun l : List Int => l.length ≤ maxLen ∧ ∀ x ∈ l, (fun n => (Lit.int .u8 n).wf = true) x) x) l1 → (fun n => (Lit.int .i64 n).wf = true) a2 → (fun n => (Lit.int .u8 n).wf = true) a3 → (fun n => (Lit.int .u64 n).wf = true) a4 → ∃ _k : Nat, kimberlitelaw07_ProofGrows.ok l0 l1 a2 a3 a4
end Go.Proofs.Ytacjdoekgmmfoaa.PL
