/- The pure statement of ProofNobody. -/
import Derived.Test.YtacjdoekgmmfoaaPLx0
import Derived.Test.YtacjdoekgmmfoaaPLxOk
namespace Go.Proofs.Ytacjdoekgmmfoaa.PL
open Go.RowKit Go.Proofs.YtacjdoekgmmfoaaW.PrintWords Go.Proofs.Ytacjdoekgmmfoaa.Opn
set_option linter.unusedVariables false in
def kimberlitelaw07_ProofNobody.ok (l0 : List Int) (a1 : Int) (a2 : Int) (a3 : Bool) : Prop := (fun l : List Int => l.length ≤ maxLen ∧ ∀ x ∈ l, (fun n => (Lit.int .u8 n).wf = true) x) l0 ∧ (fun n => (Lit.int .i64 n).wf = true) a1 ∧ (fun n => (Lit.int .i64 n).wf = true) a2 ∧ (fun _ => True) a3 ∧ True
def kimberlitelaw07_ProofNobody.Pure2 : Prop := ∀ (l0 : List Int) (a1 : Int) (a2 : Int) (a3 : Bool), (fun l : List Int => l.length ≤ maxLen ∧ ∀ x ∈ l, (fun n => (Lit.int .u8 n).wf = true) x) l0 → (fun n => (Lit.int .i64 n).wf = true) a1 → (fun n => (Lit.int .i64 n).wf = true) a2 → (fun _ => True) a3 → ∃ _k : Nat, kimberlitelaw07_ProofNobody.ok l0 a1 a2 a3
end Go.Proofs.Ytacjdoekgmmfoaa.PL
