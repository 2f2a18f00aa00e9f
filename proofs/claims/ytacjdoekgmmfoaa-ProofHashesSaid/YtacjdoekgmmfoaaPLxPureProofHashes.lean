/- The pure statement of ProofHashes. -/
import Derived.Test.YtacjdoekgmmfoaaPLx10
import Derived.Test.YtacjdoekgmmfoaaPLxOk
namespace Go.Proofs.Ytacjdoekgmmfoaa.PL
open Go.RowKit Go.Proofs.YtacjdoekgmmfoaaW.PrintWords Go.Proofs.Ytacjdoekgmmfoaa.Opn
def kimberlitelaw07_ProofHashes.Pure2 : Prop := ∀ (l0 : List (List Int)) (l1 : List Int) (a2 : Int) (a3 : Int), (fun l : List (List Int) => l.length ≤ maxLen ∧ ∀ x ∈ l, (fun l : List Int => l.length ≤ maxLen ∧ ∀ x ∈ l, (fun n => (Lit.int .u8 n).wf = true) x) x) l0 → (fun l : List Int => l.length ≤ maxLen ∧ ∀ x ∈ l, (fun n => (Lit.int .u8 n).wf = true) x) l1 → (fun n => (Lit.int .u64 n).wf = true) a2 → (fun n => (Lit.int .u64 n).wf = true) a3 → ∃ k, kimberlitelaw07_ProofHashes.f k l0 l1 a2 a3 = some true
end Go.Proofs.Ytacjdoekgmmfoaa.PL
