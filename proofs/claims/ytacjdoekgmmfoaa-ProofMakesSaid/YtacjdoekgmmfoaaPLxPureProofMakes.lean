/- The pure statement of ProofMakes. -/
import Derived.Test.YtacjdoekgmmfoaaPLx16
import Derived.Test.YtacjdoekgmmfoaaPLxOk
namespace Go.Proofs.Ytacjdoekgmmfoaa.PL
open Go.RowKit Go.Proofs.YtacjdoekgmmfoaaW.PrintWords Go.Proofs.Ytacjdoekgmmfoaa.Opn
def kimberlitelaw07_ProofMakes.Pure2 : Prop := ∀ (l0 : List (List Int)) (a1 : Int) (a2 : Int), (fun l : List (List Int) => l.length ≤ maxLen ∧ ∀ x ∈ l, (fun l : List Int => l.length ≤ maxLen ∧ ∀ x ∈ l, (fun n => (Lit.int .u8 n).wf = true) x) x) l0 → (fun n => (Lit.int .i64 n).wf = true) a1 → (fun n => (Lit.int .i64 n).wf = true) a2 → ∃ k, kimberlitelaw07_ProofMakes.f k l0 a1 a2 = some true
end Go.Proofs.Ytacjdoekgmmfoaa.PL
