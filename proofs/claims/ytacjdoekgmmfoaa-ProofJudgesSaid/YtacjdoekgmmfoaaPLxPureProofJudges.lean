/- The pure statement of ProofJudges. -/
import Derived.Test.YtacjdoekgmmfoaaPLx16
import Derived.Test.YtacjdoekgmmfoaaPLxOk
namespace Go.Proofs.Ytacjdoekgmmfoaa.PL
open Go.RowKit Go.Proofs.YtacjdoekgmmfoaaW.PrintWords Go.Proofs.Ytacjdoekgmmfoaa.Opn
def kimberlitelaw07_ProofJudges.Pure2 : Prop := ∀ (l0 : List Int) (a1 : Int) (a2 : Int) (a3 : Int) (l4 : List (S54)) (a5 : Int) (a6 : Int) (l7 : List Int), (fun l : List Int => l.length ≤ maxLen ∧ ∀ x ∈ l, (fun n => (Lit.int .u8 n).wf = true) x) l0 → (fun n => (Lit.int .i64 n).wf = true) a1 → (fun n => (Lit.int .i64 n).wf = true) a2 → (fun n => (Lit.int .u64 n).wf = true) a3 → (fun l : List (S54) => l.length ≤ maxLen ∧ ∀ x ∈ l, ok54 x) l4 → (fun n => (Lit.int .i64 n).wf = true) a5 → (fun n => (Lit.int .u64 n).wf = true) a6 → (fun l : List Int => l.length ≤ maxLen ∧ ∀ x ∈ l, (fun n => (Lit.int .u64 n).wf = true) x) l7 → ∃ k, kimberlitelaw07_ProofJudges.f k l0 a1 a2 a3 l4 a5 a6 l7 = some true
end Go.Proofs.Ytacjdoekgmmfoaa.PL
