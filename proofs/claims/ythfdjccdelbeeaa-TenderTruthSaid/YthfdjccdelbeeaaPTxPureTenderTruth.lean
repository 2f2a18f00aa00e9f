/- The pure statement of TenderTruth. -/
import Derived.Test.YthfdjccdelbeeaaPTx18
import Derived.Test.YthfdjccdelbeeaaPTxOk
namespace Go.Proofs.Ythfdjccdelbeeaa.PT
open Go.RowKit Go.Proofs.YthfdjccdelbeeaaW.PrintWords Go.Proofs.Ythfdjccdelbeeaa.Opn
def kimberlitelaw05_TenderTruth.Pure2 : Prop := ∀ (a0 : Int) (l1 : List (S50)) (l2 : List (S50)) (l3 : List (S50)) (a4 : Int), (fun n => (Lit.int .i64 n).wf = true) a0 → (fun l => l.length ≤ maxLen ∧ ∀ x ∈ l, ok50 x) l1 → (fun l => l.length ≤ maxLen ∧ ∀ x ∈ l, ok50 x) l2 → (fun l => l.length ≤ maxLen ∧ ∀ x ∈ l, ok50 x) l3 → (fun n => (Lit.int .i64 n).wf = true) a4 → ∃ k, kimberlitelaw05_TenderTruth.f k a0 l1 l2 l3 a4 = some true
end Go.Proofs.Ythfdjccdelbeeaa.PT
