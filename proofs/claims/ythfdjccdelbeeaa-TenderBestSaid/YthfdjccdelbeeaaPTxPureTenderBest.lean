/- The pure statement of TenderBest. -/
import Derived.Test.YthfdjccdelbeeaaPTx7
import Derived.Test.YthfdjccdelbeeaaPTxOk
namespace Go.Proofs.Ythfdjccdelbeeaa.PT
open Go.RowKit Go.Proofs.YthfdjccdelbeeaaW.PrintWords Go.Proofs.Ythfdjccdelbeeaa.Opn
def kimberlitelaw05_TenderBest.Pure2 : Prop := ∀ (a0 : Int) (l1 : List (S50)), (fun n => (Lit.int .i64 n).wf = true) a0 → (fun l => l.length ≤ maxLen ∧ ∀ x ∈ l, ok50 x) l1 → ∃ k, kimberlitelaw05_TenderBest.f k a0 l1 = some true
end Go.Proofs.Ythfdjccdelbeeaa.PT
