/- The pure statement of TenderSeals. -/
import Derived.Test.YthfdjccdelbeeaaPTx7
import Derived.Test.YthfdjccdelbeeaaPTxOk
namespace Go.Proofs.Ythfdjccdelbeeaa.PT
open Go.RowKit Go.Proofs.YthfdjccdelbeeaaW.PrintWords Go.Proofs.Ythfdjccdelbeeaa.Opn
def kimberlitelaw05_TenderSeals.Pure2 : Prop := ∀ (l0 : List (S50)) (a1 : Int), (fun l => l.length ≤ maxLen ∧ ∀ x ∈ l, ok50 x) l0 → (fun n => (Lit.int .u64 n).wf = true) a1 → ∃ k, kimberlitelaw05_TenderSeals.f k l0 a1 = some true
end Go.Proofs.Ythfdjccdelbeeaa.PT
