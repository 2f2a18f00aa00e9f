/- The pure statement of TenderHarm. -/
import Derived.Test.YthfdjccdelbeeaaPTx13
import Derived.Test.YthfdjccdelbeeaaPTxOk
namespace Go.Proofs.Ythfdjccdelbeeaa.PT
open Go.RowKit Go.Proofs.YthfdjccdelbeeaaW.PrintWords Go.Proofs.Ythfdjccdelbeeaa.Opn
def kimberlitelaw05_TenderHarm.Pure2 : Prop := ∀ (a0 : Int) (l1 : List (S50)) (a2 : Int), (fun n => (Lit.int .i64 n).wf = true) a0 → (fun l => l.length ≤ maxLen ∧ ∀ x ∈ l, ok50 x) l1 → (fun n => (Lit.int .i64 n).wf = true) a2 → ∃ k, kimberlitelaw05_TenderHarm.f k a0 l1 a2 = some true
end Go.Proofs.Ythfdjccdelbeeaa.PT
