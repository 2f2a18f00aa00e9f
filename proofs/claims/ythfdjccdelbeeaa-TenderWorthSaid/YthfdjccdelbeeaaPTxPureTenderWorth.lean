/- The pure statement of TenderWorth. -/
import Derived.Test.YthfdjccdelbeeaaPTx11
import Derived.Test.YthfdjccdelbeeaaPTxOk
namespace Go.Proofs.Ythfdjccdelbeeaa.PT
open Go.RowKit Go.Proofs.YthfdjccdelbeeaaW.PrintWords Go.Proofs.Ythfdjccdelbeeaa.Opn
def kimberlitelaw05_TenderWorth.Pure2 : Prop := ∀ (a0 : Int) (l1 : List (S50)) (l2 : List Bool), (fun n => (Lit.int .i64 n).wf = true) a0 → (fun l => l.length ≤ maxLen ∧ ∀ x ∈ l, ok50 x) l1 → (fun l => l.length ≤ maxLen ∧ ∀ x ∈ l, (fun _ => True) x) l2 → ∃ k, kimberlitelaw05_TenderWorth.f k a0 l1 l2 = some true
end Go.Proofs.Ythfdjccdelbeeaa.PT
