/- The pure statement of TenderSecond. -/
import Derived.Test.YthfdjccdelbeeaaPTx14
import Derived.Test.YthfdjccdelbeeaaPTxOk
namespace Go.Proofs.Ythfdjccdelbeeaa.PT
open Go.RowKit Go.Proofs.YthfdjccdelbeeaaW.PrintWords Go.Proofs.Ythfdjccdelbeeaa.Opn
def kimberlitelaw05_TenderSecond.Pure2 : Prop := ∀ (l0 : List Int) (l1 : List Int), (fun l => l.length ≤ maxLen ∧ ∀ x ∈ l, (fun n => (Lit.int .i64 n).wf = true) x) l0 → (fun l => l.length ≤ maxLen ∧ ∀ x ∈ l, (fun n => (Lit.int .u8 n).wf = true) x) l1 → ∃ k, kimberlitelaw05_TenderSecond.f k l0 l1 = some true
end Go.Proofs.Ythfdjccdelbeeaa.PT
