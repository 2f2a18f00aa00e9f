/- The pure statement of TenderDecides. -/
import Derived.Test.YthfdjccdelbeeaaPTx16
import Derived.Test.YthfdjccdelbeeaaPTxOk
namespace Go.Proofs.Ythfdjccdelbeeaa.PT
open Go.RowKit Go.Proofs.YthfdjccdelbeeaaW.PrintWords Go.Proofs.Ythfdjccdelbeeaa.Opn
def kimberlitelaw05_TenderDecides.Pure2 : Prop := ∀ (a0 : Int) (l1 : List (S50)) (a2 : Int) (l3 : List Int), (fun n => (Lit.int .i64 n).wf = true) a0 → (fun l => l.length ≤ maxLen ∧ ∀ x ∈ l, ok50 x) l1 → (fun n => (Lit.int .i64 n).wf = true) a2 → (fun l => l.length ≤ maxLen ∧ ∀ x ∈ l, (fun n => (Lit.int .i64 n).wf = true) x) l3 → ∃ k, kimberlitelaw05_TenderDecides.f k a0 l1 a2 l3 = some true
end Go.Proofs.Ythfdjccdelbeeaa.PT
