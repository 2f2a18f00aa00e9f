/- The pure statement of ProofBlames. -/
import Derived.Test.YtacjdoekgmmfoaaPLx0
import Derived.Test.YtacjdoekgmmfoaaPLxOk
namespace Go.Proofs.Ytacjdoekgmmfoaa.PL
open Go.RowKit Go.Proofs.YtacjdoekgmmfoaaW.PrintWords Go.Proofs.Ytacjdoekgmmfoaa.Opn
set_option linter.unusedVariables false in
def kimberlitelaw07_ProofBlames.ok (a0 : Int) (a1 : Int) (l2_0 : List Int) (l2_1 : List (S54)) (l3_0 : List Int) (l3_1 : List (S54)) : Prop := (fun n => (Lit.int .i64 n).wf = true) a0 ∧ (fun n => (Lit.int .i64 n).wf = true) a1 ∧ ok25 (⟨l2_0, l2_1⟩ : S25) ∧ ok25 (⟨l3_0, l3_1⟩ : S25) ∧ True
def kimberlitelaw07_ProofBlames.Pure2 : Prop := ∀ (a0 : Int) (a1 : Int) (l2_0 : List Int) (l2_1 : List (S54)) (l3_0 : List Int) (l3_1 : List (S54)), (fun n => (Lit.int .i64 n).wf = true) a0 → (fun n => (Lit.int .i64 n).wf = true) a1 → ok25 (⟨l2_0, l2_1⟩ : S25) → ok25 (⟨l3_0, l3_1⟩ : S25) → ∃ _k : Nat, kimberlitelaw07_ProofBlames.ok a0 a1 l2_0 l2_1 l3_0 l3_1
end Go.Proofs.Ytacjdoekgmmfoaa.PL
