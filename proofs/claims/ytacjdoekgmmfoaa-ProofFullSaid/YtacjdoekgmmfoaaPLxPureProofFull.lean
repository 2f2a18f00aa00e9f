/- The pure statement of ProofFull. -/
import Derived.Test.YtacjdoekgmmfoaaPLx0
import Derived.Test.YtacjdoekgmmfoaaPLxOk
namespace Go.Proofs.Ytacjdoekgmmfoaa.PL
open Go.RowKit Go.Proofs.YtacjdoekgmmfoaaW.PrintWords Go.Proofs.Ytacjdoekgmmfoaa.Opn
set_option linter.unusedVariables false in
def kimberlitelaw07_ProofFull.ok (a0 : Int) (a1 : Int) : Prop := (fun n => (Lit.int .u16 n).wf = true) a0 ∧ (fun n => (Lit.int .u16 n).wf = true) a1 ∧ True
def kimberlitelaw07_ProofFull.Pure2 : Prop := ∀ (a0 : Int) (a1 : Int), (fun n => (Lit.int .u16 n).wf = true) a0 → (fun n => (Lit.int .u16 n).wf = true) a1 → ∃ _k : Nat, kimberlitelaw07_ProofFull.ok a0 a1
end Go.Proofs.Ytacjdoekgmmfoaa.PL
