/- The pure statement of CustodyFull. -/
import Derived.Test.YtfnlghjkjmppdaaPCx0
import Derived.Test.YtfnlghjkjmppdaaPCxOk
namespace Go.Proofs.Ytfnlghjkjmppdaa.PC
open Go.RowKit Go.Proofs.YtfnlghjkjmppdaaW.PrintWords Go.Proofs.Ytfnlghjkjmppdaa.Opn
set_option linter.unusedVariables false in
def kimberlitelaw06_CustodyFull.ok (a0 : Int) : Prop := (fun n => (Lit.int .u8 n).wf = true) a0 ∧ True
def kimberlitelaw06_CustodyFull.Pure2 : Prop := ∀ (a0 : Int), (fun n => (Lit.int .u8 n).wf = true) a0 → ∃ _k : Nat, kimberlitelaw06_CustodyFull.ok a0
end Go.Proofs.Ytfnlghjkjmppdaa.PC
