/- How the laws' parameters read. -/
import Derived.Test.YthfdjccdelbeeaaOpn
import Derived.Test.YthfdjccdelbeeaaPTx0
namespace Go.Proofs.Ythfdjccdelbeeaa.PT
open Go.RowKit Go.Proofs.YthfdjccdelbeeaaW.PrintWords Go.Proofs.Ythfdjccdelbeeaa.Opn
instance : Inhabited S50 := ⟨z50⟩
def ok50 (x : S50) : Prop := (fun n => (Lit.int .i64 n).wf = true) x.f0 ∧ (fun n => (Lit.int .i64 n).wf = true) x.f1 ∧ (fun n => (Lit.int .i64 n).wf = true) x.f2
theorem opens50 : Opens Try.prog 50 k50 ok50 := by
  refine Opens.mono (ok := fun x : S50 => (fun x : (Int) × (Int) × (Int) => (fun n => (Lit.int .i64 n).wf = true) x.1 ∧ (fun n => (Lit.int .i64 n).wf = true) x.2.1 ∧ (fun n => (Lit.int .i64 n).wf = true) x.2.2) ((fun x : S50 => (x.f0, x.f1, x.f2)) x)) (opens_struct (d := (Kd.pair (Kd.int .i64) (Kd.pair (Kd.int .i64) (Kd.int .i64)))) (ok := fun x : (Int) × (Int) × (Int) => (fun n => (Lit.int .i64 n).wf = true) x.1 ∧ (fun n => (Lit.int .i64 n).wf = true) x.2.1 ∧ (fun n => (Lit.int .i64 n).wf = true) x.2.2) (f := fun x : S50 => (x.f0, x.f1, x.f2)) Try.underlying50 (by kernel_rfl) ?_ (fun a => ⟨a.1, a.2.1, a.2.2⟩) (fun _ => rfl)) (fun x h => h)
  refine opensFs_cons (oka := (fun n => (Lit.int .i64 n).wf = true)) (okb := (fun y : (Int) × (Int) => (fun n => (Lit.int .i64 n).wf = true) y.1 ∧ (fun n => (Lit.int .i64 n).wf = true) y.2)) ?_ ?_ ?_ ?_
  · exact (opens_int Try.underlying3)
  · rfl
  · kernel_rfl
  refine opensFs_cons (oka := (fun n => (Lit.int .i64 n).wf = true)) (okb := (fun y : (Int) => (fun n => (Lit.int .i64 n).wf = true) y)) ?_ ?_ ?_ ?_
  · exact (opens_int Try.underlying3)
  · rfl
  · kernel_rfl
  refine opensFs_one (ok := (fun n => (Lit.int .i64 n).wf = true)) ?_ ?_ ?_
  · exact (opens_int Try.underlying3)
  · rfl
  · kernel_rfl
end Go.Proofs.Ythfdjccdelbeeaa.PT
