/- How the laws' parameters read. -/
import Derived.Test.YtfnlghjkjmppdaaOpn
import Derived.Test.YtfnlghjkjmppdaaPCx0
namespace Go.Proofs.Ytfnlghjkjmppdaa.PC
open Go.RowKit Go.Proofs.YtfnlghjkjmppdaaW.PrintWords Go.Proofs.Ytfnlghjkjmppdaa.Opn
instance : Inhabited S37 := ⟨z37⟩
def ok37 (x : S37) : Prop := (fun n => (Lit.int .u8 n).wf = true) x.f0 ∧ (fun n => (Lit.int .i64 n).wf = true) x.f1 ∧ (fun n => (Lit.int .i64 n).wf = true) x.f2 ∧ (fun n => (Lit.int .i64 n).wf = true) x.f3 ∧ (fun n => (Lit.int .i64 n).wf = true) x.f4 ∧ (fun n => (Lit.int .i64 n).wf = true) x.f5 ∧ (fun n => (Lit.int .i64 n).wf = true) x.f6 ∧ (fun n => (Lit.int .i64 n).wf = true) x.f7 ∧ (fun n => (Lit.int .i64 n).wf = true) x.f8 ∧ (fun n => (Lit.int .i64 n).wf = true) x.f9 ∧ (fun n => (Lit.int .i64 n).wf = true) x.f10
theorem opens37 : Opens Try.prog 37 k37 ok37 := by
  refine Opens.mono (ok := fun x : S37 => (fun x : (Int) × (Int) × (Int) × (Int) × (Int) × (Int) × (Int) × (Int) × (Int) × (Int) × (Int) => (fun n => (Lit.int .u8 n).wf = true) x.1 ∧ (fun n => (Lit.int .i64 n).wf = true) x.2.1 ∧ (fun n => (Lit.int .i64 n).wf = true) x.2.2.1 ∧ (fun n => (Lit.int .i64 n).wf = true) x.2.2.2.1 ∧ (fun n => (Lit.int .i64 n).wf = true) x.2.2.2.2.1 ∧ (fun n => (Lit.int .i64 n).wf = true) x.2.2.2.2.2.1 ∧ (fun n => (Lit.int .i64 n).wf = true) x.2.2.2.2.2.2.1 ∧ (fun n => (Lit.int .i64 n).wf = true) x.2.2.2.2.2.2.2.1 ∧ (fun n => (Lit.int .i64 n).wf = true) x.2.2.2.2.2.2.2.2.1 ∧ (fun n => (Lit.int .i64 n).wf = true) x.2.2.2.2.2.2.2.2.2.1 ∧ (fun n => (Lit.int .i64 n).wf = true) x.2.2.2.2.2.2.2.2.2.2) ((fun x : S37 => (x.f0, x.f1, x.f2, x.f3, x.f4, x.f5, x.f6, x.f7, x.f8, x.f9, x.f10)) x)) (opens_struct (d := (Kd.pair (Kd.int .u8) (Kd.pair (Kd.int .i64) (Kd.pair (Kd.int .i64) (Kd.pair (Kd.int .i64) (Kd.pair (Kd.int .i64) (Kd.pair (Kd.int .i64) (Kd.pair (Kd.int .i64) (Kd.pair (Kd.int .i64) (Kd.pair (Kd.int .i64) (Kd.pair (Kd.int .i64) (Kd.int .i64)))))))))))) (ok := fun x : (Int) × (Int) × (Int) × (Int) × (Int) × (Int) × (Int) × (Int) × (Int) × (Int) × (Int) => (fun n => (Lit.int .u8 n).wf = true) x.1 ∧ (fun n => (Lit.int .i64 n).wf = true) x.2.1 ∧ (fun n => (Lit.int .i64 n).wf = true) x.2.2.1 ∧ (fun n => (Lit.int .i64 n).wf = true) x.2.2.2.1 ∧ (fun n => (Lit.int .i64 n).wf = true) x.2.2.2.2.1 ∧ (fun n => (Lit.int .i64 n).wf = true) x.2.2.2.2.2.1 ∧ (fun n => (Lit.int .i64 n).wf = true) x.2.2.2.2.2.2.1 ∧ (fun n => (Lit.int .i64 n).wf = true) x.2.2.2.2.2.2.2.1 ∧ (fun n => (Lit.int .i64 n).wf = true) x.2.2.2.2.2.2.2.2.1 ∧ (fun n => (Lit.int .i64 n).wf = true) x.2.2.2.2.2.2.2.2.2.1 ∧ (fun n => (Lit.int .i64 n).wf = true) x.2.2.2.2.2.2.2.2.2.2) (f := fun x : S37 => (x.f0, x.f1, x.f2, x.f3, x.f4, x.f5, x.f6, x.f7, x.f8, x.f9, x.f10)) Try.underlying37 (by kernel_rfl) ?_ (fun a => ⟨a.1, a.2.1, a.2.2.1, a.2.2.2.1, a.2.2.2.2.1, a.2.2.2.2.2.1, a.2.2.2.2.2.2.1, a.2.2.2.2.2.2.2.1, a.2.2.2.2.2.2.2.2.1, a.2.2.2.2.2.2.2.2.2.1, a.2.2.2.2.2.2.2.2.2.2⟩) (fun _ => rfl)) (fun x h => h)
  refine opensFs_cons (oka := (fun n => (Lit.int .u8 n).wf = true)) (okb := (fun y : (Int) × (Int) × (Int) × (Int) × (Int) × (Int) × (Int) × (Int) × (Int) × (Int) => (fun n => (Lit.int .i64 n).wf = true) y.1 ∧ (fun n => (Lit.int .i64 n).wf = true) y.2.1 ∧ (fun n => (Lit.int .i64 n).wf = true) y.2.2.1 ∧ (fun n => (Lit.int .i64 n).wf = true) y.2.2.2.1 ∧ (fun n => (Lit.int .i64 n).wf = true) y.2.2.2.2.1 ∧ (fun n => (Lit.int .i64 n).wf = true) y.2.2.2.2.2.1 ∧ (fun n => (Lit.int .i64 n).wf = true) y.2.2.2.2.2.2.1 ∧ (fun n => (Lit.int .i64 n).wf = true) y.2.2.2.2.2.2.2.1 ∧ (fun n => (Lit.int .i64 n).wf = true) y.2.2.2.2.2.2.2.2.1 ∧ (fun n => (Lit.int .i64 n).wf = true) y.2.2.2.2.2.2.2.2.2)) ?_ ?_ ?_ ?_
  · exact (opens_int Try.underlying5)
  · rfl
  · kernel_rfl
  refine opensFs_cons (oka := (fun n => (Lit.int .i64 n).wf = true)) (okb := (fun y : (Int) × (Int) × (Int) × (Int) × (Int) × (Int) × (Int) × (Int) × (Int) => (fun n => (Lit.int .i64 n).wf = true) y.1 ∧ (fun n => (Lit.int .i64 n).wf = true) y.2.1 ∧ (fun n => (Lit.int .i64 n).wf = true) y.2.2.1 ∧ (fun n => (Lit.int .i64 n).wf = true) y.2.2.2.1 ∧ (fun n => (Lit.int .i64 n).wf = true) y.2.2.2.2.1 ∧ (fun n => (Lit.int .i64 n).wf = true) y.2.2.2.2.2.1 ∧ (fun n => (Lit.int .i64 n).wf = true) y.2.2.2.2.2.2.1 ∧ (fun n => (Lit.int .i64 n).wf = true) y.2.2.2.2.2.2.2.1 ∧ (fun n => (Lit.int .i64 n).wf = true) y.2.2.2.2.2.2.2.2)) ?_ ?_ ?_ ?_
  · exact (opens_int Try.underlying3)
  · rfl
  · kernel_rfl
  refine opensFs_cons (oka := (fun n => (Lit.int .i64 n).wf = true)) (okb := (fun y : (Int) × (Int) × (Int) × (Int) × (Int) × (Int) × (Int) × (Int) => (fun n => (Lit.int .i64 n).wf = true) y.1 ∧ (fun n => (Lit.int .i64 n).wf = true) y.2.1 ∧ (fun n => (Lit.int .i64 n).wf = true) y.2.2.1 ∧ (fun n => (Lit.int .i64 n).wf = true) y.2.2.2.1 ∧ (fun n => (Lit.int .i64 n).wf = true) y.2.2.2.2.1 ∧ (fun n => (Lit.int .i64 n).wf = true) y.2.2.2.2.2.1 ∧ (fun n => (Lit.int .i64 n).wf = true) y.2.2.2.2.2.2.1 ∧ (fun n => (Lit.int .i64 n).wf = true) y.2.2.2.2.2.2.2)) ?_ ?_ ?_ ?_
  · exact (opens_int Try.underlying3)
  · rfl
  · kernel_rfl
  refine opensFs_cons (oka := (fun n => (Lit.int .i64 n).wf = true)) (okb := (fun y : (Int) × (Int) × (Int) × (Int) × (Int) × (Int) × (Int) => (fun n => (Lit.int .i64 n).wf = true) y.1 ∧ (fun n => (Lit.int .i64 n).wf = true) y.2.1 ∧ (fun n => (Lit.int .i64 n).wf = true) y.2.2.1 ∧ (fun n => (Lit.int .i64 n).wf = true) y.2.2.2.1 ∧ (fun n => (Lit.int .i64 n).wf = true) y.2.2.2.2.1 ∧ (fun n => (Lit.int .i64 n).wf = true) y.2.2.2.2.2.1 ∧ (fun n => (Lit.int .i64 n).wf = true) y.2.2.2.2.2.2)) ?_ ?_ ?_ ?_
  · exact (opens_int Try.underlying3)
  · rfl
  · kernel_rfl
  refine opensFs_cons (oka := (fun n => (Lit.int .i64 n).wf = true)) (okb := (fun y : (Int) × (Int) × (Int) × (Int) × (Int) × (Int) => (fun n => (Lit.int .i64 n).wf = true) y.1 ∧ (fun n => (Lit.int .i64 n).wf = true) y.2.1 ∧ (fun n => (Lit.int .i64 n).wf = true) y.2.2.1 ∧ (fun n => (Lit.int .i64 n).wf = true) y.2.2.2.1 ∧ (fun n => (Lit.int .i64 n).wf = true) y.2.2.2.2.1 ∧ (fun n => (Lit.int .i64 n).wf = true) y.2.2.2.2.2)) ?_ ?_ ?_ ?_
  · exact (opens_int Try.underlying3)
  · rfl
  · kernel_rfl
  refine opensFs_cons (oka := (fun n => (Lit.int .i64 n).wf = true)) (okb := (fun y : (Int) × (Int) × (Int) × (Int) × (Int) => (fun n => (Lit.int .i64 n).wf = true) y.1 ∧ (fun n => (Lit.int .i64 n).wf = true) y.2.1 ∧ (fun n => (Lit.int .i64 n).wf = true) y.2.2.1 ∧ (fun n => (Lit.int .i64 n).wf = true) y.2.2.2.1 ∧ (fun n => (Lit.int .i64 n).wf = true) y.2.2.2.2)) ?_ ?_ ?_ ?_
  · exact (opens_int Try.underlying3)
  · rfl
  · kernel_rfl
  refine opensFs_cons (oka := (fun n => (Lit.int .i64 n).wf = true)) (okb := (fun y : (Int) × (Int) × (Int) × (Int) => (fun n => (Lit.int .i64 n).wf = true) y.1 ∧ (fun n => (Lit.int .i64 n).wf = true) y.2.1 ∧ (fun n => (Lit.int .i64 n).wf = true) y.2.2.1 ∧ (fun n => (Lit.int .i64 n).wf = true) y.2.2.2)) ?_ ?_ ?_ ?_
  · exact (opens_int Try.underlying3)
  · rfl
  · kernel_rfl
  refine opensFs_cons (oka := (fun n => (Lit.int .i64 n).wf = true)) (okb := (fun y : (Int) × (Int) × (Int) => (fun n => (Lit.int .i64 n).wf = true) y.1 ∧ (fun n => (Lit.int .i64 n).wf = true) y.2.1 ∧ (fun n => (Lit.int .i64 n).wf = true) y.2.2)) ?_ ?_ ?_ ?_
  · exact (opens_int Try.underlying3)
  · rfl
  · kernel_rfl
  refine opensFs_cons (oka := (fun n => (Lit.int .i64 n).wf = true)) (okb := (fun y : (Int) × (Int) => (fun n => (Lit.int .i64 n).wf = true) y.1 ∧ (fun n => (Lit.int .i64 n).wf = true) y.2)) ?_ ?_ ?_ ?_
  · exact (opens_int Try.underlying3)
  · rfl
  · kernel_rfl
  refine opensFs_cons (oka := (fun n => (Lit.int .i64 n).wf = true)) (okb := (fun y : (Int) => (fun n => (Lit.int .i64 n).wf = true) y)) ?_ ?_ ?_ ?_
  · exact (opens_int Try.underlying3)
  · rfl
  · kernel_rfl
  refine opensFs_one (ok := (fun n => (Lit.int .i64 n).wf = true)) ?_ ?_ ?_
  · exact (opens_int Try.underlying3)
  · rfl
  · kernel_rfl
end Go.Proofs.Ytfnlghjkjmppdaa.PC
