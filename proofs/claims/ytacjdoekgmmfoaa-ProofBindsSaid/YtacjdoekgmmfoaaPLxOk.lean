/- How the laws' parameters read. -/
import Derived.Test.YtacjdoekgmmfoaaOpn
import Derived.Test.YtacjdoekgmmfoaaPLx0
namespace Go.Proofs.Ytacjdoekgmmfoaa.PL
open Go.RowKit Go.Proofs.YtacjdoekgmmfoaaW.PrintWords Go.Proofs.Ytacjdoekgmmfoaa.Opn
instance : Inhabited S54 := ⟨z54⟩
def ok54 (x : S54) : Prop := (fun n => (Lit.int .u64 n).wf = true) x.f0 ∧ (fun _ => True) x.f1
theorem opens54 : Opens Try.prog 54 k54 ok54 := by
  refine Opens.mono (ok := fun x : S54 => (fun x : (Int) × (Bool) => (fun n => (Lit.int .u64 n).wf = true) x.1 ∧ (fun _ => True) x.2) ((fun x : S54 => (x.f0, x.f1)) x)) (opens_struct (d := (Kd.pair (Kd.int .u64) Kd.bool)) (ok := fun x : (Int) × (Bool) => (fun n => (Lit.int .u64 n).wf = true) x.1 ∧ (fun _ => True) x.2) (f := fun x : S54 => (x.f0, x.f1)) Try.underlying54 (by kernel_rfl) ?_ (fun a => ⟨a.1, a.2⟩) (fun _ => rfl)) (fun x h => h)
  refine opensFs_cons (oka := (fun n => (Lit.int .u64 n).wf = true)) (okb := (fun y : (Bool) => (fun _ => True) y)) ?_ ?_ ?_ ?_
  · exact (opens_int Try.underlying33)
  · rfl
  · kernel_rfl
  refine opensFs_one (ok := (fun _ => True)) ?_ ?_ ?_
  · exact (opens_bool Try.underlying4)
  · rfl
  · kernel_rfl
instance : Inhabited S25 := ⟨z25⟩
def ok25 (x : S25) : Prop := (fun l : List Int => l.length ≤ maxLen ∧ ∀ x ∈ l, (fun n => (Lit.int .u8 n).wf = true) x) x.f0 ∧ (fun l : List (S54) => l.length ≤ maxLen ∧ ∀ x ∈ l, ok54 x) x.f1
theorem opens25 : Opens Try.prog 25 k25 ok25 := by
  refine Opens.mono (ok := fun x : S25 => (fun x : (List Int) × (List (S54)) => (fun l : List Int => l.length ≤ maxLen ∧ ∀ x ∈ l, (fun n => (Lit.int .u8 n).wf = true) x) x.1 ∧ (fun l : List (S54) => l.length ≤ maxLen ∧ ∀ x ∈ l, ok54 x) x.2) ((fun x : S25 => (x.f0, x.f1)) x)) (opens_struct (d := (Kd.pair (Kd.slice 5 (Kd.int .u8)) (Kd.slice 54 k54))) (ok := fun x : (List Int) × (List (S54)) => (fun l : List Int => l.length ≤ maxLen ∧ ∀ x ∈ l, (fun n => (Lit.int .u8 n).wf = true) x) x.1 ∧ (fun l : List (S54) => l.length ≤ maxLen ∧ ∀ x ∈ l, ok54 x) x.2) (f := fun x : S25 => (x.f0, x.f1)) Try.underlying25 (by kernel_rfl) ?_ (fun a => ⟨a.1, a.2⟩) (fun _ => rfl)) (fun x h => h)
  refine opensFs_cons (oka := (fun l : List Int => l.length ≤ maxLen ∧ ∀ x ∈ l, (fun n => (Lit.int .u8 n).wf = true) x)) (okb := (fun y : (List (S54)) => (fun l : List (S54) => l.length ≤ maxLen ∧ ∀ x ∈ l, ok54 x) y)) ?_ ?_ ?_ ?_
  · exact (opens_slice Try.underlying22 (by kernel_rfl) (opens_int Try.underlying5))
  · rfl
  · kernel_rfl
  refine opensFs_one (ok := (fun l : List (S54) => l.length ≤ maxLen ∧ ∀ x ∈ l, ok54 x)) ?_ ?_ ?_
  · exact (opens_slice Try.underlying23 (by kernel_rfl) opens54)
  · rfl
  · kernel_rfl
end Go.Proofs.Ytacjdoekgmmfoaa.PL
