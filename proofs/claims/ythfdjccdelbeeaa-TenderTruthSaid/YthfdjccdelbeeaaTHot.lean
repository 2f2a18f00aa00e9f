/-
  With one lot a choice takes one offer at most.
-/
import Derived.Test.YthfdjccdelbeeaaTPl
namespace Go.Proofs.Ythfdjccdelbeeaa.TPl
set_option linter.unusedVariables false
/-- The choice of one offer. -/
def hot (j n : Nat) : List Bool := List.replicate j false ++ true :: List.replicate (n - j - 1) false
theorem feas_one (wo : Int) : ∀ (os : List Of) (s : List Bool) (B : Nat), (∀ o ∈ os, o.l = 1) → feas wo os s 1 B → s = List.replicate os.length false
  | [], [], _, _, _ => rfl
  | o :: os, true :: s, B, h, hf => by
    have := hf.1.2.1
    rw [h o List.mem_cons_self] at this; exact absurd this (by decide)
  | o :: os, false :: s, B, h, hf => by
    rw [feas_one wo os s B (fun x hx => h x (List.mem_cons_of_mem _ hx)) hf]; rfl
  | [], _ :: _, _, _, h => h.elim
  | _ :: _, [], _, _, h => h.elim
theorem feas_hot (wo : Int) : ∀ (os : List Of) (s : List Bool), (∀ o ∈ os, o.l = 1) → feas wo os s 0 0 → s = List.replicate os.length false ∨ ∃ j o, os[j]? = some o ∧ s = hot j os.length ∧ (o.b : Int) ≠ wo
  | [], [], _, _ => Or.inl rfl
  | o :: os, true :: s, h, hf => by
    right
    refine ⟨0, o, rfl, ?_, hf.1.1⟩
    have h2 := hf.2
    rw [h o List.mem_cons_self] at h2
    rw [feas_one wo os s _ (fun x hx => h x (List.mem_cons_of_mem _ hx)) h2]; simp [hot]
  | o :: os, false :: s, h, hf => by
    rcases feas_hot wo os s (fun x hx => h x (List.mem_cons_of_mem _ hx)) hf with e | ⟨j, o', ho, e, hw⟩
    · left; rw [e]; rfl
    · right
      refine ⟨j + 1, o', ho, ?_, hw⟩
      rw [e]; simp [hot, List.replicate_succ]
  | [], _ :: _, _, h => h.elim
  | _ :: _, [], _, h => h.elim
theorem hot_feas (wo : Int) : ∀ (os : List Of) (j : Nat) (o : Of), os[j]? = some o → (o.b : Int) ≠ wo → feas wo os (hot j os.length) 0 0
  | o' :: os, 0, o, ho, hw => by
    simp at ho; subst ho
    simp only [hot, List.replicate_zero, List.nil_append, List.length_cons, Nat.add_sub_cancel, Nat.sub_zero]
    exact ⟨⟨hw, by simp, by simp⟩, feas_none wo os _ _⟩
  | o' :: os, j + 1, o, ho, hw => by
    have := hot_feas wo os j o (by simpa using ho) hw
    simpa [hot, List.replicate_succ, feas] using this
  | [], j, o, ho, _ => by simp at ho
theorem hot_val : ∀ (os : List Of) (j : Nat) (o : Of), os[j]? = some o → val os (hot j os.length) = o.p
  | o' :: os, 0, o, ho => by
    simp at ho; subst ho
    simp [hot, val, val_none]
  | o' :: os, j + 1, o, ho => by
    have := hot_val os j o (by simpa using ho)
    simpa [hot, List.replicate_succ, val] using this
  | [], j, o, ho => by simp at ho
theorem num_nones : ∀ n : Nat, num (List.replicate n false) = 0
  | 0 => rfl
  | n + 1 => num_nones n
theorem hot_num : ∀ (n j : Nat), j < n → num (hot j n) = 2 ^ (n - j - 1)
  | n + 1, 0, _ => by simp [hot, num, num_nones]
  | n + 1, j + 1, h => by
    have := hot_num n j (by omega)
    simpa [hot, List.replicate_succ, num] using this
theorem idx_none : ∀ (n : Nat) (i : Int), idx i (List.replicate n false) = []
  | 0, _ => rfl
  | n + 1, i => by rw [List.replicate_succ]; exact idx_none n (i + 1)
theorem hot_idx : ∀ (j n i : Nat), idx (i : Int) (hot j n) = [((i + j : Nat) : Int)]
  | 0, n, i => by simp [hot, idx, idx_none]
  | j + 1, n, i => by
    have := hot_idx j (n - 1) (i + 1)
    simp only [hot, List.replicate_succ, List.cons_append, idx] at this ⊢
    rw [show (i : Int) + 1 = ((i + 1 : Nat) : Int) from by omega, show n - (j + 1) - 1 = n - 1 - j - 1 from by omega, this]
    congr 2; omega
end Go.Proofs.Ythfdjccdelbeeaa.TPl
