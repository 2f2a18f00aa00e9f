/-
  What is made is accepted: the values that Included and Extended answer.
-/
import Derived.Test.YtacjdoekgmmfoaaLCo
import Derived.Test.YtacjdoekgmmfoaaPLx14
import Derived.Test.YtacjdoekgmmfoaaPLx18
import Derived.Test.YtacjdoekgmmfoaaPLx23
import Derived.Test.YtacjdoekgmmfoaaPLx26
import Derived.Test.YtacjdoekgmmfoaaPLx4
import Derived.Test.YtacjdoekgmmfoaaPLx5
import Derived.Test.YtacjdoekgmmfoaaPLx7
namespace Go.Proofs.Ytacjdoekgmmfoaa.PL
open Go.RowKit Go.Proofs.YtacjdoekgmmfoaaW.PrintWords Go.Proofs.YtacjdoekgmmfoaaW.PrintLast Go.Proofs.YtacjdoekgmmfoaaW.PrintMore Go.Proofs.Ytacjdoekgmmfoaa.Opn
set_option linter.unusedVariables false
theorem chid {p : Prop} (h : p) : Hid p := h
theorem way_ok : ∀ (b : Nat) (l : List Int) (i : Nat), l.length ≤ b → (∀ x ∈ l, okH x) → ∀ s ∈ wayS l i, okH s.f0
  | 0, l, i, h, hx, s, hs => by rw [wayS, dif_pos (by omega)] at hs; simp at hs
  | b + 1, l, i, h, hx, s, hs => by
    rw [wayS] at hs
    by_cases c : l.length < 2
    · rw [dif_pos c] at hs; simp at hs
    · rw [dif_neg c] at hs
      have hl := half_lt l.length (by omega)
      have hT : ∀ x ∈ l.take (half l.length), okH x := fun x hm => hx x (List.mem_of_mem_take hm)
      have hD : ∀ x ∈ l.drop (half l.length), okH x := fun x hm => hx x (List.mem_of_mem_drop hm)
      split at hs
      · rcases List.mem_append.1 hs with g | g
        · exact way_ok b _ i (by rw [List.length_take]; omega) hT s g
        · rw [List.mem_singleton] at g; subst g; exact top_ok _ hD
      · rcases List.mem_append.1 hs with g | g
        · exact way_ok b _ _ (by rw [List.length_drop]; omega) hD s g
        · rw [List.mem_singleton] at g; subst g; exact top_ok _ hT
/-- An entry's own steps prove it. -/
theorem incl_true (l : List (List Int)) (hl : listE l = 0) (i : Nat) (hi : i < l.length) : inclS l[i] (i : Int) (l.length : Int) (rootS l) (wayS (l.map leafS) i) = (true, 0) ∧ followS l[i] (wayS (l.map leafS) i) = rootS l := by
  have hz := listE_zero.1 hl
  have hw : followS l[i] (wayS (l.map leafS) i) = rootS l := by
    have := way_follow _ (l.map leafS) i (Nat.le_refl _) (by rw [List.length_map]; exact hi)
    rw [List.getElem_map] at this
    unfold followS rootS
    rw [this, if_pos hl]
  have hf : fitsS i l.length (wayS (l.map leafS) i) = true := by
    have := way_fits _ (l.map leafS) i (Nat.le_refl _) (by rw [List.length_map]; exact hi)
    rw [List.length_map] at this
    unfold fitsS; rw [this]; exact beq_self_eq_true _
  refine ⟨?_, hw⟩
  unfold inclS
  rw [if_pos (by omega), if_neg (by have := hz.2 l[i] (List.getElem_mem hi); omega), Int.toNat_natCast, Int.toNat_natCast, hf, hw]
  simp
/-- A beginning's own hashes prove it. -/
theorem ext_true (l : List (List Int)) (hl : listE l = 0) (m : Nat) (h1 : 1 ≤ m) (h2 : m ≤ l.length) : Ev (fun k => proof_Extended.f k (m : Int) (l.length : Int) (rootS (l.take m)) (rootS l) (extS (l.map leafS) m true)) (true, 0) := by
  have hz := listE_zero.1 hl
  have hlt : listE (l.take m) = 0 := listE_zero.2 ⟨by rw [List.length_take]; omega, fun x hx => hz.2 x (List.mem_of_mem_take hx)⟩
  have h := ext_roots _ (l.map leafS) m true (rootS (l.take m)) [] (Nat.le_refl _) (by rw [List.length_map]; omega) h1 (by rw [List.length_map]; exact h2) (leafs_ok l) (fun _ => by unfold rootS; rw [if_pos hlt, List.map_take])
  rw [List.append_nil, List.length_map] at h
  unfold proof_Extended.f
  simp only [if_neg (show ¬ ((l.length : Int) < 1 ∨ (l.length : Int) > 4096 ∨ (m : Int) < 1 ∨ (m : Int) > (l.length : Int)) by omega)]
  refine Ev.bind h ?_
  have e1 : rootS (l.take m) = top ((l.map leafS).take m) := by unfold rootS; rw [if_pos hlt, List.map_take]
  have e2 : rootS l = top (l.map leafS) := by unfold rootS; rw [if_pos hl]
  simp only [e1, e2, beq_self_eq_true, List.isEmpty_nil, Bool.and_self, Bool.not_false]
  exact Ev.now _
theorem ev_Root (l : List (List Int)) (hl : l.length ≤ 1000) : Ev (fun k => proof_Root.f k l) (rootS l, listE l) := by
  unfold proof_Root.f rootS
  refine Ev.bind (ev_listed l) ?_
  by_cases c : listE l = 0
  · simp only [if_pos c]
    exact Ev.bind (ev_root _ (l.map leafS) (Nat.le_refl _) (by rw [List.length_map]; omega) (leafs_ok l)) (Ev.now _)
  · simp only [if_neg c]
    have h0 : top [] = 0 := by rw [top]; rfl
    have h := ev_root 0 [] (Nat.le_refl _) (by decide) (fun x hx => by simp at hx)
    rw [h0] at h
    exact Ev.bind h (Ev.now _)
end Go.Proofs.Ytacjdoekgmmfoaa.PL
