/-
  What is made is accepted: the steps of an entry lead to the root, the hashes of a beginning make both roots.
-/
import Derived.Test.YtacjdoekgmmfoaaLJd
import Derived.Test.YtacjdoekgmmfoaaLIn
import Derived.Test.YtacjdoekgmmfoaaPLx18
namespace Go.Proofs.Ytacjdoekgmmfoaa.PL
open Go.RowKit Go.Proofs.YtacjdoekgmmfoaaW.PrintWords Go.Proofs.YtacjdoekgmmfoaaW.PrintLast Go.Proofs.YtacjdoekgmmfoaaW.PrintMore
set_option linter.unusedVariables false
set_option linter.unusedSimpArgs false
theorem way_fits : ∀ (b : Nat) (l : List Int) (i : Nat), l.length ≤ b → i < l.length → leftsS i l.length = (wayS l i).map S54.f1
  | 0, l, i, h, hi => by omega
  | b + 1, l, i, h, hi => by
    rw [leftsS, wayS]
    by_cases c : l.length < 2
    · rw [dif_pos c, dif_pos c]; rfl
    · rw [dif_neg c, dif_neg c]
      have hl := half_lt l.length (by omega)
      by_cases c2 : i < half l.length
      · have e : (l.take (half l.length)).length = half l.length := by rw [List.length_take]; omega
        have ih := way_fits b (l.take (half l.length)) i (by omega) (by omega)
        rw [e] at ih
        rw [if_pos c2, if_pos c2, ih, List.map_append]; rfl
      · have e : (l.drop (half l.length)).length = l.length - half l.length := by rw [List.length_drop]
        have ih := way_fits b (l.drop (half l.length)) (i - half l.length) (by omega) (by omega)
        rw [e] at ih
        rw [if_neg c2, if_neg c2, ih, List.map_append]; rfl
theorem way_follow : ∀ (b : Nat) (l : List Int) (i : Nat), l.length ≤ b → (hi : i < l.length) → (wayS l i).foldl fstep l[i] = top l
  | 0, l, i, h, hi => by omega
  | b + 1, l, i, h, hi => by
    rw [wayS]
    by_cases c : l.length < 2
    · rw [dif_pos c]
      have et : top l = l.headD 0 := by rw [top, dif_pos c]
      have : i = 0 := by omega
      subst this
      rw [et]
      cases l with
      | nil => simp at hi
      | cons x l => rfl
    · rw [dif_neg c]
      have et : top l = nodeS (top (l.take (half l.length))) (top (l.drop (half l.length))) := by rw [top, dif_neg c]
      rw [et]
      have hl := half_lt l.length (by omega)
      by_cases c2 : i < half l.length
      · have ih := way_follow b (l.take (half l.length)) i (by rw [List.length_take]; omega) (by rw [List.length_take]; omega)
        rw [List.getElem_take] at ih
        rw [if_pos c2, List.foldl_append, ih]; simp [fstep, sbytes, nodeS]
      · have ih := way_follow b (l.drop (half l.length)) (i - half l.length) (by rw [List.length_drop]; omega) (by rw [List.length_drop]; omega)
        rw [List.getElem_drop] at ih
        simp only [show half l.length + (i - half l.length) = i by omega] at ih
        rw [if_neg c2, List.foldl_append, ih]; simp [fstep, sbytes, nodeS]
theorem half_char (n : Nat) (h2 : 2 ≤ n) : (∃ j, half n = 2 ^ j) ∧ half n < n ∧ n ≤ 2 * half n := by
  have hq : ∀ (f k : Nat), (∃ j, k = 2 ^ j) → k < n → n ≤ k * 2 ^ f → (∃ j, hlf f n k = 2 ^ j) ∧ hlf f n k < n ∧ n ≤ 2 * hlf f n k := by
    intro f
    induction f with
    | zero => intro k _ h1 h2; omega
    | succ f ih =>
      intro k hk h1 h2
      simp only [hlf]
      by_cases c : 2 * k < n
      · rw [if_pos c]
        obtain ⟨j, rfl⟩ := hk
        exact ih (2 * 2 ^ j) ⟨j + 1, by rw [Nat.pow_succ]; omega⟩ c (by rw [Nat.pow_succ, Nat.mul_comm (2 ^ f) 2, ← Nat.mul_assoc, Nat.mul_comm (2 ^ j) 2] at h2; exact h2)
      · rw [if_neg c]
        exact ⟨hk, h1, by omega⟩
  exact hq n 1 ⟨0, rfl⟩ (by omega) (by rw [Nat.one_mul]; exact Nat.le_of_lt Nat.lt_two_pow_self)
theorem half_eq (n m : Nat) (h2 : 2 ≤ n) (h : half n < m) (hm : m ≤ n) : half m = half n := by
  obtain ⟨⟨j, hj⟩, h3, h4⟩ := half_char n h2
  have := half_lt n h2
  obtain ⟨⟨i, hi⟩, h5, h6⟩ := half_char m (by omega)
  rw [hj] at h h4 ⊢
  rw [hi] at h5 h6 ⊢
  rcases Nat.lt_trichotomy i j with g | g | g
  · have : 2 ^ (i + 1) ≤ 2 ^ j := Nat.pow_le_pow_right (by decide) g
    rw [Nat.pow_succ] at this; omega
  · rw [g]
  · have : 2 ^ (j + 1) ≤ 2 ^ i := Nat.pow_le_pow_right (by decide) g
    rw [Nat.pow_succ] at this; omega
/-- The hashes that are made make both roots. -/
theorem ext_roots : ∀ (b : Nat) (l : List Int) (m : Nat) (wh : Bool) (old : Int) (rest : List Int), l.length ≤ b → l.length < 1000000 → 1 ≤ m → m ≤ l.length → (∀ x ∈ l, okH x) → (wh = true → old = top (l.take m)) →
    Ev (fun k => rts k (m : Int) (l.length : Int) wh old (extS l m wh ++ rest) false) (top (l.take m), top l, rest, false)
  | 0, l, m, wh, old, rest, h, hb, h1, h2, hx, ho => by omega
  | b + 1, l, m, wh, old, rest, h, hb, h1, h2, hx, ho => by
    rw [extS]
    by_cases c : m = l.length
    · rw [dif_pos (by omega)]
      have e : l.take m = l := by rw [c]; exact List.take_length
      cases wh with
      | true =>
        rw [ho rfl, if_pos rfl, e]
        exact Ev.here fun k => by simp only [rts]; rw [if_pos (by omega), if_pos trivial]; rfl
      | false =>
        rw [if_neg (by decide), e]
        exact Ev.here fun k => by simp only [rts]; rw [if_pos (by omega), if_neg (by decide)]; rfl
    · rw [dif_neg (by omega)]
      have hl := half_lt l.length (by omega)
      have hT : ∀ x ∈ l.take (half l.length), okH x := fun x hm => hx x (List.mem_of_mem_take hm)
      have hD : ∀ x ∈ l.drop (half l.length), okH x := fun x hm => hx x (List.mem_of_mem_drop hm)
      have et : (l.take (half l.length)).length = half l.length := by rw [List.length_take]; omega
      have ed : (l.drop (half l.length)).length = l.length - half l.length := by rw [List.length_drop]
      have etop : top l = nodeS (top (l.take (half l.length))) (top (l.drop (half l.length))) := by rw [top, dif_neg (by omega)]
      by_cases c2 : m ≤ half l.length
      · rw [if_pos c2]
        have ett : (l.take (half l.length)).take m = l.take m := by rw [List.take_take]; congr 1; omega
        have ih := ext_roots b (l.take (half l.length)) m wh old ([top (l.drop (half l.length))] ++ rest) (by omega) (by omega) h1 (by omega) hT (fun hw => by rw [ett]; exact ho hw)
        rw [et, ett, ← List.append_assoc] at ih
        refine Ev.step (fun k => by simp only [rts]; rw [if_neg (by omega)]) (Ev.bind (ev_part l.length (by omega) (by omega)) ?_)
        simp only [if_pos (show (m : Int) ≤ ((half l.length : Nat) : Int) by omega)]
        refine Ev.bind ih ?_
        rw [etop]
        exact Ev.bind (ev_Node _ _ (top_ok _ hT) (top_ok _ hD)) (Ev.now _)
      · rw [if_neg c2]
        have ih := ext_roots b (l.drop (half l.length)) (m - half l.length) false old ([top (l.take (half l.length))] ++ rest) (by omega) (by omega) (by omega) (by omega) hD (fun hw => by cases hw)
        rw [ed, ← List.append_assoc] at ih
        have hm : (l.take m).length = m := by rw [List.length_take]; omega
        have hh : half m = half l.length := half_eq l.length m (by omega) (by omega) h2
        have em : top (l.take m) = nodeS (top (l.take (half l.length))) (top ((l.drop (half l.length)).take (m - half l.length))) := by
          rw [top, dif_neg (by omega), hm, hh, List.take_take, List.drop_take]
          congr 2; congr 1; omega
        refine Ev.step (fun k => by simp only [rts]; rw [if_neg (by omega)]) (Ev.bind (ev_part l.length (by omega) (by omega)) ?_)
        simp only [if_neg (show ¬ (m : Int) ≤ ((half l.length : Nat) : Int) by omega), show wrap64 ((m : Int) - ((half l.length : Nat) : Int)) = ((m - half l.length : Nat) : Int) by unfold wrap64; omega, show wrap64 ((l.length : Int) - ((half l.length : Nat) : Int)) = ((l.length - half l.length : Nat) : Int) by unfold wrap64; omega]
        refine Ev.bind ih ?_
        rw [etop, em]
        have ho1 : okH (top ((l.drop (half l.length)).take (m - half l.length))) := top_ok _ (fun x hm => hD x (List.mem_of_mem_take hm))
        exact Ev.bind (ev_Node _ _ (top_ok _ hT) ho1) (Ev.bind (ev_Node _ _ (top_ok _ hT) (top_ok _ hD)) (Ev.now _))
end Go.Proofs.Ytacjdoekgmmfoaa.PL
