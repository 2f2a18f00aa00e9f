/-
  The proofs that are made: steps of an entry, hashes of a beginning; how many there are.
-/
import Derived.Test.YtacjdoekgmmfoaaLMx
import Derived.Test.YtacjdoekgmmfoaaPLx23
import Derived.Test.YtacjdoekgmmfoaaPLx26
import Derived.Test.YtacjdoekgmmfoaaPLx6
namespace Go.Proofs.Ytacjdoekgmmfoaa.PL
open Go.RowKit Go.Proofs.YtacjdoekgmmfoaaW.PrintWords Go.Proofs.YtacjdoekgmmfoaaW.PrintLast Go.Proofs.YtacjdoekgmmfoaaW.PrintMore
set_option linter.unusedVariables false
set_option linter.unusedSimpArgs false
/-- The steps of entry i. -/
def wayS (l : List Int) (i : Nat) : List S54 :=
  if h : l.length < 2 then [] else if i < half l.length then wayS (l.take (half l.length)) i ++ [⟨top (l.drop (half l.length)), false⟩] else wayS (l.drop (half l.length)) (i - half l.length) ++ [⟨top (l.take (half l.length)), true⟩]
termination_by l.length
decreasing_by
  · have := half_lt l.length (by omega); rw [List.length_take]; omega
  · have := half_lt l.length (by omega); rw [List.length_drop]; omega
/-- The hashes of the first m. -/
def extS (l : List Int) (m : Nat) (wh : Bool) : List Int :=
  if h : l.length ≤ m ∨ l.length < 2 then (if wh = true then [] else [top l]) else if m ≤ half l.length then extS (l.take (half l.length)) m wh ++ [top (l.drop (half l.length))] else extS (l.drop (half l.length)) (m - half l.length) false ++ [top (l.take (half l.length))]
termination_by l.length
decreasing_by
  · have := half_lt l.length (by omega); rw [List.length_take]; omega
  · have := half_lt l.length (by omega); rw [List.length_drop]; omega
theorem half_pow (n d : Nat) (h2 : 2 ≤ n) (h : n ≤ 2 ^ d) : half n ≤ 2 ^ (d - 1) ∧ n - half n ≤ 2 ^ (d - 1) := by
  have hq : ∀ (f k : Nat), (∃ j, k = 2 ^ j) → k < n → n ≤ k * 2 ^ f → (∃ j, hlf f n k = 2 ^ j) ∧ hlf f n k < n ∧ n ≤ 2 * hlf f n k := by
    intro f
    induction f with
    | zero => intro k _ h1 h2; omega
    | succ f ih =>
      intro k hk h1 h2
      simp only [hlf]
      by_cases c : 2 * k < n
      · rw [if_pos c]
        obtain ⟨j, rfl⟩ := hk
        exact ih (2 * 2 ^ j) ⟨j + 1, by rw [Nat.pow_succ]; omega⟩ c (by rw [Nat.pow_succ, Nat.mul_comm (2 ^ f) 2, ← Nat.mul_assoc, Nat.mul_comm (2 ^ j) 2] at h2; exact h2)
      · rw [if_neg c]
        exact ⟨hk, h1, by omega⟩
  obtain ⟨⟨j, hj⟩, h3, h4⟩ := hq n 1 ⟨0, rfl⟩ (by omega) (by rw [Nat.one_mul]; exact Nat.le_of_lt Nat.lt_two_pow_self)
  have h5 : half n = 2 ^ j := hj
  change hlf n n 1 < n at h3
  change n ≤ 2 * half n at h4
  have h6 : half n < n := h3
  rw [h5] at h4 h6 ⊢
  have hjd : j < d := by
    rcases Nat.lt_or_ge j d with g | g
    · exact g
    · have := Nat.pow_le_pow_right (n := 2) (by decide) g; omega
  have : 2 ^ j ≤ 2 ^ (d - 1) := Nat.pow_le_pow_right (by decide) (by omega)
  omega
theorem way_len : ∀ (d : Nat) (l : List Int) (i : Nat), l.length ≤ 2 ^ d → (wayS l i).length ≤ d
  | 0, l, i, h => by rw [wayS, dif_pos (by simp at h; omega)]; simp
  | d + 1, l, i, h => by
    rw [wayS]
    by_cases c : l.length < 2
    · rw [dif_pos c]; simp
    · rw [dif_neg c]
      have hh := half_pow l.length (d + 1) (by omega) h
      rw [Nat.add_sub_cancel] at hh
      split
      · have := way_len d (l.take (half l.length)) i (by rw [List.length_take]; omega); simp; omega
      · have := way_len d (l.drop (half l.length)) (i - half l.length) (by rw [List.length_drop]; omega); simp; omega
theorem ext_len : ∀ (d : Nat) (l : List Int) (m : Nat) (wh : Bool), l.length ≤ 2 ^ d → (extS l m wh).length ≤ d + 1
  | 0, l, m, wh, h => by rw [extS, dif_pos (by simp at h; omega)]; split <;> simp
  | d + 1, l, m, wh, h => by
    rw [extS]
    by_cases c : l.length ≤ m ∨ l.length < 2
    · rw [dif_pos c]; split <;> simp
    · rw [dif_neg c]
      have hh := half_pow l.length (d + 1) (by omega) h
      rw [Nat.add_sub_cancel] at hh
      split
      · have := ext_len d (l.take (half l.length)) m wh (by rw [List.length_take]; omega); simp; omega
      · have := ext_len d (l.drop (half l.length)) (m - half l.length) false (by rw [List.length_drop]; omega); simp; omega
theorem way_small (l : List Int) (i : Nat) (h : l.length < 1000000) : (wayS l i).length < 100 := by
  have := way_len 20 l i (by omega); omega
theorem ext_small (l : List Int) (m : Nat) (wh : Bool) (h : l.length < 1000000) : (extS l m wh).length < 100 := by
  have := ext_len 20 l m wh (by omega); omega
theorem ev_proof_include : ∀ (n : Nat) (l : List Int) (i : Nat), l.length ≤ n → l.length < 1000000 → i < l.length → (∀ x ∈ l, okH x) → Ev (fun k => proof_include.f k l (i : Int)) (wayS l i)
  | 0, l, i, h, _, hi, _ => by omega
  | n + 1, l, i, h, hb, hi, hx => by
    rw [wayS]
    by_cases c : l.length < 2
    · rw [dif_pos c]
      exact Ev.here fun k => by simp only [proof_include.f]; rw [if_pos (by omega)]
    · rw [dif_neg c]
      have hl := half_lt l.length (by omega)
      refine Ev.step (fun k => by simp only [proof_include.f]; rw [if_neg (by omega)]) (Ev.bind (ev_part l.length (by omega) (by omega)) ?_)
      by_cases c2 : i < half l.length
      · have h1 := ev_proof_include n (l.take (half l.length)) i (by rw [List.length_take]; omega) (by rw [List.length_take]; omega) (by rw [List.length_take]; omega) (fun x hm => hx x (List.mem_of_mem_take hm))
        have h2 := ev_root _ (l.drop (half l.length)) (Nat.le_refl _) (by rw [List.length_drop]; omega) (fun x hm => hx x (List.mem_of_mem_drop hm))
        have hs := way_small (l.take (half l.length)) i (by rw [List.length_take]; omega)
        simp only [if_pos c2, if_pos (show (i : Int) < ((half l.length : Nat) : Int) by omega), if_pos (show (0 : Int) ≤ ((half l.length : Nat) : Int) by omega), if_pos (show ((half l.length : Nat) : Int) ≤ (l.length : Int) by omega), Int.toNat_natCast]
        refine Ev.bind h1 (Ev.bind h2 ?_)
        simp only [if_pos (show (wayS (l.take (half l.length)) i).length < 8796093022208 by omega)]
        exact Ev.now _
      · have h1 := ev_proof_include n (l.drop (half l.length)) (i - half l.length) (by rw [List.length_drop]; omega) (by rw [List.length_drop]; omega) (by rw [List.length_drop]; omega) (fun x hm => hx x (List.mem_of_mem_drop hm))
        have h2 := ev_root _ (l.take (half l.length)) (Nat.le_refl _) (by rw [List.length_take]; omega) (fun x hm => hx x (List.mem_of_mem_take hm))
        have hs := way_small (l.drop (half l.length)) (i - half l.length) (by rw [List.length_drop]; omega)
        simp only [if_neg c2, if_neg (show ¬ (i : Int) < ((half l.length : Nat) : Int) by omega), if_pos (show (0 : Int) ≤ ((half l.length : Nat) : Int) by omega), if_pos (show ((half l.length : Nat) : Int) ≤ (l.length : Int) by omega), Int.toNat_natCast, show wrap64 ((i : Int) - ((half l.length : Nat) : Int)) = ((i - half l.length : Nat) : Int) by unfold wrap64; omega]
        refine Ev.bind h1 (Ev.bind h2 ?_)
        simp only [if_pos (show (wayS (l.drop (half l.length)) (i - half l.length)).length < 8796093022208 by omega)]
        exact Ev.now _
theorem ev_proof_extend : ∀ (n : Nat) (l : List Int) (m : Nat) (wh : Bool), l.length ≤ n → l.length < 1000000 → 1 ≤ m → m ≤ l.length → (∀ x ∈ l, okH x) → Ev (fun k => proof_extend.f k l (m : Int) wh) (extS l m wh)
  | 0, l, m, wh, h, _, h1, h2, _ => by omega
  | n + 1, l, m, wh, h, hb, hm1, hm2, hx => by
    rw [extS]
    by_cases c : m = l.length
    · rw [dif_pos (by omega)]
      cases wh with
      | true => exact Ev.here fun k => by simp only [proof_extend.f]; rw [if_pos (by omega), if_pos trivial]; rfl
      | false =>
        refine Ev.step (fun k => by simp only [proof_extend.f]; rw [if_pos (by omega), if_neg (by decide)]) (Ev.bind (ev_root _ l (Nat.le_refl _) (by omega) hx) ?_)
        rw [if_neg (by decide)]
        exact Ev.now _
    · rw [dif_neg (by omega)]
      have hl := half_lt l.length (by omega)
      refine Ev.step (fun k => by simp only [proof_extend.f]; rw [if_neg (by omega)]) (Ev.bind (ev_part l.length (by omega) (by omega)) ?_)
      by_cases c2 : m ≤ half l.length
      · have h1 := ev_proof_extend n (l.take (half l.length)) m wh (by rw [List.length_take]; omega) (by rw [List.length_take]; omega) (by omega) (by rw [List.length_take]; omega) (fun x hm => hx x (List.mem_of_mem_take hm))
        have h2 := ev_root _ (l.drop (half l.length)) (Nat.le_refl _) (by rw [List.length_drop]; omega) (fun x hm => hx x (List.mem_of_mem_drop hm))
        have hs := ext_small (l.take (half l.length)) m wh (by rw [List.length_take]; omega)
        simp only [if_pos c2, if_pos (show (m : Int) ≤ ((half l.length : Nat) : Int) by omega), if_pos (show (0 : Int) ≤ ((half l.length : Nat) : Int) by omega), if_pos (show ((half l.length : Nat) : Int) ≤ (l.length : Int) by omega), Int.toNat_natCast]
        refine Ev.bind h1 (Ev.bind h2 ?_)
        simp only [if_pos (show (extS (l.take (half l.length)) m wh).length < 17592186044416 by omega)]
        exact Ev.now _
      · have h1 := ev_proof_extend n (l.drop (half l.length)) (m - half l.length) false (by rw [List.length_drop]; omega) (by rw [List.length_drop]; omega) (by omega) (by rw [List.length_drop]; omega) (fun x hm => hx x (List.mem_of_mem_drop hm))
        have h2 := ev_root _ (l.take (half l.length)) (Nat.le_refl _) (by rw [List.length_take]; omega) (fun x hm => hx x (List.mem_of_mem_take hm))
        have hs := ext_small (l.drop (half l.length)) (m - half l.length) false (by rw [List.length_drop]; omega)
        simp only [if_neg c2, if_neg (show ¬ (m : Int) ≤ ((half l.length : Nat) : Int) by omega), if_pos (show (0 : Int) ≤ ((half l.length : Nat) : Int) by omega), if_pos (show ((half l.length : Nat) : Int) ≤ (l.length : Int) by omega), Int.toNat_natCast, show wrap64 ((m : Int) - ((half l.length : Nat) : Int)) = ((m - half l.length : Nat) : Int) by unfold wrap64; omega]
        refine Ev.bind h1 (Ev.bind h2 ?_)
        simp only [if_pos (show (extS (l.drop (half l.length)) (m - half l.length) false).length < 17592186044416 by omega)]
        exact Ev.now _
/-- What Include answers. -/
def incS (l : List (List Int)) (i : Int) : List S54 × Int := if listE l = 0 then (if 0 ≤ i ∧ i < l.length then (wayS (l.map leafS) i.toNat, 0) else ([], 6)) else ([], listE l)
/-- What Extend answers. -/
def exS (l : List (List Int)) (m : Int) : List Int × Int := if listE l = 0 then (if 1 ≤ m ∧ m ≤ l.length then (extS (l.map leafS) m.toNat true, 0) else ([], 2)) else ([], listE l)
theorem ev_Include (l : List (List Int)) (i : Int) : Ev (fun k => proof_Include.f k l i) (incS l i) := by
  unfold proof_Include.f incS
  refine Ev.bind (ev_listed l) ?_
  by_cases e : listE l = 0
  · have hz := listE_zero.1 e
    simp only [e, if_true, List.length_map]
    by_cases c1 : i < 0
    · simp only [if_pos c1, if_neg (show ¬ (0 ≤ i ∧ i < (l.length : Int)) by omega)]; exact Ev.now _
    · by_cases c2 : i ≥ (l.length : Int)
      · simp only [if_neg c1, if_pos c2, if_neg (show ¬ (0 ≤ i ∧ i < (l.length : Int)) by omega)]; exact Ev.now _
      · simp only [if_neg c1, if_neg c2, if_pos (show (0 ≤ i ∧ i < (l.length : Int)) by omega)]
        have h := ev_proof_include l.length (l.map leafS) i.toNat (by rw [List.length_map]; omega) (by rw [List.length_map]; omega) (by rw [List.length_map]; omega) (leafs_ok l)
        rw [show ((i.toNat : Nat) : Int) = i by omega] at h
        exact Ev.bind h (Ev.now _)
  · simp only [if_neg e]; exact Ev.now _
theorem ev_Extend (l : List (List Int)) (m : Int) : Ev (fun k => proof_Extend.f k l m) (exS l m) := by
  unfold proof_Extend.f exS
  refine Ev.bind (ev_listed l) ?_
  by_cases e : listE l = 0
  · have hz := listE_zero.1 e
    simp only [e, if_true, List.length_map]
    by_cases c1 : m < 1
    · simp only [if_pos c1, if_neg (show ¬ (1 ≤ m ∧ m ≤ (l.length : Int)) by omega)]; exact Ev.now _
    · by_cases c2 : m > (l.length : Int)
      · simp only [if_neg c1, if_pos c2, if_neg (show ¬ (1 ≤ m ∧ m ≤ (l.length : Int)) by omega)]; exact Ev.now _
      · simp only [if_neg c1, if_neg c2, if_pos (show (1 ≤ m ∧ m ≤ (l.length : Int)) by omega)]
        have h := ev_proof_extend l.length (l.map leafS) m.toNat true (by rw [List.length_map]; omega) (by rw [List.length_map]; omega) (by omega) (by rw [List.length_map]; omega) (leafs_ok l)
        rw [show ((m.toNat : Nat) : Int) = m by omega] at h
        exact Ev.bind h (Ev.now _)
  · simp only [if_neg e]; exact Ev.now _
theorem inc_small (l : List (List Int)) (i : Int) : (incS l i).1.length < 100 := by
  unfold incS
  by_cases e : listE l = 0
  · rw [if_pos e]
    split
    · exact way_small _ _ (by rw [List.length_map]; have := (listE_zero.1 e).1; omega)
    · simp
  · rw [if_neg e]; simp
theorem ex_small (l : List (List Int)) (m : Int) : (exS l m).1.length < 100 := by
  unfold exS
  by_cases e : listE l = 0
  · rw [if_pos e]
    split
    · exact ext_small _ _ _ (by rw [List.length_map]; have := (listE_zero.1 e).1; omega)
    · simp
  · rw [if_neg e]; simp
end Go.Proofs.Ytacjdoekgmmfoaa.PL
