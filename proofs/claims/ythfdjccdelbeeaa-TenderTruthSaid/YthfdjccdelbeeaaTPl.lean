/-
  The plain side of the tender: choices of offers as lists of Bools, the best one, and what the search finds. No program in sight.
-/
namespace Go.Proofs.Ythfdjccdelbeeaa.TPl
set_option linter.unusedVariables false
/-- An offer: buyer, lots as a set, price. -/
structure Of where
  b : Nat
  l : Nat
  p : Nat
def nok (wo : Int) (L B : Nat) (o : Of) : Prop := (o.b : Int) ≠ wo ∧ L &&& o.l = 0 ∧ B.testBit o.b = false
instance (wo : Int) (L B : Nat) (o : Of) : Decidable (nok wo L B o) := inferInstanceAs (Decidable (_ ∧ _ ∧ _))
def feas (wo : Int) : List Of → List Bool → Nat → Nat → Prop
  | [], [], _, _ => True
  | o :: os, true :: s, L, B => nok wo L B o ∧ feas wo os s (L ||| o.l) (B ||| 2 ^ o.b)
  | _ :: os, false :: s, L, B => feas wo os s L B
  | _, _, _, _ => False
def val : List Of → List Bool → Nat
  | o :: os, true :: s => o.p + val os s
  | _ :: os, false :: s => val os s
  | _, _ => 0
def tot : List Of → Nat
  | [] => 0
  | o :: os => o.p + tot os
def num : List Bool → Nat
  | [] => 0
  | true :: s => 2 ^ s.length + num s
  | false :: s => num s
def idx : Int → List Bool → List Int
  | _, [] => []
  | i, true :: s => i :: idx (i + 1) s
  | i, false :: s => idx (i + 1) s
theorem num_lt : ∀ s : List Bool, num s < 2 ^ s.length
  | [] => by simp [num]
  | true :: s => by have := num_lt s; simp only [num, List.length_cons, Nat.pow_succ]; omega
  | false :: s => by have := num_lt s; simp only [num, List.length_cons, Nat.pow_succ]; omega
theorem num_inj : ∀ s t : List Bool, s.length = t.length → num s = num t → s = t
  | [], [], _, _ => rfl
  | true :: s, true :: t, hl, h => by
    have hl' : s.length = t.length := by simpa using hl
    simp only [num, hl'] at h
    rw [num_inj s t hl' (by omega)]
  | false :: s, false :: t, hl, h => by rw [num_inj s t (by simpa using hl) h]
  | true :: s, false :: t, hl, h => by
    have hl' : s.length = t.length := by simpa using hl
    have := num_lt t
    simp only [num, hl'] at h; omega
  | false :: s, true :: t, hl, h => by
    have hl' : s.length = t.length := by simpa using hl
    have := num_lt s
    simp only [num] at h; rw [hl'] at this; omega
theorem feas_len (wo : Int) : ∀ (os : List Of) (s : List Bool) (L B : Nat), feas wo os s L B → s.length = os.length
  | [], [], _, _, _ => rfl
  | _ :: os, true :: s, L, B, h => by simp [feas_len wo os s _ _ h.2]
  | _ :: os, false :: s, L, B, h => by simp [feas_len wo os s _ _ h]
  | [], _ :: _, _, _, h => h.elim
  | _ :: _, [], _, _, h => h.elim
theorem feas_none (wo : Int) : ∀ (os : List Of) (L B : Nat), feas wo os (List.replicate os.length false) L B
  | [], _, _ => trivial
  | _ :: os, L, B => feas_none wo os L B
theorem val_none : ∀ (os : List Of), val os (List.replicate os.length false) = 0
  | [] => rfl
  | _ :: os => val_none os
theorem val_le : ∀ (os : List Of) (s : List Bool), val os s ≤ tot os
  | [], [] => by simp [val]
  | [], _ :: _ => by simp [val]
  | _ :: _, [] => by simp [val]
  | o :: os, true :: s => by have := val_le os s; simp only [val, tot]; omega
  | o :: os, false :: s => by have := val_le os s; simp only [val, tot]; omega
/-- The best choice: none is worth more, and of those worth the same none comes earlier. -/
def IsBest (wo : Int) (os : List Of) (L B : Nat) (s : List Bool) : Prop := feas wo os s L B ∧ ∀ t, feas wo os t L B → val os t < val os s ∨ (val os t = val os s ∧ num t ≤ num s)
theorem IsBest.uniq {wo : Int} {os : List Of} {L B : Nat} {s t : List Bool} (hs : IsBest wo os L B s) (ht : IsBest wo os L B t) : s = t := by
  have h1 := hs.2 t ht.1
  have h2 := ht.2 s hs.1
  exact num_inj _ _ (by rw [feas_len _ _ _ _ _ hs.1, feas_len _ _ _ _ _ ht.1]) (by omega)
theorem IsBest.val_eq {wo wo' : Int} {os os' : List Of} {L B L' B' : Nat} {s t : List Bool} (hs : IsBest wo os L B s) (ht : IsBest wo' os' L' B' t) (h1 : ∀ u, feas wo os u L B → ∃ u', feas wo' os' u' L' B' ∧ val os u ≤ val os' u') (h2 : ∀ u, feas wo' os' u L' B' → ∃ u', feas wo os u' L B ∧ val os' u ≤ val os u') : val os s = val os' t := by
  obtain ⟨u, hu, hle⟩ := h1 s hs.1
  obtain ⟨v, hv, hle2⟩ := h2 t ht.1
  have := ht.2 u hu
  have := hs.2 v hv
  omega
theorem isBest_cons {wo : Int} {o : Of} {os : List Of} {L B : Nat} {s0 s1 : List Bool} (h0 : IsBest wo os L B s0) (hk : nok wo L B o) (h1 : IsBest wo os (L ||| o.l) (B ||| 2 ^ o.b) s1) :
    IsBest wo (o :: os) L B (if val os s0 ≤ o.p + val os s1 then true :: s1 else false :: s0) := by
  have l0 := feas_len _ _ _ _ _ h0.1
  have l1 := feas_len _ _ _ _ _ h1.1
  split
  · rename_i hle
    refine ⟨⟨hk, h1.1⟩, fun t ht => ?_⟩
    match t, ht with
    | true :: t, ht =>
      have := h1.2 t ht.2
      have lt := feas_len _ _ _ _ _ ht.2
      simp only [val, num, l1, lt]; omega
    | false :: t, ht =>
      have := h0.2 t ht
      have lt := feas_len wo os t L B ht
      have := num_lt t
      simp only [val, num, l1]; rw [lt] at this; omega
  · rename_i hle
    refine ⟨h0.1, fun t ht => ?_⟩
    match t, ht with
    | true :: t, ht =>
      have := h1.2 t ht.2
      simp only [val]; omega
    | false :: t, ht =>
      have := h0.2 t ht
      simpa only [val, num] using this
theorem isBest_skip {wo : Int} {o : Of} {os : List Of} {L B : Nat} {s0 : List Bool} (h0 : IsBest wo os L B s0) (hk : ¬ nok wo L B o) : IsBest wo (o :: os) L B (false :: s0) := by
  refine ⟨h0.1, fun t ht => ?_⟩
  match t, ht with
  | true :: t, ht => exact absurd ht.1 hk
  | false :: t, ht => simpa only [val, num] using h0.2 t ht
/-- The search. -/
def nGo (wo : Int) : List Of → Int → Nat → Nat → Nat → List Int → List Int × Int → List Int × Int
  | [], _, _, _, sum, now, tw => if (sum : Int) ≤ tw.2 then tw else (now, sum)
  | o :: os, i, L, B, sum, now, tw =>
    if ((sum + tot (o :: os) : Nat) : Int) ≤ tw.2 then tw
    else nGo wo os (i + 1) L B sum now (if nok wo L B o then nGo wo os (i + 1) (L ||| o.l) (B ||| 2 ^ o.b) (sum + o.p) (now ++ [i]) tw else tw)
theorem nGo_best (wo : Int) : ∀ (os : List Of) (L B : Nat), ∃ s, IsBest wo os L B s ∧ ∀ (i : Int) (sum : Nat) (now : List Int) (tw : List Int × Int),
    nGo wo os i L B sum now tw = if ((sum + val os s : Nat) : Int) ≤ tw.2 then tw else (now ++ idx i s, ((sum + val os s : Nat) : Int))
  | [], L, B => ⟨[], ⟨trivial, fun t ht => by
      match t, ht with
      | [], _ => simp [val]⟩, fun i sum now tw => by simp [nGo, val, idx]⟩
  | o :: os, L, B => by
    obtain ⟨s0, h0, e0⟩ := nGo_best wo os L B
    have v0 := val_le os s0
    by_cases hk : nok wo L B o
    · obtain ⟨s1, h1, e1⟩ := nGo_best wo os (L ||| o.l) (B ||| 2 ^ o.b)
      have v1 := val_le os s1
      refine ⟨_, isBest_cons h0 hk h1, fun i sum now tw => ?_⟩
      simp only [nGo, if_pos hk, e0, e1, tot]
      by_cases hle : val os s0 ≤ o.p + val os s1
      · rw [if_pos hle]
        by_cases hp : ((sum + (o.p + tot os) : Nat) : Int) ≤ tw.2
        · rw [if_pos hp, if_pos (by simp only [val]; omega)]
        · rw [if_neg hp]
          by_cases hq : ((sum + o.p + val os s1 : Nat) : Int) ≤ tw.2
          · rw [if_pos hq, if_pos (by omega), if_pos (by simp only [val]; omega)]
          · rw [if_neg hq, if_pos (by dsimp only; omega), if_neg (by simp only [val]; omega)]
            simp [val, idx, Nat.add_assoc]
      · rw [if_neg hle]
        by_cases hp : ((sum + (o.p + tot os) : Nat) : Int) ≤ tw.2
        · rw [if_pos hp, if_pos (by simp only [val]; omega)]
        · rw [if_neg hp]
          by_cases hq : ((sum + o.p + val os s1 : Nat) : Int) ≤ tw.2
          · rw [if_pos hq]; rfl
          · rw [if_neg hq, if_neg (by dsimp only; omega), if_neg (by simp only [val]; omega)]; rfl
    · refine ⟨_, isBest_skip h0 hk, fun i sum now tw => ?_⟩
      simp only [nGo, if_neg hk, e0, tot]
      by_cases hp : ((sum + (o.p + tot os) : Nat) : Int) ≤ tw.2
      · rw [if_pos hp, if_pos (by simp only [val]; omega)]
      · rw [if_neg hp]; rfl
end Go.Proofs.Ythfdjccdelbeeaa.TPl
