/-
  Plain facts on choices: a buyer struck out; the tie rule on lists of indexes; offers without a buyer; a list in two parts.
-/
import Derived.Test.YthfdjccdelbeeaaTPl
namespace Go.Proofs.Ythfdjccdelbeeaa.TPl
set_option linter.unusedVariables false
/-- The rule for ties, on lists of indexes. -/
def cmp : List Int → List Int → Bool
  | a :: T, b :: O => if a = b then cmp T O else decide (a < b)
  | _, [] => true
  | [], _ :: _ => false
theorem idx_ge : ∀ (s : List Bool) (i x : Int), x ∈ idx i s → i ≤ x
  | [], i, x, h => by simp [idx] at h
  | true :: s, i, x, h => by
    simp only [idx, List.mem_cons] at h
    rcases h with rfl | h
    · omega
    · have := idx_ge s (i + 1) x h; omega
  | false :: s, i, x, h => by have := idx_ge s (i + 1) x h; omega
theorem cmp_num : ∀ (s t : List Bool) (i : Int), s.length = t.length → num t ≤ num s → cmp (idx i s) (idx i t) = true
  | [], [], i, _, _ => rfl
  | true :: s, true :: t, i, hl, h => by
    have hl' : s.length = t.length := by simpa using hl
    simp only [num, hl'] at h
    simp only [idx, cmp, if_true]
    exact cmp_num s t (i + 1) hl' (by omega)
  | true :: s, false :: t, i, hl, h => by
    simp only [idx]
    cases ht : idx (i + 1) t with
    | nil => rfl
    | cons b O =>
      have hb := idx_ge t (i + 1) b (by rw [ht]; exact List.mem_cons_self)
      simp only [cmp]
      rw [if_neg (by omega)]; simp; omega
  | false :: s, true :: t, i, hl, h => by
    have hl' : s.length = t.length := by simpa using hl
    have := num_lt s
    simp only [num] at h
    rw [hl'] at this; omega
  | false :: s, false :: t, i, hl, h => by
    simp only [idx]
    exact cmp_num s t (i + 1) (by simpa using hl) h
/-- One set of bits within another. -/
def Sub (a b : Nat) : Prop := ∀ i, a.testBit i = true → b.testBit i = true
theorem Sub.refl (a : Nat) : Sub a a := fun _ h => h
theorem Sub.or_left {a b : Nat} (h : Sub a b) (c : Nat) : Sub a (b ||| c) := fun i hi => by rw [Nat.testBit_or, h i hi]; rfl
theorem Sub.or_both {a b : Nat} (h : Sub a b) (c : Nat) : Sub (a ||| c) (b ||| c) := fun i hi => by
  rw [Nat.testBit_or] at hi ⊢
  rcases Bool.or_eq_true _ _ ▸ hi with h1 | h1
  · rw [h i h1]; rfl
  · rw [h1]; simp
theorem Sub.and {a b c : Nat} (h : Sub a b) (hz : b &&& c = 0) : a &&& c = 0 := by
  apply Nat.eq_of_testBit_eq
  intro i
  have := congrArg (fun x => x.testBit i) hz
  simp only [Nat.testBit_and, Nat.zero_testBit] at this ⊢
  cases ha : a.testBit i with
  | false => simp
  | true => rw [h i ha] at this; simpa using this
theorem Sub.nok {wo : Int} {L L' B B' : Nat} {o : Of} (hL : Sub L' L) (hB : Sub B' B) (h : nok wo L B o) : nok wo L' B' o :=
  ⟨h.1, hL.and h.2.1, by
    cases e : B'.testBit o.b with
    | false => rfl
    | true => have := hB _ e; rw [h.2.2] at this; cases this⟩
/-- A choice with a buyer's offers struck out. -/
def clr (b : Nat) : List Of → List Bool → List Bool
  | o :: os, x :: s => (if o.b = b then false else x) :: clr b os s
  | _, _ => []
/-- What a buyer's taken offer costs. -/
def tk (b : Nat) : List Of → List Bool → Nat
  | o :: os, true :: s => if o.b = b then o.p else tk b os s
  | _ :: os, false :: s => tk b os s
  | _, _ => 0
theorem feas_clr (b : Nat) : ∀ (os : List Of) (s : List Bool) (L B L' B' : Nat), feas (-1) os s L B → Sub L' L → Sub B' B → feas b os (clr b os s) L' B'
  | [], [], _, _, _, _, _, _, _ => trivial
  | o :: os, true :: s, L, B, L', B', h, hL, hB => by
    simp only [clr]
    by_cases c : o.b = b
    · rw [if_pos c]; exact feas_clr b os s _ _ L' B' h.2 (hL.or_left _) (hB.or_left _)
    · rw [if_neg c]
      have hn := Sub.nok hL hB h.1
      exact ⟨⟨by omega, hn.2⟩, feas_clr b os s _ _ _ _ h.2 (hL.or_both _) (hB.or_both _)⟩
  | o :: os, false :: s, L, B, L', B', h, hL, hB => by
    simp only [clr]
    rw [show (if o.b = b then false else false) = false from by split <;> rfl]
    exact feas_clr b os s L B L' B' h hL hB
  | [], _ :: _, _, _, _, _, h, _, _ => h.elim
  | _ :: _, [], _, _, _, _, h, _, _ => h.elim
theorem tk_none (b : Nat) : ∀ (os : List Of) (s : List Bool) (L B : Nat), feas (-1) os s L B → B.testBit b = true → tk b os s = 0 ∧ val os (clr b os s) = val os s
  | [], [], _, _, _, _ => ⟨rfl, rfl⟩
  | o :: os, true :: s, L, B, h, hb => by
    have hne : o.b ≠ b := fun e => by have := h.1.2.2; rw [e, hb] at this; cases this
    have ih := tk_none b os s _ _ h.2 (by rw [Nat.testBit_or, hb]; rfl)
    simp only [tk, clr, if_neg hne, val]
    exact ⟨ih.1, by rw [ih.2]⟩
  | o :: os, false :: s, L, B, h, hb => by
    have ih := tk_none b os s L B h hb
    simp only [tk, clr, val]
    rw [show (if o.b = b then false else false) = false from by split <;> rfl]
    simp only [val]; exact ih
  | [], _ :: _, _, _, h, _ => h.elim
  | _ :: _, [], _, _, h, _ => h.elim
theorem val_clr (b : Nat) : ∀ (os : List Of) (s : List Bool) (L B : Nat), feas (-1) os s L B → val os (clr b os s) + tk b os s = val os s
  | [], [], _, _, _ => rfl
  | o :: os, true :: s, L, B, h => by
    by_cases c : o.b = b
    · have ih := tk_none b os s _ _ h.2 (by rw [Nat.testBit_or, Nat.testBit_two_pow, c]; simp)
      simp only [tk, clr, if_pos c, val]
      rw [ih.2]; omega
    · have ih := val_clr b os s _ _ h.2
      simp only [tk, clr, if_neg c, val]; omega
  | o :: os, false :: s, L, B, h => by
    have ih := val_clr b os s L B h
    simp only [tk, clr]
    rw [show (if o.b = b then false else false) = false from by split <;> rfl]
    simp only [val]; exact ih
  | [], _ :: _, _, _, h => h.elim
  | _ :: _, [], _, _, h => h.elim
/-- The offer that stands at a place of the choice is the buyer's one. -/
theorem tk_at : ∀ (os : List Of) (s : List Bool) (L B j : Nat) (o : Of), feas (-1) os s L B → s[j]? = some true → os[j]? = some o → tk o.b os s = o.p
  | o' :: os, true :: s, L, B, 0, o, h, hs, ho => by
    simp at ho; subst ho
    simp [tk]
  | o' :: os, true :: s, L, B, j + 1, o, h, hs, ho => by
    simp at hs ho
    have ih := tk_at os s _ _ j o h.2 hs ho
    simp only [tk]
    by_cases c : o'.b = o.b
    · exfalso
      have := sel_bit os s _ _ j o h.2 hs ho
      rw [Nat.testBit_or, Nat.testBit_two_pow, c] at this; simp at this
    · rw [if_neg c]; exact ih
  | o' :: os, false :: s, L, B, 0, o, h, hs, ho => by simp at hs
  | o' :: os, false :: s, L, B, j + 1, o, h, hs, ho => by
    simp at hs ho
    exact tk_at os s L B j o h hs ho
  | [], [], _, _, j, o, _, hs, _ => by simp at hs
  | [], _ :: _, _, _, _, _, h, _, _ => h.elim
  | _ :: _, [], _, _, _, _, h, _, _ => h.elim
where
  sel_bit : ∀ (os : List Of) (s : List Bool) (L B j : Nat) (o : Of), feas (-1) os s L B → s[j]? = some true → os[j]? = some o → B.testBit o.b = false
  | o' :: os, true :: s, L, B, 0, o, h, hs, ho => by
    simp at ho; subst ho; exact h.1.2.2
  | o' :: os, true :: s, L, B, j + 1, o, h, hs, ho => by
    simp at hs ho
    have := sel_bit os s _ _ j o h.2 hs ho
    rw [Nat.testBit_or] at this
    cases e : B.testBit o.b with
    | false => rfl
    | true => rw [e] at this; simp at this
  | o' :: os, false :: s, L, B, 0, o, h, hs, ho => by simp at hs
  | o' :: os, false :: s, L, B, j + 1, o, h, hs, ho => by
    simp at hs ho
    exact sel_bit os s L B j o h hs ho
  | [], [], _, _, j, o, _, hs, _ => by simp at hs
  | [], _ :: _, _, _, _, _, h, _, _ => h.elim
  | _ :: _, [], _, _, _, _, h, _, _ => h.elim
theorem tk_zero (b : Nat) : ∀ (os : List Of) (s : List Bool), (∀ (j : Nat) (o : Of), s[j]? = some true → os[j]? = some o → o.b ≠ b) → tk b os s = 0
  | [], s, _ => by cases s <;> rfl
  | _ :: _, [], _ => rfl
  | o :: os, true :: s, h => by
    simp only [tk]
    rw [if_neg (h 0 o rfl rfl)]
    exact tk_zero b os s (fun j o' h1 h2 => h (j + 1) o' (by simpa using h1) (by simpa using h2))
  | o :: os, false :: s, h => by
    simp only [tk]
    exact tk_zero b os s (fun j o' h1 h2 => h (j + 1) o' (by simpa using h1) (by simpa using h2))
theorem feas_neg1 (wo : Int) : ∀ (os : List Of) (s : List Bool) (L B : Nat), feas wo os s L B → feas (-1) os s L B
  | [], [], _, _, _ => trivial
  | o :: os, true :: s, L, B, h => ⟨⟨by omega, h.1.2.1, h.1.2.2⟩, feas_neg1 wo os s _ _ h.2⟩
  | _ :: os, false :: s, L, B, h => feas_neg1 wo os s L B h
  | [], _ :: _, _, _, h => h.elim
  | _ :: _, [], _, _, h => h.elim
/-- What a buyer is worth to the choice. -/
theorem worth_without {os : List Of} {b : Nat} {s t : List Bool} (hs : IsBest (-1) os 0 0 s) (ht : IsBest (b : Int) os 0 0 t) : val os t ≤ val os s ∧ val os s ≤ val os t + tk b os s := by
  have h1 := hs.2 t (feas_neg1 _ _ _ _ _ ht.1)
  have h2 := ht.2 (clr b os s) (feas_clr b os s 0 0 0 0 hs.1 (Sub.refl _) (Sub.refl _))
  have h3 := val_clr b os s 0 0 hs.1
  omega
/-- Without a buyer: by the list that lacks them, or by the word 'without'. -/
theorem strike (wo : Int) (hw : 0 ≤ wo) : ∀ (os : List Of) (s : List Bool) (L B : Nat), feas wo os s L B → ∃ t, feas (-1) (os.filter (fun o => (o.b : Int) != wo)) t L B ∧ val os s ≤ val (os.filter (fun o => (o.b : Int) != wo)) t
  | [], [], _, _, _ => ⟨[], trivial, Nat.le_refl _⟩
  | o :: os, true :: s, L, B, h => by
    obtain ⟨t, h1, h2⟩ := strike wo hw os s _ _ h.2
    have c : ((o.b : Int) != wo) = true := by simpa using h.1.1
    refine ⟨true :: t, ?_, ?_⟩
    · rw [List.filter_cons, if_pos c]; exact ⟨⟨by omega, h.1.2⟩, h1⟩
    · rw [List.filter_cons, if_pos c]; simp only [val]; omega
  | o :: os, false :: s, L, B, h => by
    obtain ⟨t, h1, h2⟩ := strike wo hw os s L B h
    by_cases c : ((o.b : Int) != wo) = true
    · refine ⟨false :: t, ?_, ?_⟩
      · rw [List.filter_cons, if_pos c]; exact h1
      · rw [List.filter_cons, if_pos c]; simpa only [val] using h2
    · refine ⟨t, ?_, ?_⟩
      · rw [List.filter_cons, if_neg c]; exact h1
      · rw [List.filter_cons, if_neg c]; simpa only [val] using h2
  | [], _ :: _, _, _, h => h.elim
  | _ :: _, [], _, _, h => h.elim
theorem unstrike (wo : Int) : ∀ (os : List Of) (t : List Bool) (L B : Nat), feas (-1) (os.filter (fun o => (o.b : Int) != wo)) t L B → ∃ s, feas wo os s L B ∧ val (os.filter (fun o => (o.b : Int) != wo)) t ≤ val os s
  | [], [], _, _, _ => ⟨[], trivial, Nat.le_refl _⟩
  | [], _ :: _, _, _, h => h.elim
  | o :: os, t, L, B, h => by
    by_cases c : ((o.b : Int) != wo) = true
    · rw [List.filter_cons, if_pos c] at h ⊢
      match t, h with
      | true :: t, h =>
        obtain ⟨s, h1, h2⟩ := unstrike wo os t _ _ h.2
        exact ⟨true :: s, ⟨⟨by simpa using c, h.1.2⟩, h1⟩, by simp only [val]; omega⟩
      | false :: t, h =>
        obtain ⟨s, h1, h2⟩ := unstrike wo os t _ _ h
        exact ⟨false :: s, h1, by simpa only [val] using h2⟩
      | [], h => exact h.elim
    · rw [List.filter_cons, if_neg c] at h ⊢
      obtain ⟨s, h1, h2⟩ := unstrike wo os t L B h
      exact ⟨false :: s, h1, by simpa only [val] using h2⟩
theorem val_filter {wo : Int} (hw : 0 ≤ wo) {os : List Of} {s t : List Bool} (hs : IsBest wo os 0 0 s) (ht : IsBest (-1) (os.filter (fun o => (o.b : Int) != wo)) 0 0 t) : val os s = val (os.filter (fun o => (o.b : Int) != wo)) t :=
  IsBest.val_eq hs ht (fun u hu => strike wo hw os u 0 0 hu) (fun u hu => unstrike wo os u 0 0 hu)
end Go.Proofs.Ythfdjccdelbeeaa.TPl
