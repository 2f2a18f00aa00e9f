/-
  Lies and facts: a lie that is taken may give way to a fact within its lots.
-/
import Derived.Test.YthfdjccdelbeeaaTHot
import Derived.Test.YthfdjccdelbeeaaTVc
namespace Go.Proofs.Ythfdjccdelbeeaa.TPl
set_option linter.unusedVariables false
theorem feas_oneb (wo : Int) (b : Nat) : ∀ (os : List Of) (s : List Bool) (L B : Nat), (∀ o ∈ os, o.b = b) → B.testBit b = true → feas wo os s L B → s = List.replicate os.length false
  | [], [], _, _, _, _, _ => rfl
  | o :: os, true :: s, L, B, h, hB, hf => by
    have := hf.1.2.2
    rw [h o List.mem_cons_self, hB] at this; cases this
  | o :: os, false :: s, L, B, h, hB, hf => by
    rw [feas_oneb wo b os s L B (fun x hx => h x (List.mem_cons_of_mem _ hx)) hB hf]; rfl
  | [], _ :: _, _, _, _, _, h => h.elim
  | _ :: _, [], _, _, _, _, h => h.elim
theorem taken_one (wo : Int) (b : Nat) : ∀ (Y : List Of) (s : List Bool) (L B j : Nat) (y : Of), (∀ o ∈ Y, o.b = b) → feas wo Y s L B → s[j]? = some true → Y[j]? = some y → nok wo L B y ∧ val Y s = y.p
  | o :: os, true :: s, L, B, j, y, h, hf, hj, hy => by
    have e := feas_oneb wo b os s _ _ (fun x hx => h x (List.mem_cons_of_mem _ hx)) (by rw [Nat.testBit_or, Nat.testBit_two_pow, h o List.mem_cons_self]; simp) hf.2
    cases j with
    | zero =>
      simp at hy; subst hy
      refine ⟨hf.1, ?_⟩
      simp only [val]
      rw [e, val_none]; omega
    | succ j =>
      rw [e] at hj
      simp [List.getElem?_replicate] at hj
  | o :: os, false :: s, L, B, j, y, h, hf, hj, hy => by
    cases j with
    | zero => simp at hj
    | succ j =>
      have := taken_one wo b os s L B j y (fun x hx => h x (List.mem_cons_of_mem _ hx)) hf (by simpa using hj) (by simpa using hy)
      simpa [val] using this
  | [], [], _, _, j, y, _, _, hj, _ => by simp at hj
  | [], _ :: _, _, _, _, _, _, h, _, _ => h.elim
  | _ :: _, [], _, _, _, _, _, h, _, _ => h.elim
theorem hot_feas_any (wo : Int) : ∀ (os : List Of) (j : Nat) (o : Of) (L B : Nat), os[j]? = some o → nok wo L B o → feas wo os (hot j os.length) L B
  | o' :: os, 0, o, L, B, ho, hw => by
    simp at ho; subst ho
    simp only [hot, List.replicate_zero, List.nil_append, List.length_cons, Nat.add_sub_cancel, Nat.sub_zero]
    exact ⟨hw, feas_none wo os _ _⟩
  | o' :: os, j + 1, o, L, B, ho, hw => by
    have := hot_feas_any wo os j o L B (by simpa using ho) hw
    simpa [hot, List.replicate_succ, feas] using this
  | [], j, o, L, B, ho, _ => by simp at ho
theorem and_within {L f y : Nat} (h : f &&& y = f) (hL : L &&& y = 0) : L &&& f = 0 := by
  rw [← h, Nat.and_comm f y, ← Nat.and_assoc, hL, Nat.zero_and]
theorem lie_fact (b : Nat) (Y F : List Of) (hY : ∀ o ∈ Y, o.b = b) (hF : ∀ o ∈ F, o.b = b) : ∀ (R : List Of) (s : List Bool) (L B j : Nat) (y : Of), (∀ r ∈ R, r.b ≠ b) → feas (-1) (R ++ Y) s L B → s[j]? = some true → (R ++ Y)[j]? = some y → y.b = b →
    (∃ t, feas (-1) (R ++ F) t L B ∧ val (R ++ F) t + y.p = val (R ++ Y) s) ∧ ∀ f ∈ F, f.l &&& y.l = f.l → ∃ t, feas (-1) (R ++ F) t L B ∧ val (R ++ F) t + y.p = val (R ++ Y) s + f.p
  | [], s, L, B, j, y, hR, hf, hj, hy, hyb => by
    rw [List.nil_append] at hf hy ⊢
    rw [List.nil_append]
    obtain ⟨h1, h2⟩ := taken_one (-1) b Y s L B j y hY hf hj hy
    refine ⟨⟨List.replicate F.length false, feas_none _ _ _ _, by rw [val_none, h2]; omega⟩, fun f hfm hsub => ?_⟩
    obtain ⟨k, hk, rfl⟩ := List.mem_iff_getElem.1 hfm
    have hk' : F[k]? = some F[k] := by simp [hk]
    refine ⟨hot k F.length, hot_feas_any _ F k _ L B hk' ⟨by omega, and_within hsub h1.2.1, ?_⟩, by rw [hot_val F k _ hk', h2]; omega⟩
    rw [hF _ hfm, ← hyb]; exact h1.2.2
  | r :: R, true :: s, L, B, 0, y, hR, hf, hj, hy, hyb => by
    simp at hy; subst hy
    exact absurd hyb (hR _ List.mem_cons_self)
  | r :: R, true :: s, L, B, j + 1, y, hR, hf, hj, hy, hyb => by
    obtain ⟨⟨t, h1, h2⟩, h3⟩ := lie_fact b Y F hY hF R s _ _ j y (fun x hx => hR x (List.mem_cons_of_mem _ hx)) hf.2 (by simpa using hj) (by simpa using hy) hyb
    refine ⟨⟨true :: t, ⟨hf.1, h1⟩, by simp only [List.cons_append, val]; omega⟩, fun f hfm hsub => ?_⟩
    obtain ⟨t, h4, h5⟩ := h3 f hfm hsub
    exact ⟨true :: t, ⟨hf.1, h4⟩, by simp only [List.cons_append, val]; omega⟩
  | r :: R, false :: s, L, B, 0, y, hR, hf, hj, hy, hyb => by simp at hj
  | r :: R, false :: s, L, B, j + 1, y, hR, hf, hj, hy, hyb => by
    obtain ⟨⟨t, h1, h2⟩, h3⟩ := lie_fact b Y F hY hF R s _ _ j y (fun x hx => hR x (List.mem_cons_of_mem _ hx)) hf (by simpa using hj) (by simpa using hy) hyb
    refine ⟨⟨false :: t, h1, by simp only [List.cons_append, val]; omega⟩, fun f hfm hsub => ?_⟩
    obtain ⟨t, h4, h5⟩ := h3 f hfm hsub
    exact ⟨false :: t, h4, by simp only [List.cons_append, val]; omega⟩
  | r :: R, [], _, _, _, _, _, h, _, _, _ => h.elim
end Go.Proofs.Ythfdjccdelbeeaa.TPl
