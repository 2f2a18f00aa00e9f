/-
  The best choice by the program and by the specification is one; lists are compared; what Best, Decide and the reference's Decide come to.
-/
import Derived.Test.YthfdjccdelbeeaaTRf
import Derived.Test.YthfdjccdelbeeaaPTx12
import Derived.Test.YthfdjccdelbeeaaPTx2
import Derived.Test.YthfdjccdelbeeaaPTx6
namespace Go.Proofs.Ythfdjccdelbeeaa.PT
open Go.RowKit Go.Proofs.YthfdjccdelbeeaaW.PrintWords Go.Proofs.YthfdjccdelbeeaaW.PrintLast Go.Proofs.YthfdjccdelbeeaaW.PrintMore Go.Proofs.Ythfdjccdelbeeaa.TPl
set_option linter.unusedVariables false
def BInvP (wo : Int) (os : List Of) (m : Nat) (best : List Int) (most : Int) : Prop :=
  (best = [] ∧ most = -1 ∧ ∀ t, feas wo os t 0 0 → num t < m) ∨ ∃ s, feas wo os s 0 0 ∧ m ≤ num s ∧ best = idx 0 s ∧ most = ((val os s : Nat) : Int) ∧ ∀ t, feas wo os t 0 0 → m ≤ num t → val os t < val os s ∨ (val os t = val os s ∧ num t ≤ num s)
theorem ev_l0 (l : List S50) (hv : bValid l) (wo : Int) (sb : List Bool) (hb : IsBest wo (l.map toOf) 0 0 sb) : ∀ (m : Nat) (best : List Int) (most : Int), m ≤ 2 ^ l.length → BInvP wo (l.map toOf) m best most →
    Ev (fun k => kimberliteref05_Best.l0 k l wo best most ((m : Int) - 1)) (idx 0 sb, ((val (l.map toOf) sb : Nat) : Int))
  | 0, best, most, _, hI => by
    rcases hI with ⟨_, _, h⟩ | ⟨s, hs, _, rfl, rfl, h⟩
    · exact absurd (h _ (feas_none wo (l.map toOf) 0 0)) (by omega)
    · have : s = sb := IsBest.uniq ⟨hs, fun t ht => h t ht (Nat.zero_le _)⟩ hb
      subst this
      refine Ev.here fun k => ?_
      simp only [kimberliteref05_Best.l0]
      rw [if_neg (by omega)]
  | m + 1, best, most, hm, hI => by
    have hl16 := hv.1
    have h16 : 2 ^ l.length ≤ 2 ^ 16 := Nat.pow_le_pow_right (by decide) hl16
    have hsl := ofNum_len l.length m
    have hsn := num_ofNum l.length m (by omega)
    generalize hS : ofNum l.length m = s at hsl hsn
    have hw : wrap64 ((num ([] ++ s) : Int) - 1) = (m : Int) - 1 := by rw [List.nil_append, hsn]; unfold wrap64; omega
    refine Ev.step (f := fun k => kimberliteref05_Best.l1 k l wo best most (num ([] ++ s) : Int) (idx 0 []) true 0 0 ((0 : Nat) : Int)) (fun k => ?_) ?_
    · simp only [kimberliteref05_Best.l0]
      rw [if_pos (by omega), List.nil_append, hsn, show ((m + 1 : Nat) : Int) - 1 = (m : Int) from by omega]; rfl
    · refine ev_l1 l hv wo best most _ s [] 0 0 0 (by simpa using hsl) rfl (by decide) (by decide) (fun h => by simpa using feas_any wo _ _ _ _ h) ?_
      rw [hw]
      simp only [List.drop_zero, List.nil_append]
      have uniq : ∀ t, feas wo (l.map toOf) t 0 0 → num t = m → t = s := fun t ht he => num_inj _ _ (by rw [feas_len _ _ _ _ _ ht, hsl]; simp) (by rw [he, hsn])
      by_cases c : feas wo (l.map toOf) s 0 0
      · rw [if_pos c]
        have hyes : ∀ most', BInvP wo (l.map toOf) m (idx 0 s) most' → most' = ((val (l.map toOf) s : Nat) : Int) → Ev (fun k => kimberliteref05_Best.l0 k l wo (idx 0 s) ((val (l.map toOf) s : Nat) : Int) ((m : Int) - 1)) (idx 0 sb, ((val (l.map toOf) sb : Nat) : Int)) := fun most' h e => by
          subst e; exact ev_l0 l hv wo sb hb m _ _ (by omega) h
        by_cases g : ((val (l.map toOf) s : Nat) : Int) > most
        · simp only [if_pos g]
          refine hyes _ (Or.inr ⟨s, c, by omega, rfl, rfl, fun t ht hmt => ?_⟩) rfl
          by_cases e : num t = m
          · rw [uniq t ht e]; right; exact ⟨rfl, Nat.le_refl _⟩
          · rcases hI with ⟨_, _, h⟩ | ⟨s', hs', _, _, rfl, h⟩
            · have := h t ht; omega
            · have := h t ht (by omega); omega
        · simp only [if_neg g]
          refine ev_l0 l hv wo sb hb m _ _ (by omega) ?_
          rcases hI with ⟨_, rfl, h⟩ | ⟨s', hs', hn', rfl, rfl, h⟩
          · exact absurd g (by omega)
          · refine Or.inr ⟨s', hs', by omega, rfl, rfl, fun t ht hmt => ?_⟩
            by_cases e : num t = m
            · rw [uniq t ht e, hsn]; omega
            · exact h t ht (by omega)
      · rw [if_neg c]
        refine ev_l0 l hv wo sb hb m _ _ (by omega) ?_
        rcases hI with ⟨e1, e2, h⟩ | ⟨s', hs', hn', e1, e2, h⟩
        · refine Or.inl ⟨e1, e2, fun t ht => ?_⟩
          have := h t ht
          by_cases e : num t = m
          · exact absurd (uniq t ht e ▸ ht) c
          · omega
        · refine Or.inr ⟨s', hs', by omega, e1, e2, fun t ht hmt => ?_⟩
          by_cases e : num t = m
          · exact absurd (uniq t ht e ▸ ht) c
          · exact h t ht (by omega)
/-- The best choice, for the program and for the specification. -/
theorem best_both (l : List S50) (hv : bValid l) (wo : Int) : ∃ s, IsBest wo (l.map toOf) 0 0 s ∧ tender_best.f l wo = some (idx 0 s, ((val (l.map toOf) s : Nat) : Int)) ∧ Ev (fun k => kimberliteref05_Best.f k l wo) (idx 0 s, ((val (l.map toOf) s : Nat) : Int)) := by
  obtain ⟨s, hs, e⟩ := best_spec l wo hv
  refine ⟨s, hs, e, ?_⟩
  have hl16 := hv.1
  have h16 : 2 ^ l.length ≤ 2 ^ 16 := Nat.pow_le_pow_right (by decide) hl16
  have h0 : 0 < 2 ^ l.length := Nat.pow_pos (by decide)
  have h := ev_l0 l hv wo s hs (2 ^ l.length) [] (-1) (Nat.le_refl _) (Or.inl ⟨rfl, rfl, fun t ht => by have := num_lt t; rw [feas_len _ _ _ _ _ ht] at this; simpa using this⟩)
  refine Ev.congr (fun k => ?_) h
  simp only [kimberliteref05_Best.f]
  rw [shl_pow _ (by omega)]
  congr 1
  generalize 2 ^ l.length = M at *
  unfold wrap64; omega
theorem beq_list {α : Type} [BEq α] [LawfulBEq α] (a b : List α) : (a == b) = true ↔ a = b := beq_iff_eq
theorem ev_same_l (a b : List Int) (hab : a.length = b.length) (hb : a.length < 1000000) : ∀ (d i : Nat), i + d = a.length → Ev (fun k => kimberlitelaw05_same.l0 k a b (i : Int)) (a.drop i == b.drop i)
  | 0, i, h => Ev.here fun k => by
      simp only [kimberlitelaw05_same.l0]
      rw [if_neg (by omega), List.drop_of_length_le (by omega), List.drop_of_length_le (by omega)]; rfl
  | d + 1, i, h => by
      have hi : i < a.length := by omega
      have hi' : i < b.length := by omega
      have ih := ev_same_l a b hab hb d (i + 1) (by omega)
      have hst : ∀ k, kimberlitelaw05_same.l0 (k + 1) a b (i : Int) = if a[i] = b[i] then kimberlitelaw05_same.l0 k a b ((i + 1 : Nat) : Int) else some false := fun k => by
        simp only [kimberlitelaw05_same.l0]
        rw [if_pos (by omega), if_pos (by omega), if_pos (by omega), w64 i (by omega)]
        simp [rd, hi, hi']
      have hc : (a.drop i == b.drop i) = (a[i] == b[i] && a.drop (i + 1) == b.drop (i + 1)) := by rw [List.drop_eq_getElem_cons hi, List.drop_eq_getElem_cons hi']; rfl
      rw [hc]
      by_cases c : a[i] = b[i]
      · refine Ev.step (fun k => by rw [hst k, if_pos c]) ?_
        rw [c, beq_self_eq_true, Bool.true_and]; exact ih
      · rw [beq_eq_false_iff_ne.2 c, Bool.false_and]
        exact Ev.here fun k => by rw [hst k, if_neg c]
theorem ev_same (a b : List Int) (h : a.length < 1000000) : Ev (fun k => kimberlitelaw05_same.f k a b) (a == b) := by
  by_cases hl : a.length = b.length
  · have := ev_same_l a b hl h a.length 0 (by omega)
    simp only [List.drop_zero] at this
    exact Ev.congr (fun k => by simp only [kimberlitelaw05_same.f]; rw [if_pos (by omega)]; rfl) this
  · have : (a == b) = false := by rw [beq_eq_false_iff_ne]; intro e; exact hl (by rw [e])
    rw [this]
    exact ⟨0, fun k _ => by simp only [kimberlitelaw05_same.f]; rw [if_neg (by omega)]⟩
theorem ev_award (a b : List Int) (x : Int) (a' b' : List Int) (x' : Int) (h : a.length < 1000000) (h' : b.length < 1000000) : Ev (fun k => kimberlitelaw05_award.f k a b x a' b' x') (a == a' && (b == b' && x == x')) := by
  unfold kimberlitelaw05_award.f
  refine Ev.bind (ev_same a a' h) ?_
  cases h1 : (a == a') with
  | false => simpa using Ev.now false
  | true =>
    simp only [if_true, Bool.true_and]
    refine Ev.bind (ev_same b b' h') ?_
    cases h2 : (b == b') with
    | false => simpa using Ev.now false
    | true => simpa using Ev.now (x == x')
/-- What Best answers. -/
theorem ev_BestOk (lots : Int) (l : List S50) (hv : Vld lots l) : ∃ s, IsBest (-1) (l.map toOf) 0 0 s ∧ tender_best.f l (-1) = some (idx 0 s, ((val (l.map toOf) s : Nat) : Int)) ∧ Ev (fun k => tender_Best.f k lots l) (idx 0 s, ((val (l.map toOf) s : Nat) : Int), 0) := by
  obtain ⟨s, hs, e, _⟩ := best_both l hv.bv (-1)
  refine ⟨s, hs, e, ?_⟩
  unfold tender_Best.f
  have hc := ev_checked lots l
  rw [errS_zero.2 hv] at hc
  refine Ev.bind hc ?_
  simp only [if_true, e]
  exact Ev.now _
theorem ev_BestErr (lots : Int) (l : List S50) (h : errS lots l ≠ 0) : Ev (fun k => tender_Best.f k lots l) ([], 0, errS lots l) := by
  unfold tender_Best.f
  refine Ev.bind (ev_checked lots l) ?_
  simp only [if_neg h]
  exact Ev.now _
theorem idx_mem : ∀ (s : List Bool) (i : Nat) (x : Int), x ∈ idx (i : Int) s → ∃ j : Nat, x = (j : Int) ∧ i ≤ j ∧ j < i + s.length ∧ s[j - i]? = some true
  | [], i, x, h => by simp [idx] at h
  | true :: s, i, x, h => by
    simp only [idx, List.mem_cons] at h
    rcases h with rfl | h
    · exact ⟨i, rfl, Nat.le_refl _, by simp, by simp⟩
    · rw [show (i : Int) + 1 = ((i + 1 : Nat) : Int) from by omega] at h
      obtain ⟨j, e, h1, h2, h3⟩ := idx_mem s (i + 1) x h
      refine ⟨j, e, by omega, by simp; omega, ?_⟩
      rw [show j - i = (j - (i + 1)) + 1 from by omega]; simpa using h3
  | false :: s, i, x, h => by
    simp only [idx] at h
    rw [show (i : Int) + 1 = ((i + 1 : Nat) : Int) from by omega] at h
    obtain ⟨j, e, h1, h2, h3⟩ := idx_mem s (i + 1) x h
    refine ⟨j, e, by omega, by simp; omega, ?_⟩
    rw [show j - i = (j - (i + 1)) + 1 from by omega]; simpa using h3
/-- The worth without a buyer. -/
def worthWo (l : List S50) (wo : Int) : Int := ((tender_best.f l wo).getD ([], 0)).2
/-- What is paid for an offer that is taken. -/
def payS (l : List S50) (v : Int) (i : Int) : Int := worthWo l (rd_T50 l i).f0 - (v - (rd_T50 l i).f2)
theorem tot_bd (l : List S50) (hv : bValid l) : (tot (l.map toOf) : Int) ≤ 17179869184 := by
  have := bSum_bd l (fun o ho => by have := hv.2 o ho; omega)
  have e := bSum_tot l (fun o ho => (hv.2 o ho).2.2.2.2.1)
  have := hv.1
  omega
theorem worthWo_bd (l : List S50) (hv : bValid l) (wo : Int) : 0 ≤ worthWo l wo ∧ worthWo l wo ≤ 17179869184 := by
  obtain ⟨s, hs, e, _⟩ := best_both l hv wo
  have := val_le (l.map toOf) s
  have := tot_bd l hv
  simp only [worthWo, e, Option.getD_some]
  omega
theorem ev_Decide_l (l : List S50) (hv : bValid l) (v : Int) (hv0 : 0 ≤ v) (hv1 : v ≤ 17179869184) (T : List Int) (hT : ∀ x ∈ T, ∃ j : Nat, x = (j : Int) ∧ j < l.length) (hTl : T.length ≤ 16) (t0 : List Int) (w0 : Int) : ∀ (d i : Nat) (pays : List Int), i + d = T.length → pays.length = i →
    Ev (fun k => tender_Decide.l0 k l v T (T.length : Int) (i : Int) t0 pays w0) (t0, pays ++ (T.drop i).map (payS l v), w0, 0)
  | 0, i, pays, h, hp => Ev.here fun k => by
      simp only [tender_Decide.l0]
      rw [if_neg (by omega), List.drop_of_length_le (by omega)]; simp
  | d + 1, i, pays, h, hp => by
      have hi : i < T.length := by omega
      obtain ⟨j, ej, hj⟩ := hT T[i] (List.getElem_mem hi)
      have erd : rd T (i : Int) = (j : Int) := by simp [rd, hi, ej]
      have ho := hv.2 l[j] (List.getElem_mem hj)
      obtain ⟨s, hs, e, _⟩ := best_both l hv l[j].f0
      have hb := worthWo_bd l hv l[j].f0
      have hw : worthWo l l[j].f0 = ((val (l.map toOf) s : Nat) : Int) := by simp only [worthWo, e, Option.getD_some]
      have ih := ev_Decide_l l hv v hv0 hv1 T hT hTl t0 w0 d (i + 1) (pays ++ [payS l v T[i]]) (by omega) (by simp [hp])
      rw [List.drop_eq_getElem_cons hi, List.map_cons]
      rw [List.append_assoc] at ih
      refine Ev.step (fun k => ?_) ih
      simp only [tender_Decide.l0, erd]
      rw [if_pos (by omega), if_pos (by omega), if_pos (by omega), if_pos (by omega), if_pos (by omega), rd_get l j hj, e]
      simp only [Option.bind_some]
      rw [if_pos (by omega), w64 i (by omega)]
      have : wrap64 (((val (l.map toOf) s : Nat) : Int) - wrap64 (v - l[j].f2)) = payS l v T[i] := by
        simp only [payS, ej, rd_get l j hj, hw]
        rw [hw] at hb
        unfold wrap64; omega
      rw [this]
theorem ev_DecideOk (lots : Int) (l : List S50) (hv : Vld lots l) : ∃ s, IsBest (-1) (l.map toOf) 0 0 s ∧ tender_best.f l (-1) = some (idx 0 s, ((val (l.map toOf) s : Nat) : Int)) ∧
    Ev (fun k => tender_Decide.f k lots l) (idx 0 s, (idx 0 s).map (payS l ((val (l.map toOf) s : Nat) : Int)), ((val (l.map toOf) s : Nat) : Int), 0) := by
  obtain ⟨s, hs, e, hB⟩ := ev_BestOk lots l hv
  refine ⟨s, hs, e, ?_⟩
  unfold tender_Decide.f
  refine Ev.bind hB ?_
  simp only [if_true]
  have hsl := feas_len _ _ _ _ _ hs.1
  simp only [List.length_map] at hsl
  have hl16 := hv.bv.1
  have := val_le (l.map toOf) s
  have := tot_bd l hv.bv
  have hil := idx_len s 0
  have := ev_Decide_l l hv.bv ((val (l.map toOf) s : Nat) : Int) (by omega) (by omega) (idx 0 s) (fun x hx => by obtain ⟨j, e, _, h2, _⟩ := idx_mem s 0 x hx; exact ⟨j, e, by omega⟩) (by omega) (idx 0 s) ((val (l.map toOf) s : Nat) : Int) (idx 0 s).length 0 [] (by omega) rfl
  simpa using this
theorem ev_DecideErr (lots : Int) (l : List S50) (h : errS lots l ≠ 0) : Ev (fun k => tender_Decide.f k lots l) ([], [], 0, errS lots l) := by
  unfold tender_Decide.f
  refine Ev.bind (ev_BestErr lots l h) ?_
  simp only [if_neg h]
  exact Ev.now _
end Go.Proofs.Ythfdjccdelbeeaa.PT
