/- Proved: the pure statement of TenderHarm. -/
import Derived.Test.YthfdjccdelbeeaaPTxPureTenderHarm
import Derived.Test.YthfdjccdelbeeaaTHm
namespace Go.Proofs.Ythfdjccdelbeeaa.PT
open Go.RowKit Go.Proofs.YthfdjccdelbeeaaW.PrintWords Go.Proofs.Ythfdjccdelbeeaa.Opn Go.Proofs.Ythfdjccdelbeeaa.TPl
set_option linter.unusedVariables false
theorem harm_alive : Ev (fun k => (kimberlitelaw05_alive.f k).bind fun t => some t) true := Ev.bind ev_alive (Ev.now true)
theorem ev_harm_l0 (l : List S50) (hv : bValid l) (a : Int) (s : List Bool) (hs : IsBest (-1) (l.map toOf) 0 0 s) (R : Int) (hR : 0 ≤ R ∧ R ≤ 17179869184)
    (hpay : ∀ x ∈ idx 0 s, (rd_T50 l x).f0 = a → (rd_T50 l x).f2 - payS l ((val (l.map toOf) s : Nat) : Int) x = ((val (l.map toOf) s : Nat) : Int) - R) :
    ∀ (d i : Nat) (margin : Int), i + d = (idx 0 s).length → (margin = ((val (l.map toOf) s : Nat) : Int) - R ∨ ∃ x ∈ (idx 0 s).drop i, (rd_T50 l x).f0 = a) →
      Ev (fun k => kimberlitelaw05_TenderHarm.l0 k l a R 0 margin (i : Int) (idx 0 s) ((idx 0 s).map (payS l ((val (l.map toOf) s : Nat) : Int))) ((val (l.map toOf) s : Nat) : Int)) true
  | 0, i, margin, h, hm => by
      rw [List.drop_of_length_le (by omega)] at hm
      rcases hm with rfl | ⟨x, hx, _⟩
      · have h1 := val_le (l.map toOf) s
        have h2 := tot_bd l hv
        refine Ev.step (fun k => ?_) harm_alive
        simp only [kimberlitelaw05_TenderHarm.l0]
        rw [if_neg (by omega), if_pos trivial, if_pos (by unfold wrap64; omega)]
      · simp at hx
  | d + 1, i, margin, h, hm => by
      have hi : i < (idx 0 s).length := by omega
      have hsl := feas_len _ _ _ _ _ hs.1
      simp only [List.length_map] at hsl
      have hl16 := hv.1
      have hil := idx_len s 0
      have hmem : (idx 0 s)[i] ∈ idx 0 s := List.getElem_mem hi
      obtain ⟨j, ej, _, hj, hsj⟩ := idx_mem s 0 _ hmem
      have hj : j < l.length := by omega
      rw [Nat.sub_zero] at hsj
      have ho := hv.2 l[j] (List.getElem_mem hj)
      have hpb := pay_bd l hv s hs j hj hsj
      have hpay' := hpay _ hmem
      rw [ej, rd_get l j hj] at hpay'
      rw [List.drop_eq_getElem_cons hi] at hm
      have er : rd (idx 0 s) (i : Int) = (j : Int) := by simp [rd, hi, ej]
      have er2 : rd ((idx 0 s).map (payS l ((val (l.map toOf) s : Nat) : Int))) (i : Int) = payS l ((val (l.map toOf) s : Nat) : Int) (j : Int) := by simp [rd, hi, ej]
      have hst : ∀ k, kimberlitelaw05_TenderHarm.l0 (k + 3) l a R 0 margin (i : Int) (idx 0 s) ((idx 0 s).map (payS l ((val (l.map toOf) s : Nat) : Int))) ((val (l.map toOf) s : Nat) : Int)
          = kimberlitelaw05_TenderHarm.l0 k l a R 0 (if l[j].f0 = a then l[j].f2 - payS l ((val (l.map toOf) s : Nat) : Int) (j : Int) else margin) ((i + 1 : Nat) : Int) (idx 0 s) ((idx 0 s).map (payS l ((val (l.map toOf) s : Nat) : Int))) ((val (l.map toOf) s : Nat) : Int) := fun k => by
        simp only [kimberlitelaw05_TenderHarm.l0, er]
        rw [if_pos (by omega), if_pos (by omega), if_neg (by omega), decide_eq_false (by omega)]
        simp only [kimberlitelaw05_TenderHarm.j1, er, er2, rd_get l j hj, List.length_map]
        rw [if_neg (by decide), if_pos (by omega), if_pos (by omega), if_pos (by omega), if_pos (by omega), if_pos (by omega), if_neg (by omega), decide_eq_false (by omega)]
        simp only [kimberlitelaw05_TenderHarm.j2, er2, List.length_map]
        rw [if_neg (by decide), w64 i (by omega), if_pos (show (0 : Int) ≤ (i : Int) by omega), if_pos (show (i : Int) < ((idx 0 s).length : Int) by omega)]
        by_cases c : l[j].f0 = a
        · rw [if_pos c, if_pos c, show wrap64 (l[j].f2 - payS l ((val (l.map toOf) s : Nat) : Int) (j : Int)) = l[j].f2 - payS l ((val (l.map toOf) s : Nat) : Int) (j : Int) by unfold wrap64; omega]
        · rw [if_neg c, if_neg c]
      refine Ev.step2 (g := fun k => kimberlitelaw05_TenderHarm.l0 (k + 1) l a R 0 margin (i : Int) (idx 0 s) ((idx 0 s).map (payS l ((val (l.map toOf) s : Nat) : Int))) ((val (l.map toOf) s : Nat) : Int)) (fun k => hst k) ?_ |> Ev.step (fun k => rfl)
      refine ev_harm_l0 l hv a s hs R hR hpay d (i + 1) _ (by omega) ?_
      by_cases c : l[j].f0 = a
      · rw [if_pos c]; left; exact hpay' c
      · rw [if_neg c]
        rcases hm with rfl | ⟨x, hx, he⟩
        · exact Or.inl rfl
        · rcases List.mem_cons.1 hx with rfl | hx
          · rw [ej, rd_get l j hj] at he; exact absurd he c
          · exact Or.inr ⟨x, hx, he⟩
theorem tenderHarm_pure : kimberlitelaw05_TenderHarm.Pure2 := by
  intro lots l a _ _ _
  apply Ev.rounds
  unfold kimberlitelaw05_TenderHarm.f
  by_cases hl : (l.length : Int) > 16
  · simp only [if_pos hl]; exact harm_alive
  · simp only [if_neg hl]
    by_cases he : errS lots l = 0
    · have hv := errS_zero.1 he
      obtain ⟨s, hs, e, hD⟩ := ev_DecideOk lots l hv
      refine Ev.bind hD ?_
      simp only [if_true, List.length_map]
      refine Ev.bind (ev_without l a (by omega)) ?_
      have hv' := filt_vld hv a
      obtain ⟨t, ht, e', hB⟩ := ev_BestOk lots _ hv'
      refine Ev.bind hB ?_
      dsimp only
      have h1 := val_le ((l.filter (fun o => o.f0 != a)).map toOf) t
      have h2 := tot_bd _ hv'.bv
      refine ev_harm_l0 l hv.bv a s hs _ (by omega) ?_ (idx 0 s).length 0 0 (by omega) ?_
      · intro x hx hxa
        obtain ⟨j, rfl, _, hj, hsj⟩ := idx_mem s 0 x hx
        have hsl := feas_len _ _ _ _ _ hs.1
        simp only [List.length_map] at hsl
        have hj : j < l.length := by omega
        rw [rd_get l j hj] at hxa ⊢
        have ho := hv.bv.2 l[j] (List.getElem_mem hj)
        have hr := rest_eq hv a (by omega) ht
        rw [hr]
        simp only [payS, rd_get l j hj, hxa]; omega
      · by_cases c : ∃ x ∈ idx 0 s, (rd_T50 l x).f0 = a
        · right; simpa using c
        · left
          have := rest_same hv a hs ht (fun x hx hxa => c ⟨x, hx, hxa⟩)
          rw [this]; omega
    · refine Ev.bind (ev_DecideErr lots l he) ?_
      simp only [if_neg he]
      refine Ev.bind (ev_award [] [] 0 [] [] 0 (by decide) (by decide)) ?_
      simpa using harm_alive
end Go.Proofs.Ythfdjccdelbeeaa.PT
