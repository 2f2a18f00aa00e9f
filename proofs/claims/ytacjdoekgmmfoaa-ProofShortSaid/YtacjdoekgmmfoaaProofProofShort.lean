/- Proved: the pure statement of ProofShort. -/
import Derived.Test.YtacjdoekgmmfoaaPLxPureProofShort
import Derived.Test.YtacjdoekgmmfoaaLIn
namespace Go.Proofs.Ytacjdoekgmmfoaa.PL
open Go.RowKit Go.Proofs.YtacjdoekgmmfoaaW.PrintWords Go.Proofs.Ytacjdoekgmmfoaa.Opn
set_option linter.unusedVariables false
theorem ev_short_l0 (l : List (List Int)) (hl : l.length ≤ 100) (i m : Int) : ∀ (b v d : Nat), v ≤ b → d + v ≤ 200 → v = l.length / 2 ^ d → Ev (fun k => kimberlitelaw07_ProofShort.l0 k l i m (d : Int) (v : Int)) true
  | 0, v, d, hb, hd, hv => by
    have hv0 : v = 0 := by omega
    subst hv0
    have hlt : l.length < 2 ^ d := by
      rcases Nat.lt_or_ge l.length (2 ^ d) with g | g
      · exact g
      · have := Nat.div_pos g (Nat.pow_pos (by decide : 0 < 2)); omega
    have h1 : (incS l i).2 = 0 → ((incS l i).1.length : Int) ≤ (d : Int) := fun _ => by
      unfold incS
      by_cases e : listE l = 0
      · rw [if_pos e]
        split
        · have := way_len d (l.map leafS) i.toNat (by rw [List.length_map]; omega); dsimp only; omega
        · simp
      · rw [if_neg e]; simp
    have h2 : (exS l m).2 = 0 → ((exS l m).1.length : Int) ≤ wrap64 ((d : Int) + 1) := fun _ => by
      rw [w64 d (by omega)]
      unfold exS
      by_cases e : listE l = 0
      · rw [if_pos e]
        split
        · have := ext_len d (l.map leafS) m.toNat true (by rw [List.length_map]; omega); dsimp only; omega
        · simp; omega
      · rw [if_neg e]; simp; omega
    refine Ev.step (fun k => by simp only [kimberlitelaw07_ProofShort.l0]; rw [if_neg (by omega)]) (Ev.bind (ev_Include l i) (Ev.bind (ev_Extend l m) ?_))
    by_cases c1 : (incS l i).2 = 0
    · simp only [if_pos c1, if_pos (h1 c1)]
      by_cases c2 : (exS l m).2 = 0
      · simp only [if_pos c2, if_pos (h2 c2)]; exact alive_ev
      · simp only [if_neg c2]; exact alive_ev
    · simp only [if_neg c1]
      by_cases c2 : (exS l m).2 = 0
      · simp only [if_pos c2, if_pos (h2 c2)]; exact alive_ev
      · simp only [if_neg c2]; exact alive_ev
  | b + 1, v, d, hb, hd, hv => by
    by_cases c : v = 0
    · exact ev_short_l0 l hl i m 0 v d (by omega) hd hv
    · refine Ev.step (fun k => ?_) (ev_short_l0 l hl i m b (v / 2) (d + 1) (by omega) (by omega) (by rw [Nat.pow_succ, ← Nat.div_div_eq_div_mul, ← hv]))
      simp only [kimberlitelaw07_ProofShort.l0]
      rw [if_pos (by omega), w64 d (by omega), Int.tdiv_eq_ediv_of_nonneg (by omega), show wrap64 ((v : Int) / 2) = ((v / 2 : Nat) : Int) by unfold wrap64; omega]
theorem proofShort_pure : kimberlitelaw07_ProofShort.Pure2 := by
  intro l i m _ _ _
  apply Ev.rounds
  obtain ⟨t, ht, hft⟩ := few_ev l
  unfold kimberlitelaw07_ProofShort.f
  refine Ev.bind ht ?_
  cases t with
  | false => simpa using alive_ev
  | true =>
    simp only [if_true]
    obtain ⟨h1, h2⟩ := hft rfl
    exact ev_short_l0 l h1 i m l.length l.length 0 (Nat.le_refl _) (by omega) (by simp)
end Go.Proofs.Ytacjdoekgmmfoaa.PL
