/- Proved: the pure statement of TenderBest. -/
import Derived.Test.YthfdjccdelbeeaaPTxPureTenderBest
import Derived.Test.YthfdjccdelbeeaaTLw
namespace Go.Proofs.Ythfdjccdelbeeaa.PT
open Go.RowKit Go.Proofs.YthfdjccdelbeeaaW.PrintWords Go.Proofs.Ythfdjccdelbeeaa.Opn Go.Proofs.Ythfdjccdelbeeaa.TPl
theorem ev_alive' : Ev (fun k => (kimberlitelaw05_alive.f k).bind fun t => some t) true := Ev.bind ev_alive (Ev.now true)
theorem tenderBest_pure : kimberlitelaw05_TenderBest.Pure2 := by
  intro lots l _ _
  apply Ev.rounds
  unfold kimberlitelaw05_TenderBest.f
  by_cases hf : kimberlitelaw05_few.f l = some true
  · have hl : l.length ≤ 30 := by
      unfold kimberlitelaw05_few.f at hf
      split at hf
      · omega
      · split at hf <;> simp at hf; omega
    simp only [hf, Option.bind_some, if_true]
    refine Ev.bind (ev_own l (by omega)) ?_
    by_cases he : errS lots l = 0
    · have hv := errS_zero.1 he
      obtain ⟨s, hs, e, hB⟩ := ev_BestOk lots l hv
      refine Ev.bind hB ?_
      refine Ev.bind (ev_Offers lots l) ?_
      simp only [he, if_true]
      refine Ev.bind (ev_offers l (by omega)) ?_
      obtain ⟨s', hs', e', hR⟩ := best_both l hv.bv (-1)
      have : s' = s := hs'.uniq hs
      subst this
      refine Ev.step (f := fun k => (kimberliteref05_Best.f k l (-1)).bind fun bt200 => ((kimberlitelaw05_same.f k (idx 0 s') bt200.1).bind fun t204 => (if t204 = true then (if ((val (l.map toOf) s' : Nat) : Int) = bt200.2 then ((kimberlitelaw05_alive.f k).bind fun t205 => (some t205)) else (some false)) else (some false)))) (fun k => by simp [kimberlitelaw05_TenderBest.j0]) ?_
      refine Ev.bind hR ?_
      have hil := idx_len s' 0
      have hsl := feas_len _ _ _ _ _ hs.1
      simp only [List.length_map] at hsl
      refine Ev.bind (ev_same (idx 0 s') (idx 0 s') (by omega)) ?_
      simp only [beq_self_eq_true, if_true]
      exact ev_alive'
    · refine Ev.bind (ev_BestErr lots l he) ?_
      refine Ev.bind (ev_Offers lots l) ?_
      simp only [if_true]
      refine Ev.bind (ev_offers l (by omega)) ?_
      refine Ev.step (f := fun k => (kimberlitelaw05_alive.f k).bind fun t => some t) (fun k => by simp [kimberlitelaw05_TenderBest.j0, he]) ev_alive'
  · have : kimberlitelaw05_few.f l = some false := by
      unfold kimberlitelaw05_few.f at hf ⊢
      split
      · rename_i c; rw [if_pos c] at hf; exact absurd rfl hf
      · rename_i c; rw [if_neg c] at hf
        split
        · rename_i d; rw [if_pos d] at hf
          by_cases g : (l.length : Int) ≤ 30
          · simp [g] at hf
          · simp [g]
        · rfl
    simp only [this, Option.bind_some]
    exact ev_alive'
end Go.Proofs.Ythfdjccdelbeeaa.PT
