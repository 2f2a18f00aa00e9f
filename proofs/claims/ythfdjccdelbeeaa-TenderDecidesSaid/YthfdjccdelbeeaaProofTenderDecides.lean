/- Proved: the pure statement of TenderDecides. -/
import Derived.Test.YthfdjccdelbeeaaPTxPureTenderDecides
import Derived.Test.YthfdjccdelbeeaaTGn
namespace Go.Proofs.Ythfdjccdelbeeaa.PT
open Go.RowKit Go.Proofs.YthfdjccdelbeeaaW.PrintWords Go.Proofs.Ythfdjccdelbeeaa.Opn Go.Proofs.Ythfdjccdelbeeaa.TPl
set_option linter.unusedVariables false
theorem decides_alive : Ev (fun k => (kimberlitelaw05_alive.f k).bind fun t => some t) true := Ev.bind ev_alive (Ev.now true)
theorem ev_decides_j1 (lots : Int) (l : List S50) (b : Int) (w : List Int) : Ev (fun k => kimberlitelaw05_TenderDecides.j1 k lots l b w false) true := by
  obtain ⟨r, hr⟩ := gain_is lots l b w
  refine Ev.step (f := fun k => (tender_Gain.f k lots l b w).bind fun bt378 => ((kimberliteref05_Gain.f k lots l b w).bind fun bt380 => (if bt378.1 = bt380.1 then (if bt378.2 = bt380.2 then ((kimberlitelaw05_alive.f k).bind fun t382 => (some t382)) else (some false)) else (some false)))) (fun k => by simp [kimberlitelaw05_TenderDecides.j1]) ?_
  refine Ev.bind (ev_Gain lots l b w r hr) (Ev.bind (ev_refGain lots l b w r hr) ?_)
  simp only [if_true]
  exact decides_alive
theorem ev_decides_j0 (lots : Int) (l : List S50) (b : Int) (w : List Int) (d : Bool) : Ev (fun k => kimberlitelaw05_TenderDecides.j0 k lots l b w d) true := by
  cases d with
  | true => exact Ev.step (fun k => by simp only [kimberlitelaw05_TenderDecides.j0, if_true]) decides_alive
  | false =>
    refine Ev.step (f := fun k => (tender_Decide.f k lots l).bind fun bt359 => ((kimberliteref05_Offers.f k lots l).bind fun t368 => (if bt359.2.2.2 = t368 then (if bt359.2.2.2 = 0 then ((kimberliteref05_Decide.f k l).bind fun bt369 => ((kimberlitelaw05_award.f k bt359.1 bt359.2.1 bt359.2.2.1 bt369.1 bt369.2.1 bt369.2.2).bind fun t376 => (kimberlitelaw05_TenderDecides.j1 k lots l b w (!t376)))) else ((kimberlitelaw05_award.f k bt359.1 bt359.2.1 bt359.2.2.1 ([] : List Int) ([] : List Int) 0).bind fun t377 => (if t377 = true then (kimberlitelaw05_TenderDecides.j1 k lots l b w false) else (kimberlitelaw05_TenderDecides.j1 k lots l b w true)))) else (kimberlitelaw05_TenderDecides.j1 k lots l b w true)))) (fun k => by simp [kimberlitelaw05_TenderDecides.j0]) ?_
    by_cases he : errS lots l = 0
    · have hv := errS_zero.1 he
      obtain ⟨s, hs, _, hD⟩ := ev_DecideOk lots l hv
      have hsl := feas_len _ _ _ _ _ hs.1
      simp only [List.length_map] at hsl
      have hl16 := hv.len
      have hil := idx_len s 0
      refine Ev.bind hD (Ev.bind (ev_Offers lots l) ?_)
      simp only [he, if_true]
      refine Ev.bind (ev_refDecide l hv.bv s hs) (Ev.bind (ev_award _ _ _ _ _ _ (by omega) (by rw [List.length_map]; omega)) ?_)
      simp only [beq_self_eq_true, Bool.true_and, Bool.not_true]
      exact ev_decides_j1 lots l b w
    · refine Ev.bind (ev_DecideErr lots l he) (Ev.bind (ev_Offers lots l) ?_)
      simp only [if_true, if_neg he]
      refine Ev.bind (ev_award [] [] 0 [] [] 0 (by decide) (by decide)) ?_
      simpa using ev_decides_j1 lots l b w
theorem tenderDecides_pure : kimberlitelaw05_TenderDecides.Pure2 := by
  intro lots l b w _ _ _ _
  apply Ev.rounds
  unfold kimberlitelaw05_TenderDecides.f
  have hf : ∃ t, kimberlitelaw05_few.f l = some t := by
    unfold kimberlitelaw05_few.f
    split
    · exact ⟨_, rfl⟩
    · split <;> exact ⟨_, rfl⟩
  obtain ⟨t, ht⟩ := hf
  simp only [ht, Option.bind_some]
  have hj := ev_decides_j0 lots l b w
  split
  · split
    · split <;> exact hj _
    · exact hj _
  · exact hj _
end Go.Proofs.Ythfdjccdelbeeaa.PT
