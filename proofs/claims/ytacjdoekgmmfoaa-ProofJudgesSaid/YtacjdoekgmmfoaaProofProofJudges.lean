/- Proved: the pure statement of ProofJudges. -/
import Derived.Test.YtacjdoekgmmfoaaPLxPureProofJudges
import Derived.Test.YtacjdoekgmmfoaaLJd
import Derived.Test.YtacjdoekgmmfoaaLEx
namespace Go.Proofs.Ytacjdoekgmmfoaa.PL
open Go.RowKit Go.Proofs.YtacjdoekgmmfoaaW.PrintWords Go.Proofs.Ytacjdoekgmmfoaa.Opn
set_option linter.unusedVariables false
theorem proofJudges_pure : kimberlitelaw07_ProofJudges.Pure2 := by
  intro e i n root ss m old hs _ _ _ hroot hss _ hold hhs
  apply Ev.rounds
  have hs0 : ∀ s ∈ ss, okH s.f0 := fun s hs => wf_u64 (hss.2 s hs).1
  have hT : Ev (fun k => kimberlitelaw07_ProofJudges.j0 k e i n root ss m old hs true) true := Ev.step (fun k => by simp only [kimberlitelaw07_ProofJudges.j0, if_true]) alive_ev
  unfold kimberlitelaw07_ProofJudges.f
  by_cases c1 : (e.length : Int) > 400
  · simp only [if_pos c1]; exact hT
  simp only [if_neg c1]
  by_cases c2 : (ss.length : Int) > 100
  · simp only [if_pos c2]; exact hT
  simp only [if_neg c2]
  by_cases c3 : (hs.length : Int) > 100
  · simp only [decide_eq_true c3]; exact hT
  simp only [decide_eq_false c3]
  obtain ⟨r, hr1, hr2⟩ := ext_both m n old root hs (by omega) (fun x hx => wf_u64 (hhs.2 x hx)) (wf_u64 hold)
  refine Ev.step (fun k => by simp only [kimberlitelaw07_ProofJudges.j0]; rw [if_neg (by decide)]) ?_
  refine Ev.bind (ev_Included e i n root ss (by omega) (by omega) hs0) (Ev.bind (ev_rIncluded e i n root ss (by omega) (by omega) hs0) ?_)
  simp only [bne_self_eq_false, Bool.false_eq_true, if_false, if_true]
  refine Ev.bind (ev_Follow e ss (by omega) (by omega) hs0) (Ev.bind (ev_rFollow e ss (by omega) (by omega) hs0) ?_)
  simp only [bne_self_eq_false]
  refine Ev.step (fun k => by simp only [kimberlitelaw07_ProofJudges.j1]; rw [if_neg (by decide)]) ?_
  refine Ev.bind hr1 (Ev.bind hr2 ?_)
  simp only [beq_self_eq_true, if_true]
  exact alive_ev
end Go.Proofs.Ytacjdoekgmmfoaa.PL
