/- Proved: the pure statement of ProofHashes. -/
import Derived.Test.YtacjdoekgmmfoaaPLxPureProofHashes
import Derived.Test.YtacjdoekgmmfoaaLMx
namespace Go.Proofs.Ytacjdoekgmmfoaa.PL
open Go.RowKit Go.Proofs.YtacjdoekgmmfoaaW.PrintWords Go.Proofs.Ytacjdoekgmmfoaa.Opn
set_option linter.unusedVariables false
theorem ev_Root (l : List (List Int)) (hl : l.length < 1000000000) : Ev (fun k => proof_Root.f k l) (rootS l, listE l) := by
  unfold proof_Root.f rootS
  refine Ev.bind (ev_listed l) ?_
  by_cases c : listE l = 0
  · simp only [if_pos c]
    exact Ev.bind (ev_root _ (l.map leafS) (Nat.le_refl _) (by rw [List.length_map]; exact hl) (leafs_ok l)) (Ev.now _)
  · simp only [if_neg c]
    have : top [] = 0 := by rw [top]; rfl
    have h := ev_root 0 [] (Nat.le_refl _) (by decide) (fun x hx => by simp at hx)
    rw [this] at h
    exact Ev.bind h (Ev.now _)
theorem ev_rRoot (l : List (List Int)) (hl : l.length < 1000000000) : Ev (fun k => kimberliteref07_Root.f k l) (rootS l, listE l) := by
  unfold kimberliteref07_Root.f rootS
  refine Ev.bind (ev_List l) ?_
  by_cases c : listE l = 0
  · simp only [c, if_true]
    exact Ev.bind (ev_Top _ l (Nat.le_refl _) hl (fun x hx => by have := (listE_zero.1 c).2 x hx; omega)) (Ev.now _)
  · simp only [if_neg c]; exact Ev.now _
theorem proofHashes_pure : kimberlitelaw07_ProofHashes.Pure2 := by
  intro l b x y _ _ hx hy
  apply Ev.rounds
  have hx := wf_u64 hx
  have hy := wf_u64 hy
  obtain ⟨t, ht, hft⟩ := few_ev l
  unfold kimberlitelaw07_ProofHashes.f
  refine Ev.bind ht ?_
  have hT : Ev (fun k => kimberlitelaw07_ProofHashes.j0 k l b x y true) true := Ev.step (fun k => by simp only [kimberlitelaw07_ProofHashes.j0, if_true]) alive_ev
  cases t with
  | false => simpa using hT
  | true =>
    simp only [if_true]
    obtain ⟨h1, h2⟩ := hft rfl
    by_cases c : (b.length : Int) > 5000
    · rw [decide_eq_true c]; exact hT
    · rw [decide_eq_false c]
      refine Ev.step (fun k => by simp only [kimberlitelaw07_ProofHashes.j0]; rw [if_neg (by decide)]) ?_
      refine Ev.bind (ev_Root l (by omega)) (Ev.bind (ev_rRoot l (by omega)) ?_)
      simp only [if_true]
      refine Ev.bind (ev_Mix b (by omega)) (Ev.bind (ev_rMix b (by omega)) ?_)
      simp only [if_true]
      refine Ev.bind (ev_Leaf b (by omega)) (Ev.bind (ev_rLeaf b (by omega)) ?_)
      simp only [if_true]
      refine Ev.bind (ev_Node x y hx hy) (Ev.bind (ev_rNode x y hx hy) ?_)
      simp only [if_true]
      exact alive_ev
end Go.Proofs.Ytacjdoekgmmfoaa.PL
