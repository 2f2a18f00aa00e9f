/- Proved: the pure statement of ProofMakes. -/
import Derived.Test.YtacjdoekgmmfoaaPLxPureProofMakes
import Derived.Test.YtacjdoekgmmfoaaLIn
namespace Go.Proofs.Ytacjdoekgmmfoaa.PL
open Go.RowKit Go.Proofs.YtacjdoekgmmfoaaW.PrintWords Go.Proofs.Ytacjdoekgmmfoaa.Opn
set_option linter.unusedVariables false
theorem ev_makes_l2 (l : List (List Int)) (i m : Int) (s : List S54) (f : Int) (h : List Int) (g t : Int) (hk : Ev (fun k => kimberlitelaw07_ProofMakes.l0 k l i m s f h g (wrap64 (t + 1))) true) :
    ∀ (d j : Nat) (x : List Int), j + d = x.length → x.length < 1000000 → Ev (fun k => kimberlitelaw07_ProofMakes.l2 k l i m s f h g t x (j : Int)) true
  | 0, j, x, e, _ => Ev.step (fun k => by simp only [kimberlitelaw07_ProofMakes.l2]; rw [if_neg (by omega)]) hk
  | d + 1, j, x, e, hx => by
    refine Ev.step (fun k => ?_) (ev_makes_l2 l i m s f h g t hk d (j + 1) (x.set j (IntKind.u64.wrap (rd x (j : Int) + 1))) (by rw [List.length_set]; omega) (by rw [List.length_set]; exact hx))
    simp only [kimberlitelaw07_ProofMakes.l2]
    rw [if_pos (by omega), if_pos (by omega), w64 j (by omega), Int.toNat_natCast]
theorem ev_makes_l1 (l : List (List Int)) (i m : Int) (s : List S54) (f : Int) (h : List Int) (g t : Int)
    (hk : Ev (fun k => (proof_Extend.f k l m).bind fun bt553 => ((kimberlitelaw07_hashes.f k bt553.1 h).bind fun t557 => (if t557 = true then (kimberlitelaw07_ProofMakes.j3 k l i m s f h g t bt553.1 (bt553.2 != g)) else (kimberlitelaw07_ProofMakes.j3 k l i m s f h g t bt553.1 true)))) true) :
    ∀ (d j : Nat) (x : List S54), j + d = x.length → x.length < 1000000 → Ev (fun k => kimberlitelaw07_ProofMakes.l1 k l i m s f h g t x (j : Int)) true
  | 0, j, x, e, _ => Ev.step (fun k => by simp only [kimberlitelaw07_ProofMakes.l1]; rw [if_neg (by omega)]) hk
  | d + 1, j, x, e, hx => by
    refine Ev.step (fun k => ?_) (ev_makes_l1 l i m s f h g t hk d (j + 1) (x.set j (⟨IntKind.u64.wrap (((rd_T54 x (j : Int)).f0) + 1), (rd_T54 x (j : Int)).f1⟩ : S54)) (by rw [List.length_set]; omega) (by rw [List.length_set]; exact hx))
    simp only [kimberlitelaw07_ProofMakes.l1]
    rw [if_pos (by omega), if_pos (by omega), w64 j (by omega), Int.toNat_natCast]
theorem ev_makes_l0 (l : List (List Int)) (i m : Int) : ∀ (d t : Nat), t + d = 2 → Ev (fun k => kimberlitelaw07_ProofMakes.l0 k l i m (incS l i).1 (incS l i).2 (exS l m).1 (exS l m).2 (t : Int)) true
  | 0, t, e => Ev.step (fun k => by simp only [kimberlitelaw07_ProofMakes.l0]; rw [if_neg (by omega)]) alive_ev
  | d + 1, t, e => by
    have ih := ev_makes_l0 l i m d (t + 1) (by omega)
    rw [← w64 t (by omega)] at ih
    have s1 := inc_small l i
    have s2 := ex_small l m
    refine Ev.step (fun k => by simp only [kimberlitelaw07_ProofMakes.l0]; rw [if_pos (by omega)]) (Ev.bind (ev_Include l i) (Ev.bind (ev_steps (incS l i).1 (by omega)) ?_))
    simp only [if_true, bne_self_eq_false]
    refine Ev.step (fun k => by simp only [kimberlitelaw07_ProofMakes.j1]; rw [if_neg (by decide)]) ?_
    refine ev_makes_l1 l i m _ _ _ _ (t : Int) ?_ (incS l i).1.length 0 (incS l i).1 (by omega) (by omega)
    refine Ev.bind (ev_Extend l m) (Ev.bind (ev_hashes (exS l m).1 (by omega)) ?_)
    simp only [if_true, bne_self_eq_false]
    refine Ev.step (fun k => by simp only [kimberlitelaw07_ProofMakes.j3]; rw [if_neg (by decide)]) ?_
    exact ev_makes_l2 l i m _ _ _ _ (t : Int) ih (exS l m).1.length 0 (exS l m).1 (by omega) (by omega)
theorem proofMakes_pure : kimberlitelaw07_ProofMakes.Pure2 := by
  intro l i m _ _ _
  apply Ev.rounds
  obtain ⟨t, ht, hft⟩ := few_ev l
  unfold kimberlitelaw07_ProofMakes.f
  refine Ev.bind ht ?_
  cases t with
  | false => simpa using alive_ev
  | true =>
    simp only [if_true]
    refine Ev.bind (ev_rInclude l i) (Ev.bind (ev_rExtend l m) ?_)
    exact ev_makes_l0 l i m 2 0 rfl
end Go.Proofs.Ytacjdoekgmmfoaa.PL
