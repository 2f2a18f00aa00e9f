/-
  The two roots that hashes make: by the program's taker and by the specification.
-/
import Derived.Test.YtacjdoekgmmfoaaLMx
import Derived.Test.YtacjdoekgmmfoaaPLx12
import Derived.Test.YtacjdoekgmmfoaaPLx13
import Derived.Test.YtacjdoekgmmfoaaPLx14
import Derived.Test.YtacjdoekgmmfoaaPLx15
namespace Go.Proofs.Ytacjdoekgmmfoaa.PL
open Go.RowKit Go.Proofs.YtacjdoekgmmfoaaW.PrintWords Go.Proofs.YtacjdoekgmmfoaaW.PrintLast Go.Proofs.YtacjdoekgmmfoaaW.PrintMore
set_option linter.unusedVariables false
set_option linter.unusedSimpArgs false
/-- The next hash, how many are taken then, and whether there were too few. -/
def nx (hs : List Int) (t : Nat) (s : Bool) : Int × Nat × Bool := if t < hs.length then (hs.getD t 0, t + 1, s) else (0, t, true)
theorem nx_ref (hs : List Int) (hn : hs.length < 1000000) (o w : Int) (t : Nat) (s : Bool) : kimberliteref07_Two_next.f o w (t : Int) s hs = some ((nx hs t s).1, o, w, (((nx hs t s).2.1 : Nat) : Int), (nx hs t s).2.2) := by
  unfold kimberliteref07_Two_next.f nx
  by_cases c : t < hs.length
  · rw [if_neg (by omega), if_pos (by omega), if_pos (by omega), if_pos c, w64 t (by omega)]; simp [rd]
  · rw [if_pos (by omega), if_neg c]
theorem nx_prog (hs : List Int) (t : Nat) (s : Bool) (ht : t ≤ hs.length) : nxt (hs.drop t) = (nx hs t s).1 ∧ (hs.drop t).tail = hs.drop (nx hs t s).2.1 ∧ (s || (hs.drop t).isEmpty) = (nx hs t s).2.2 ∧ (nx hs t s).2.1 ≤ hs.length := by
  unfold nx nxt
  by_cases c : t < hs.length
  · rw [if_pos c, List.drop_eq_getElem_cons c]
    refine ⟨by simp [c], rfl, by cases s <;> rfl, c⟩
  · rw [if_neg c, List.drop_of_length_le (by omega)]
    exact ⟨rfl, rfl, by simp, ht⟩
theorem nx_ok (hs : List Int) (hh : ∀ x ∈ hs, okH x) (t : Nat) (s : Bool) : okH (nx hs t s).1 := by
  unfold nx
  by_cases c : t < hs.length
  · rw [if_pos c]
    have : hs.getD t 0 = hs[t] := by simp [c]
    rw [this]; exact hh _ (List.getElem_mem c)
  · rw [if_neg c]; show okH 0; exact ⟨by decide, by decide⟩
theorem roots_both (hs : List Int) (hn : hs.length < 1000000) (hh : ∀ x ∈ hs, okH x) (old : Int) (ho : okH old) : ∀ (b n m : Nat) (wh : Bool), n ≤ b → n < 1000000 → 1 ≤ m → m ≤ n →
    ∃ (o w : Int) (t : Nat) (s : Bool), okH o ∧ okH w ∧ t ≤ hs.length ∧ Ev (fun k => kimberliteref07_made.f k (m : Int) (n : Int) old wh hs) (o, w, (t : Int), s) ∧ Ev (fun k => rts k (m : Int) (n : Int) wh old hs false) (o, w, hs.drop t, s)
  | 0, n, m, wh, h, _, h1, h2 => by omega
  | b + 1, n, m, wh, h, hb, h1, h2 => by
    by_cases c : m = n
    · subst c
      cases wh with
      | true =>
        refine ⟨old, old, 0, false, ho, ho, Nat.zero_le _, Ev.here fun k => ?_, Ev.here fun k => ?_⟩
        · simp only [kimberliteref07_made.f]; rw [if_pos trivial, if_pos trivial]; rfl
        · simp only [rts]; rw [if_pos trivial, if_pos trivial]; rfl
      | false =>
        have hp := nx_prog hs 0 false (Nat.zero_le _)
        rw [List.drop_zero] at hp
        refine ⟨(nx hs 0 false).1, (nx hs 0 false).1, (nx hs 0 false).2.1, (nx hs 0 false).2.2, nx_ok hs hh 0 false, nx_ok hs hh 0 false, hp.2.2.2, Ev.here fun k => ?_, Ev.here fun k => ?_⟩
        · simp only [kimberliteref07_made.f]; rw [if_pos trivial, if_neg (by decide), show (0 : Int) = ((0 : Nat) : Int) from rfl, nx_ref hs hn]; rfl
        · simp only [rts]; rw [if_pos trivial, if_neg (by decide), hp.1, hp.2.1, hp.2.2.1]
    · have hl := half_lt n (by omega)
      by_cases c2 : m ≤ half n
      · obtain ⟨o, w, t, s, k1, k2, k3, k4, k5⟩ := roots_both hs hn hh old ho b (half n) m wh (by omega) (by omega) h1 c2
        have hp := nx_prog hs t s k3
        refine ⟨o, nodeS w (nx hs t s).1, (nx hs t s).2.1, (nx hs t s).2.2, k1, mix_ok _, hp.2.2.2, ?_, ?_⟩
        · refine Ev.step (fun k => by simp only [kimberliteref07_made.f]; rw [if_neg (by omega)]) (Ev.bind (ev_half n (by omega) (by omega)) ?_)
          simp only [if_pos (show (m : Int) ≤ ((half n : Nat) : Int) by omega)]
          refine Ev.bind k4 ?_
          simp only [nx_ref hs hn, Option.bind_some]
          exact Ev.bind (ev_rNode w _ k2 (nx_ok hs hh t s)) (Ev.now _)
        · refine Ev.step (fun k => by simp only [rts]; rw [if_neg (by omega)]) (Ev.bind (ev_part n (by omega) (by omega)) ?_)
          simp only [if_pos (show (m : Int) ≤ ((half n : Nat) : Int) by omega)]
          refine Ev.bind k5 ?_
          simp only [hp.1, hp.2.1, hp.2.2.1]
          exact Ev.bind (ev_Node w _ k2 (nx_ok hs hh t s)) (Ev.now _)
      · obtain ⟨o, w, t, s, k1, k2, k3, k4, k5⟩ := roots_both hs hn hh old ho b (n - half n) (m - half n) false (by omega) (by omega) (by omega) (by omega)
        have hp := nx_prog hs t s k3
        have e1 : wrap64 ((m : Int) - ((half n : Nat) : Int)) = ((m - half n : Nat) : Int) := by unfold wrap64; omega
        have e2 : wrap64 ((n : Int) - ((half n : Nat) : Int)) = ((n - half n : Nat) : Int) := by unfold wrap64; omega
        refine ⟨nodeS (nx hs t s).1 o, nodeS (nx hs t s).1 w, (nx hs t s).2.1, (nx hs t s).2.2, mix_ok _, mix_ok _, hp.2.2.2, ?_, ?_⟩
        · refine Ev.step (fun k => by simp only [kimberliteref07_made.f]; rw [if_neg (by omega)]) (Ev.bind (ev_half n (by omega) (by omega)) ?_)
          simp only [if_neg (show ¬ (m : Int) ≤ ((half n : Nat) : Int) by omega), e1, e2]
          refine Ev.bind k4 ?_
          simp only [nx_ref hs hn, Option.bind_some]
          exact Ev.bind (ev_rNode _ o (nx_ok hs hh t s) k1) (Ev.bind (ev_rNode _ w (nx_ok hs hh t s) k2) (Ev.now _))
        · refine Ev.step (fun k => by simp only [rts]; rw [if_neg (by omega)]) (Ev.bind (ev_part n (by omega) (by omega)) ?_)
          simp only [if_neg (show ¬ (m : Int) ≤ ((half n : Nat) : Int) by omega), e1, e2]
          refine Ev.bind k5 ?_
          simp only [hp.1, hp.2.1, hp.2.2.1]
          exact Ev.bind (ev_Node _ o (nx_ok hs hh t s) k1) (Ev.bind (ev_Node _ w (nx_ok hs hh t s) k2) (Ev.now _))
/-- Extended: both answer the same. -/
theorem ext_both (m n old root : Int) (hs : List Int) (hn : hs.length < 1000000) (hh : ∀ x ∈ hs, okH x) (ho : okH old) : ∃ r, Ev (fun k => proof_Extended.f k m n old root hs) r ∧ Ev (fun k => kimberliteref07_Extended.f k m n old root hs) r := by
  by_cases c : n < 1 ∨ n > 4096 ∨ m < 1 ∨ m > n
  · refine ⟨(false, 2), ?_, ?_⟩
    · unfold proof_Extended.f; simp only [if_pos c]; exact Ev.now _
    · unfold kimberliteref07_Extended.f
      by_cases d1 : n < 1
      · simp only [if_pos d1]; exact Ev.now _
      by_cases d2 : n > 4096
      · simp only [if_neg d1, if_pos d2]; exact Ev.now _
      by_cases d3 : m < 1
      · simp only [if_neg d1, if_neg d2, if_pos d3]; exact Ev.now _
      simp only [if_neg d1, if_neg d2, if_neg d3, if_pos (show m > n by omega)]; exact Ev.now _
  · obtain ⟨o, w, t, s, k1, k2, k3, k4, k5⟩ := roots_both hs hn hh old ho n.toNat n.toNat m.toNat true (Nat.le_refl _) (by omega) (by omega) (by omega)
    rw [show ((m.toNat : Nat) : Int) = m by omega, show ((n.toNat : Nat) : Int) = n by omega] at k4 k5
    refine ⟨(!s && ((hs.drop t).isEmpty && (o == old && w == root)), 0), ?_, ?_⟩
    · unfold proof_Extended.f; simp only [if_neg c]; exact Ev.bind k5 (Ev.now _)
    · unfold kimberliteref07_Extended.f
      simp only [if_neg (show ¬ n < 1 by omega), if_neg (show ¬ n > 4096 by omega), if_neg (show ¬ m < 1 by omega), if_neg (show ¬ m > n by omega)]
      refine Ev.bind k4 ?_
      cases s with
      | true => simpa using Ev.now (false, (0 : Int))
      | false =>
        by_cases e : t = hs.length
        · have he : (hs.drop t).isEmpty = true := by rw [e, List.drop_length]; rfl
          simp only [he, if_pos (show (t : Int) = (hs.length : Int) by omega)]
          by_cases f : o = old
          · simp only [if_pos f, beq_iff_eq.mpr f]; simpa using Ev.now _
          · simp only [if_neg f, beq_eq_false_iff_ne.mpr f]; simpa using Ev.now _
        · have he : (hs.drop t).isEmpty = false := by
            rw [List.drop_eq_getElem_cons (by omega)]; rfl
          simp only [he, if_neg (show ¬ (t : Int) = (hs.length : Int) by omega)]; simpa using Ev.now _
end Go.Proofs.Ytacjdoekgmmfoaa.PL
