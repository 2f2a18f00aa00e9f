/-
  Steps: where they lead, on which sides they stand; what the hashes of an extension make.
-/
import Derived.Test.YtacjdoekgmmfoaaLMx
import Derived.Test.YtacjdoekgmmfoaaPLx4
import Derived.Test.YtacjdoekgmmfoaaPLx5
namespace Go.Proofs.Ytacjdoekgmmfoaa.PL
open Go.RowKit Go.Proofs.YtacjdoekgmmfoaaW.PrintWords Go.Proofs.YtacjdoekgmmfoaaW.PrintLast Go.Proofs.YtacjdoekgmmfoaaW.PrintMore
set_option linter.unusedVariables false
set_option linter.unusedSimpArgs false
theorem rdT_at (l : List S54) (i : Nat) (h : i < l.length) : rd_T54 l (i : Int) = l[i] := by simp [rd_T54, h]
def sbytes (h : Int) (s : S54) : List Int := if s.f1 = true then nodeB s.f0 h else nodeB h s.f0
def fstep (h : Int) (s : S54) : Int := mixS (sbytes h s)
def followS (e : List Int) (ss : List S54) : Int := ss.foldl fstep (leafS e)
theorem sbytes_len (h : Int) (s : S54) : (sbytes h s).length = 17 := by unfold sbytes; split <;> exact nodeB_len _ _
theorem mixed_some (h : Int) (s : S54) (hh : okH h) (hs : okH s.f0) : proof_mixed.f h s.f0 s.f1 = some (sbytes h s) := by
  unfold proof_mixed.f sbytes
  by_cases c : s.f1 = true
  · simp only [if_pos c, node_some _ _ hs hh]; rfl
  · simp only [if_neg c, node_some _ _ hh hs]; rfl
theorem ev_Follow_l (ss : List S54) (hn : ss.length < 1000000) (hs : ∀ s ∈ ss, okH s.f0) : ∀ (d i : Nat) (h : Int), i + d = ss.length → okH h → Ev (fun k => proof_Follow.l0 k h ss (ss.length : Int) (i : Int)) ((ss.drop i).foldl fstep h)
  | 0, i, h, e, _ => Ev.here fun k => by
      simp only [proof_Follow.l0]
      rw [if_neg (by omega), List.drop_of_length_le (by omega)]; rfl
  | d + 1, i, h, e, hh => by
      have hi : i < ss.length := by omega
      rw [List.drop_eq_getElem_cons hi, List.foldl_cons]
      have hm := mixed_some h ss[i] hh (hs _ (List.getElem_mem hi))
      refine Ev.step (f := fun k => (proof_Mix.f k (sbytes h ss[i])).bind fun t125 => proof_Follow.l0 k t125 ss (ss.length : Int) ((i + 1 : Nat) : Int)) (fun k => ?_) (Ev.bind (ev_Mix (sbytes h ss[i]) (by rw [sbytes_len]; omega)) (ev_Follow_l ss hn hs d (i + 1) _ (by omega) (mix_ok _)))
      simp only [proof_Follow.l0]
      rw [if_pos (by omega), if_pos (by omega), if_pos (by omega), rdT_at ss i hi, hm, w64 i (by omega)]; rfl
theorem ev_Follow (e : List Int) (ss : List S54) (he : e.length < 1000000) (hn : ss.length < 1000000) (hs : ∀ s ∈ ss, okH s.f0) : Ev (fun k => proof_Follow.f k e ss) (followS e ss) := by
  unfold proof_Follow.f
  refine Ev.bind (ev_Leaf e (by omega)) ?_
  have := ev_Follow_l ss hn hs ss.length 0 (leafS e) (by omega) (mix_ok _)
  rw [List.drop_zero] at this; exact this
/-- The byte strings on the way. -/
def lv (b : List Int) : List S54 → List (List Int)
  | [] => [b]
  | s :: ss => b :: lv (sbytes (mixS b) s) ss
theorem lv_len : ∀ (ss : List S54) (b : List Int), (lv b ss).length = ss.length + 1
  | [], b => rfl
  | s :: ss, b => by simp [lv, lv_len ss]
theorem lv_last : ∀ (ss : List S54) (b : List Int), ∃ z, (lv b ss)[ss.length]? = some z ∧ mixS z = ss.foldl fstep (mixS b) ∧ (z = b ∨ z.length = 17)
  | [], b => ⟨b, rfl, rfl, Or.inl rfl⟩
  | s :: ss, b => by
    obtain ⟨z, h1, h2, h3⟩ := lv_last ss (sbytes (mixS b) s)
    refine ⟨z, by simpa [lv] using h1, h2, Or.inr ?_⟩
    rcases h3 with rfl | h3
    · exact sbytes_len _ _
    · exact h3
/-- The sides of the steps of entry i of n. -/
def leftsS (i n : Nat) : List Bool :=
  if h : n < 2 then [] else if i < half n then leftsS i (half n) ++ [false] else leftsS (i - half n) (n - half n) ++ [true]
termination_by n
decreasing_by
  · have := half_lt n (by omega); omega
  · have := half_lt n (by omega); omega
theorem lefts_len : ∀ (m i n : Nat), n ≤ m → (leftsS i n).length ≤ n
  | 0, i, n, h => by rw [leftsS]; simp [show n < 2 by omega]
  | m + 1, i, n, h => by
    rw [leftsS]
    by_cases c : n < 2
    · simp [c]
    · rw [dif_neg c]
      have := half_lt n (by omega)
      split
      · have := lefts_len m i (half n) (by omega); simp; omega
      · have := lefts_len m (i - half n) (n - half n) (by omega); simp; omega
theorem ev_lefts : ∀ (m i n : Nat), n ≤ m → n < 1000000 → i < n → Ev (fun k => proof_lefts.f k (i : Int) (n : Int)) (leftsS i n)
  | 0, i, n, h, _, hi => by omega
  | m + 1, i, n, h, hb, hi => by
    rw [leftsS]
    by_cases c : n < 2
    · rw [dif_pos c]
      exact Ev.here fun k => by simp only [proof_lefts.f]; rw [if_pos (by omega)]
    · rw [dif_neg c]
      have hl := half_lt n (by omega)
      refine Ev.step (fun k => by simp only [proof_lefts.f]; rw [if_neg (by omega)]) (Ev.bind (ev_part n (by omega) (by omega)) ?_)
      by_cases c2 : i < half n
      · simp only [if_pos c2, if_pos (show (i : Int) < ((half n : Nat) : Int) by omega)]
        have hle := lefts_len m i (half n) (by omega)
        refine Ev.bind (ev_lefts m i (half n) (by omega) (by omega) c2) ?_
        simp only [if_pos (show (leftsS i (half n)).length < 140737488355328 by omega)]
        exact Ev.now _
      · simp only [if_neg c2, if_neg (show ¬ (i : Int) < ((half n : Nat) : Int) by omega)]
        rw [show wrap64 ((i : Int) - ((half n : Nat) : Int)) = ((i - half n : Nat) : Int) by unfold wrap64; omega, show wrap64 ((n : Int) - ((half n : Nat) : Int)) = ((n - half n : Nat) : Int) by unfold wrap64; omega]
        have hle := lefts_len m (i - half n) (n - half n) (by omega)
        refine Ev.bind (ev_lefts m (i - half n) (n - half n) (by omega) (by omega) (by omega)) ?_
        simp only [if_pos (show (leftsS (i - half n) (n - half n)).length < 140737488355328 by omega)]
        exact Ev.now _
/-- Do steps stand on the right sides? -/
def fitsS (i n : Nat) (ss : List S54) : Bool := leftsS i n == ss.map S54.f1
theorem ev_fits_l (ss : List S54) (b : List Bool) (hl : b.length = ss.length) (hn : b.length < 1000000) : ∀ (d i : Nat), i + d = b.length → Ev (fun k => proof_fits.l0 k ss b (b.length : Int) (i : Int)) (b.drop i == (ss.drop i).map S54.f1)
  | 0, i, h => Ev.here fun k => by
      simp only [proof_fits.l0]
      rw [if_neg (by omega), List.drop_of_length_le (by omega), List.drop_of_length_le (by omega)]; rfl
  | d + 1, i, h => by
      have hi : i < b.length := by omega
      have hi' : i < ss.length := by omega
      have hr : rdOf false b (i : Int) = b[i] := by simp [rdOf, hi]
      rw [List.drop_eq_getElem_cons hi, List.drop_eq_getElem_cons hi', List.map_cons]
      have hst : ∀ k, proof_fits.l0 (k + 1) ss b (b.length : Int) (i : Int) = if (ss[i].f1 != b[i]) = true then some false else proof_fits.l0 k ss b (b.length : Int) ((i + 1 : Nat) : Int) := fun k => by
        simp only [proof_fits.l0, hr]
        rw [if_pos (by omega), if_pos (by omega), if_pos (by omega), if_pos (by omega), rdT_at ss i hi', w64 i (by omega)]
      by_cases c : b[i] = ss[i].f1
      · have e : (b[i] :: b.drop (i + 1) == ss[i].f1 :: (ss.drop (i + 1)).map S54.f1) = (b.drop (i + 1) == (ss.drop (i + 1)).map S54.f1) := by rw [c]; simp [List.cons_beq_cons]
        rw [e]
        exact Ev.step (fun k => by rw [hst k, c]; simp) (ev_fits_l ss b hl hn d (i + 1) (by omega))
      · have e : (b[i] :: b.drop (i + 1) == ss[i].f1 :: (ss.drop (i + 1)).map S54.f1) = false := by rw [beq_eq_false_iff_ne]; intro h; injection h with h _; exact c h
        rw [e]
        exact Ev.here fun k => by rw [hst k, if_pos (by simp; exact fun h => c h.symm)]
theorem ev_fits (i n : Nat) (ss : List S54) (hi : i < n) (hn : n < 1000000) : Ev (fun k => proof_fits.f k (i : Int) (n : Int) ss) (fitsS i n ss) := by
  unfold proof_fits.f fitsS
  refine Ev.bind (ev_lefts n i n (Nat.le_refl _) hn hi) ?_
  have hle := lefts_len n i n (Nat.le_refl _)
  by_cases c : (leftsS i n).length = ss.length
  · simp only [if_pos (show ((leftsS i n).length : Int) = (ss.length : Int) by omega)]
    have := ev_fits_l ss (leftsS i n) c (by omega) (leftsS i n).length 0 (by omega)
    rw [List.drop_zero, List.drop_zero] at this; exact this
  · simp only [if_neg (show ¬ ((leftsS i n).length : Int) = (ss.length : Int) by omega)]
    have : (leftsS i n == ss.map S54.f1) = false := by rw [beq_eq_false_iff_ne]; intro h; apply c; rw [h, List.length_map]
    rw [this]; exact Ev.now _
/-- What Included answers. -/
def inclS (e : List Int) (i n root : Int) (ss : List S54) : Bool × Int :=
  if 1 ≤ n ∧ n ≤ 4096 ∧ 0 ≤ i ∧ i < n then (if e.length > 256 then (false, 3) else (fitsS i.toNat n.toNat ss && (followS e ss == root), 0)) else (false, 2)
theorem sized_some (i n : Int) : proof_sized.f i n = some (decide (1 ≤ n ∧ n ≤ 4096 ∧ 0 ≤ i ∧ i < n)) := by
  unfold proof_sized.f
  by_cases c1 : n ≥ 1 <;> by_cases c2 : n ≤ 4096 <;> by_cases c3 : i ≥ 0 <;> by_cases c4 : i < n <;> simp [c1, c2, c3, c4] <;> omega
theorem ev_Included (e : List Int) (i n root : Int) (ss : List S54) (he : e.length < 1000000) (hn : ss.length < 1000000) (hs : ∀ s ∈ ss, okH s.f0) : Ev (fun k => proof_Included.f k e i n root ss) (inclS e i n root ss) := by
  unfold proof_Included.f inclS
  simp only [sized_some, Option.bind_some]
  by_cases c : 1 ≤ n ∧ n ≤ 4096 ∧ 0 ≤ i ∧ i < n
  · simp only [if_pos c, decide_eq_true c, if_true]
    by_cases d : e.length > 256
    · simp only [if_pos d, if_pos (show (e.length : Int) > 256 by omega)]; exact Ev.now _
    · simp only [if_neg d, if_neg (show ¬ (e.length : Int) > 256 by omega)]
      have hf := ev_fits i.toNat n.toNat ss (by omega) (by omega)
      rw [show ((i.toNat : Nat) : Int) = i by omega, show ((n.toNat : Nat) : Int) = n by omega] at hf
      refine Ev.bind hf ?_
      cases hb : fitsS i.toNat n.toNat ss with
      | false => simpa using Ev.now (false, (0 : Int))
      | true =>
        simp only [if_true, Bool.true_and]
        exact Ev.bind (ev_Follow e ss he hn hs) (Ev.now _)
  · simp only [if_neg c, decide_eq_false c]
    simpa using Ev.now (false, (2 : Int))
end Go.Proofs.Ytacjdoekgmmfoaa.PL
