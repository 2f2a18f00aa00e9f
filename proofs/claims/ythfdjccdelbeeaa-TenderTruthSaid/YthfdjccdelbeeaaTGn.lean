/-
  A buyer's gain, for the program and for the specification.
-/
import Derived.Test.YthfdjccdelbeeaaTHm
import Derived.Test.YthfdjccdelbeeaaPTx15
namespace Go.Proofs.Ythfdjccdelbeeaa.PT
open Go.RowKit Go.Proofs.YthfdjccdelbeeaaW.PrintWords Go.Proofs.YthfdjccdelbeeaaW.PrintLast Go.Proofs.YthfdjccdelbeeaaW.PrintMore Go.Proofs.Ythfdjccdelbeeaa.TPl
set_option linter.unusedVariables false
theorem ev_refDecide_l (l : List S50) (hv : bValid l) (v : Int) (hv0 : 0 ≤ v) (hv1 : v ≤ 17179869184) (T : List Int) (hT : ∀ x ∈ T, ∃ j : Nat, x = (j : Int) ∧ j < l.length) (hTl : T.length ≤ 16) (t0 : List Int) (w0 : Int) : ∀ (d i : Nat) (pays : List Int), i + d = T.length → pays.length = i →
    Ev (fun k => kimberliteref05_Decide.l0 k l T v (i : Int) t0 pays w0) (t0, pays ++ (T.drop i).map (payS l v), w0)
  | 0, i, pays, h, hp => Ev.here fun k => by
      simp only [kimberliteref05_Decide.l0]
      rw [if_neg (by omega), List.drop_of_length_le (by omega)]; simp
  | d + 1, i, pays, h, hp => by
      have hi : i < T.length := by omega
      obtain ⟨j, ej, hj⟩ := hT T[i] (List.getElem_mem hi)
      have erd : rd T (i : Int) = (j : Int) := by simp [rd, hi, ej]
      have ho := hv.2 l[j] (List.getElem_mem hj)
      obtain ⟨s, hs, e, hE⟩ := best_both l hv l[j].f0
      have hb := worthWo_bd l hv l[j].f0
      have hw : worthWo l l[j].f0 = ((val (l.map toOf) s : Nat) : Int) := by simp only [worthWo, e, Option.getD_some]
      have ih := ev_refDecide_l l hv v hv0 hv1 T hT hTl t0 w0 d (i + 1) (pays ++ [payS l v T[i]]) (by omega) (by simp [hp])
      rw [List.drop_eq_getElem_cons hi, List.map_cons]
      rw [List.append_assoc] at ih
      refine Ev.step (f := fun k => (kimberliteref05_Best.f k l l[j].f0).bind fun bt318 => kimberliteref05_Decide.l0 k l T v ((i + 1 : Nat) : Int) t0 (pays ++ [wrap64 (bt318.2 - (wrap64 (v - l[j].f2)))]) w0) (fun k => ?_) (Ev.bind hE ?_)
      · simp only [kimberliteref05_Decide.l0, erd]
        rw [if_pos (by omega), if_pos (by omega), if_pos (by omega), if_pos (by omega), rd_get l j hj, w64 i (by omega)]
        simp only [if_pos (show pays.length < 17592186044416 by omega)]
      · have : wrap64 (((val (l.map toOf) s : Nat) : Int) - wrap64 (v - l[j].f2)) = payS l v T[i] := by
          simp only [payS, ej, rd_get l j hj, hw]
          rw [hw] at hb
          unfold wrap64; omega
        rw [this]; exact ih
theorem ev_refDecide (l : List S50) (hv : bValid l) (s : List Bool) (hs : IsBest (-1) (l.map toOf) 0 0 s) :
    Ev (fun k => kimberliteref05_Decide.f k l) (idx 0 s, (idx 0 s).map (payS l ((val (l.map toOf) s : Nat) : Int)), ((val (l.map toOf) s : Nat) : Int)) := by
  obtain ⟨s', hs', e, hE⟩ := best_both l hv (-1)
  obtain rfl := hs'.uniq hs
  unfold kimberliteref05_Decide.f
  refine Ev.bind hE ?_
  have hsl := feas_len _ _ _ _ _ hs.1
  simp only [List.length_map] at hsl
  have hl16 := hv.1
  have := val_le (l.map toOf) s'
  have := tot_bd l hv
  have hil := idx_len s' 0
  have := ev_refDecide_l l hv ((val (l.map toOf) s' : Nat) : Int) (by omega) (by omega) (idx 0 s') (fun x hx => by obtain ⟨j, e, _, h2, _⟩ := idx_mem s' 0 x hx; exact ⟨j, e, by omega⟩) (by omega) (idx 0 s') ((val (l.map toOf) s' : Nat) : Int) (idx 0 s').length 0 [] (by omega) rfl
  simpa using this
theorem scan {β : Type} (w : List Int) (L : Nat → Int → Option β) (C : Nat → Option β) (bad R : β)
    (h : ∀ k i (hi : i < w.length), L (k + 1) (i : Int) = if w[i] < 0 then some bad else if w[i] > 1073741824 then some bad else L k ((i + 1 : Nat) : Int))
    (h0 : ∀ k, L (k + 1) (w.length : Int) = C k) (hk : (∀ x ∈ w, 0 ≤ x ∧ x ≤ 1073741824) → Ev C R) (hn : ¬ (∀ x ∈ w, 0 ≤ x ∧ x ≤ 1073741824) → R = bad) :
    ∀ (d i : Nat), i + d = w.length → (∀ j (hj : j < w.length), j < i → 0 ≤ w[j] ∧ w[j] ≤ 1073741824) → Ev (fun k => L k (i : Int)) R
  | 0, i, hi, hb => by
    obtain rfl : i = w.length := by omega
    exact Ev.step h0 (hk fun x hx => by obtain ⟨j, hj, rfl⟩ := List.mem_iff_getElem.1 hx; exact hb j hj hj)
  | d + 1, i, hi, hb => by
    have hlt : i < w.length := by omega
    by_cases c1 : w[i] < 0
    · rw [hn fun H => by have := H _ (List.getElem_mem hlt); omega]
      exact Ev.here fun k => by rw [h k i hlt, if_pos c1]
    · by_cases c2 : w[i] > 1073741824
      · rw [hn fun H => by have := H _ (List.getElem_mem hlt); omega]
        exact Ev.here fun k => by rw [h k i hlt, if_neg c1, if_pos c2]
      · refine Ev.step (fun k => by rw [h k i hlt, if_neg c1, if_neg c2]) (scan w L C bad R h h0 hk hn d (i + 1) (by omega) fun j hj hji => ?_)
        rcases Nat.lt_or_ge j i with g | g
        · exact hb j hj g
        · have : j = i := by omega
          subst this; omega
/-- What the award leaves a buyer. -/
def gainL (l : List S50) (b : Int) (w : List Int) (v : Int) : List Int → Int × Int
  | [] => (0, 0)
  | x :: T => if (rd_T50 l x).f0 = b then (wrap64 (rd w (rd_T50 l x).f1 - payS l v x), 0) else gainL l b w v T
theorem find (l : List S50) (b : Int) (w : List Int) (v : Int) (T : List Int) (L : Nat → Int → Option (Int × Int))
    (h : ∀ k i (hi : i < T.length), L (k + 1) (i : Int) = if (rd_T50 l T[i]).f0 = b then some (wrap64 (rd w (rd_T50 l T[i]).f1 - payS l v T[i]), 0) else L k ((i + 1 : Nat) : Int))
    (h0 : ∀ k, L (k + 1) (T.length : Int) = some (0, 0)) : ∀ (d i : Nat), i + d = T.length → Ev (fun k => L k (i : Int)) (gainL l b w v (T.drop i))
  | 0, i, hi => by
    obtain rfl : i = T.length := by omega
    rw [List.drop_length]; exact Ev.here h0
  | d + 1, i, hi => by
    have hlt : i < T.length := by omega
    rw [List.drop_eq_getElem_cons hlt]
    simp only [gainL]
    by_cases c : (rd_T50 l T[i]).f0 = b
    · rw [if_pos c]; exact Ev.here fun k => by rw [h k i hlt, if_pos c]
    · rw [if_neg c]; exact Ev.step (fun k => by rw [h k i hlt, if_neg c]) (find l b w v T L h h0 d (i + 1) (by omega))
/-- The answer of Gain. -/
structure GainIs (lots : Int) (l : List S50) (b : Int) (w : List Int) (r : Int × Int) : Prop where
  err : errS lots l ≠ 0 → r = (0, errS lots l)
  arg : errS lots l = 0 → (b < 0 ∨ 7 < b ∨ (w.length : Int) ≠ ((2 ^ lots.toNat : Nat) : Int)) → r = (0, 2)
  val : errS lots l = 0 → 0 ≤ b → b ≤ 7 → (w.length : Int) = ((2 ^ lots.toNat : Nat) : Int) → ¬ (∀ x ∈ w, 0 ≤ x ∧ x ≤ 1073741824) → r = (0, 2)
  ok : errS lots l = 0 → 0 ≤ b → b ≤ 7 → (w.length : Int) = ((2 ^ lots.toNat : Nat) : Int) → (∀ x ∈ w, 0 ≤ x ∧ x ≤ 1073741824) → ∀ s, IsBest (-1) (l.map toOf) 0 0 s → r = gainL l b w ((TPl.val (l.map toOf) s : Nat) : Int) (idx 0 s)
theorem gain_is (lots : Int) (l : List S50) (b : Int) (w : List Int) : ∃ r, GainIs lots l b w r := by
  by_cases he : errS lots l = 0
  · by_cases ha : b < 0 ∨ 7 < b ∨ (w.length : Int) ≠ ((2 ^ lots.toNat : Nat) : Int)
    · exact ⟨(0, 2), fun h => absurd he h, fun _ _ => rfl, fun _ h1 h2 h3 => by omega, fun _ h1 h2 h3 => by omega⟩
    · by_cases hw : ∀ x ∈ w, 0 ≤ x ∧ x ≤ 1073741824
      · obtain ⟨s, hs, _⟩ := ev_BestOk lots l (errS_zero.1 he)
        exact ⟨gainL l b w ((val (l.map toOf) s : Nat) : Int) (idx 0 s), fun h => absurd he h, fun _ h => absurd h ha, fun _ _ _ _ h => absurd hw h, fun _ _ _ _ _ s' hs' => by rw [hs'.uniq hs]⟩
      · exact ⟨(0, 2), fun h => absurd he h, fun _ _ => rfl, fun _ _ _ _ _ => rfl, fun _ _ _ _ h => absurd h hw⟩
  · exact ⟨(0, errS lots l), fun _ => rfl, fun h => absurd h he, fun h => absurd h he, fun h => absurd h he⟩
theorem taken_at (l : List S50) (s : List Bool) (hsl : s.length = l.length) (i : Nat) (hi : i < (idx 0 s).length) : ∃ j : Nat, ∃ hj : j < l.length, (idx 0 s)[i] = (j : Int) ∧ rd_T50 l (idx 0 s)[i] = l[j] := by
  obtain ⟨j, e, _, h2, _⟩ := idx_mem s 0 _ (List.getElem_mem hi)
  have hj : j < l.length := by omega
  exact ⟨j, hj, e, by rw [e, rd_get l j hj]⟩
theorem ev_Gain (lots : Int) (l : List S50) (b : Int) (w : List Int) (r : Int × Int) (h : GainIs lots l b w r) : Ev (fun k => tender_Gain.f k lots l b w) r := by
  unfold tender_Gain.f
  by_cases he : errS lots l = 0
  · have hv := errS_zero.1 he
    obtain ⟨s, hs, _, hD⟩ := ev_DecideOk lots l hv
    have hsl := feas_len _ _ _ _ _ hs.1
    simp only [List.length_map] at hsl
    have hl16 := hv.len
    have hil := idx_len s 0
    refine Ev.bind hD ?_
    simp only [if_true]
    have hlo := hv.lo
    have hhi := hv.hi
    have hj : ∀ T P V, Ev (fun k => tender_Gain.j0 k l b w true T P V) (0, 2) := fun T P V => Ev.here fun k => by simp only [tender_Gain.j0, if_true]
    by_cases c1 : b < 0
    · simp only [if_pos c1]
      rw [h.arg he (Or.inl c1)]; exact hj _ _ _
    · simp only [if_neg c1]
      by_cases c2 : b > 7
      · simp only [if_pos c2]
        rw [h.arg he (Or.inr (Or.inl (by omega)))]; exact hj _ _ _
      · simp only [if_neg c2, if_pos (show 0 ≤ lots by omega), shl_lots lots (by omega) hhi]
        have hp : 2 ^ lots.toNat ≤ 2 ^ 12 := Nat.pow_le_pow_right (by decide) (by omega)
        by_cases c3 : (w.length : Int) = ((2 ^ lots.toNat : Nat) : Int)
        · have e3 : ((w.length : Int) != ((2 ^ lots.toNat : Nat) : Int)) = false := by simpa using c3
          rw [e3]
          refine Ev.step (f := fun k => tender_Gain.l0 k l b w w (w.length : Int) ((0 : Nat) : Int) (idx 0 s) ((idx 0 s).map (payS l ((val (l.map toOf) s : Nat) : Int))) ((val (l.map toOf) s : Nat) : Int)) (fun k => by simp [tender_Gain.j0]) ?_
          refine scan w (fun k i => tender_Gain.l0 k l b w w (w.length : Int) i (idx 0 s) ((idx 0 s).map (payS l ((val (l.map toOf) s : Nat) : Int))) ((val (l.map toOf) s : Nat) : Int)) (fun k => tender_Gain.l1 k l b w (idx 0 s) ((idx 0 s).length : Int) ((0 : Nat) : Int) (idx 0 s) ((idx 0 s).map (payS l ((val (l.map toOf) s : Nat) : Int))) ((val (l.map toOf) s : Nat) : Int)) (0, 2) r (fun k i hi => ?_) (fun k => ?_) (fun hw => ?_) (fun hw => h.val he (by omega) (by omega) c3 hw) w.length 0 (by omega) (fun j _ hj => by omega)
          · have e : rd w (i : Int) = w[i] := by simp [rd, hi]
            simp only [tender_Gain.l0, e]
            rw [if_pos (by omega), if_pos (by omega), if_pos (by omega), w64 i (by omega)]
          · simp only [tender_Gain.l0]
            rw [if_neg (by omega)]; rfl
          · rw [h.ok he (by omega) (by omega) c3 hw s hs]
            refine find l b w _ (idx 0 s) (fun k i => tender_Gain.l1 k l b w (idx 0 s) ((idx 0 s).length : Int) i (idx 0 s) ((idx 0 s).map (payS l ((val (l.map toOf) s : Nat) : Int))) ((val (l.map toOf) s : Nat) : Int)) (fun k i hi => ?_) (fun k => ?_) (idx 0 s).length 0 (by omega)
            · obtain ⟨j, hj, ej, er⟩ := taken_at l s hsl i hi
              have e1 : rd (idx 0 s) (i : Int) = (j : Int) := by simp [rd, hi, ej]
              have e2 : rd ((idx 0 s).map (payS l ((val (l.map toOf) s : Nat) : Int))) (i : Int) = payS l ((val (l.map toOf) s : Nat) : Int) (j : Int) := by simp [rd, hi, ej]
              have ho := hv.all l[j] (List.getElem_mem hj)
              simp only [tender_Gain.l1, e1, e2, rd_get l j hj, List.length_map, ej]
              rw [if_pos (by omega), if_pos (by omega), if_pos (by omega), if_pos (by omega), if_pos (by omega), w64 i (by omega)]
              by_cases c : l[j].f0 = b
              · rw [if_pos c, if_pos c, if_pos (by omega), if_pos (by omega), if_pos (by omega)]
              · rw [if_neg c, if_neg c]
            · simp only [tender_Gain.l1]
              rw [if_neg (by omega)]
        · have e3 : ((w.length : Int) != ((2 ^ lots.toNat : Nat) : Int)) = true := by simpa using c3
          rw [e3, h.arg he (Or.inr (Or.inr c3))]; exact hj _ _ _
  · rw [h.err he]
    refine Ev.bind (ev_DecideErr lots l he) ?_
    simp only [if_neg he]
    exact Ev.now _
theorem ev_refGain (lots : Int) (l : List S50) (b : Int) (w : List Int) (r : Int × Int) (h : GainIs lots l b w r) : Ev (fun k => kimberliteref05_Gain.f k lots l b w) r := by
  unfold kimberliteref05_Gain.f
  refine Ev.bind (ev_Offers lots l) ?_
  by_cases he : errS lots l = 0
  · have hv := errS_zero.1 he
    obtain ⟨s, hs, _, _⟩ := ev_DecideOk lots l hv
    have hsl := feas_len _ _ _ _ _ hs.1
    simp only [List.length_map] at hsl
    have hl16 := hv.len
    have hil := idx_len s 0
    simp only [he, if_true]
    have hlo := hv.lo
    have hhi := hv.hi
    have hj : Ev (fun k => kimberliteref05_Gain.j0 k l b w true) (0, 2) := Ev.here fun k => by simp only [kimberliteref05_Gain.j0, if_true]
    by_cases c1 : b < 0
    · simp only [if_pos c1]
      rw [h.arg he (Or.inl c1)]; exact hj
    · simp only [if_neg c1]
      by_cases c2 : b > 7
      · simp only [if_pos c2]
        rw [h.arg he (Or.inr (Or.inl (by omega)))]; exact hj
      · simp only [if_neg c2, if_pos (show 0 ≤ lots by omega), shl_lots lots (by omega) hhi]
        have hp : 2 ^ lots.toNat ≤ 2 ^ 12 := Nat.pow_le_pow_right (by decide) (by omega)
        by_cases c3 : (w.length : Int) = ((2 ^ lots.toNat : Nat) : Int)
        · have e3 : ((w.length : Int) != ((2 ^ lots.toNat : Nat) : Int)) = false := by simpa using c3
          rw [e3]
          refine Ev.step (f := fun k => kimberliteref05_Gain.l0 k l b w ((0 : Nat) : Int)) (fun k => by simp [kimberliteref05_Gain.j0]) ?_
          refine scan w (fun k i => kimberliteref05_Gain.l0 k l b w i) (fun k => (kimberliteref05_Decide.f k l).bind fun bt343 => (kimberliteref05_Gain.l1 k l b w ((0 : Nat) : Int) bt343.1 bt343.2.1 bt343.2.2)) (0, 2) r (fun k i hi => ?_) (fun k => ?_) (fun hw => ?_) (fun hw => h.val he (by omega) (by omega) c3 hw) w.length 0 (by omega) (fun j _ hj => by omega)
          · have e : rd w (i : Int) = w[i] := by simp [rd, hi]
            simp only [kimberliteref05_Gain.l0, e]
            rw [if_pos (by omega), if_pos (by omega), w64 i (by omega)]
          · simp only [kimberliteref05_Gain.l0]
            rw [if_neg (by omega)]; rfl
          · rw [h.ok he (by omega) (by omega) c3 hw s hs]
            refine Ev.bind (ev_refDecide l hv.bv s hs) ?_
            refine find l b w _ (idx 0 s) (fun k i => kimberliteref05_Gain.l1 k l b w i (idx 0 s) ((idx 0 s).map (payS l ((val (l.map toOf) s : Nat) : Int))) ((val (l.map toOf) s : Nat) : Int)) (fun k i hi => ?_) (fun k => ?_) (idx 0 s).length 0 (by omega)
            · obtain ⟨j, hj, ej, er⟩ := taken_at l s hsl i hi
              have e1 : rd (idx 0 s) (i : Int) = (j : Int) := by simp [rd, hi, ej]
              have e2 : rd ((idx 0 s).map (payS l ((val (l.map toOf) s : Nat) : Int))) (i : Int) = payS l ((val (l.map toOf) s : Nat) : Int) (j : Int) := by simp [rd, hi, ej]
              have ho := hv.all l[j] (List.getElem_mem hj)
              simp only [kimberliteref05_Gain.l1, e1, e2, rd_get l j hj, List.length_map, ej]
              rw [if_pos (by omega), if_pos (by omega), if_pos (by omega), if_pos (by omega), w64 i (by omega)]
              by_cases c : l[j].f0 = b
              · rw [if_pos c, if_pos c, if_pos (by omega), if_pos (by omega), if_pos (by omega)]
              · rw [if_neg c, if_neg c]
            · simp only [kimberliteref05_Gain.l1]
              rw [if_neg (by omega)]
        · have e3 : ((w.length : Int) != ((2 ^ lots.toNat : Nat) : Int)) = true := by simpa using c3
          rw [e3, h.arg he (Or.inr (Or.inr c3))]; exact hj
  · rw [h.err he]
    simp only [if_neg he]
    exact Ev.now _
end Go.Proofs.Ythfdjccdelbeeaa.PT
