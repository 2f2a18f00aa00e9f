/- Proved: the pure statement of TenderWorth. -/
import Derived.Test.YthfdjccdelbeeaaPTxPureTenderWorth
import Derived.Test.YthfdjccdelbeeaaTDc
import Derived.Test.YthfdjccdelbeeaaTVc
namespace Go.Proofs.Ythfdjccdelbeeaa.PT
open Go.RowKit Go.Proofs.YthfdjccdelbeeaaW.PrintWords Go.Proofs.Ythfdjccdelbeeaa.Opn Go.Proofs.Ythfdjccdelbeeaa.TPl
theorem worth_alive : Ev (fun k => (kimberlitelaw05_alive.f k).bind fun t => some t) true := Ev.bind ev_alive (Ev.now true)
theorem idx_nones : ∀ (n : Nat) (i : Int), idx i (List.replicate n false) = []
  | 0, _ => rfl
  | n + 1, i => by rw [List.replicate_succ]; exact idx_nones n (i + 1)
/-- A chooser's list as a choice. -/
def selS (l : List S50) (b : List Bool) : List Bool := b.take l.length ++ List.replicate (l.length - b.length) false
theorem selS_len (l : List S50) (b : List Bool) : (selS l b).length = l.length := by simp [selS]; omega
theorem selS_idx (l : List S50) (b : List Bool) : idx 0 (selS l b) = idx 0 (b.take l.length) := by rw [selS, idx_app, idx_nones, List.append_nil]
theorem ev_worth_l0 (l : List S50) (hl : l.length ≤ 16) (b : List Bool) (T : List Int) (v : Int) (r : Bool)
    (hk : Ev (fun k => (kimberliteref05_Choice.f k l (idx 0 (selS l b))).bind fun bt => (if bt.2 = true then (kimberlitelaw05_TenderWorth.j3 k T v (idx 0 (selS l b)) bt.1 (decide (bt.1 < v))) else (kimberlitelaw05_TenderWorth.j3 k T v (idx 0 (selS l b)) bt.1 true))) r) :
    ∀ (d i : Nat), i + d = min l.length b.length → Ev (fun k => kimberlitelaw05_TenderWorth.l0 k l b T v (idx 0 (b.take i)) (i : Int)) r
  | 0, i, h => by
      have e : idx 0 (b.take i) = idx 0 (selS l b) := by
        rw [selS_idx]
        by_cases c : l.length ≤ b.length
        · rw [show i = l.length by omega]
        · rw [List.take_of_length_le (by omega), List.take_of_length_le (by omega)]
      refine Ev.step2 (fun k => ?_) hk
      simp only [kimberlitelaw05_TenderWorth.l0]
      by_cases c : i < l.length
      · rw [if_pos (by omega), decide_eq_false (by omega)]
        simp only [kimberlitelaw05_TenderWorth.j2, e]; rfl
      · rw [if_neg (by omega)]
        simp only [kimberlitelaw05_TenderWorth.j2, e]; rfl
  | d + 1, i, h => by
      have hi : i < l.length := by omega
      have hb : i < b.length := by omega
      have ih := ev_worth_l0 l hl b T v r hk d (i + 1) (by omega)
      have el : idx 0 (b.take (i + 1)) = if b[i] = true then idx 0 (b.take i) ++ [(i : Int)] else idx 0 (b.take i) := by
        rw [List.take_succ_eq_append_getElem hb, idx_app, List.length_take, Nat.min_eq_left (by omega)]
        cases b[i] <;> simp [idx]
      have hll := idx_len (b.take i) 0
      rw [List.length_take] at hll
      refine Ev.step2 (fun k => ?_) ih
      simp only [kimberlitelaw05_TenderWorth.l0]
      rw [if_pos (by omega), decide_eq_true (by omega)]
      simp only [kimberlitelaw05_TenderWorth.j2]
      rw [if_pos trivial, if_pos (by omega), if_pos (by omega), w64 i (by omega), el, if_pos (show (idx 0 (b.take i)).length < 17592186044416 by omega)]
      have : rdOf false b (i : Int) = b[i] := by simp [rdOf, hb]
      rw [this]
      cases b[i] <;> simp
theorem ev_worth_l1 (T O : List Int) (hT : T.length ≤ 16) (v : Int) : ∀ (d i : Nat), i + d = T.length → cmp (T.drop i) (O.drop i) = true → Ev (fun k => kimberlitelaw05_TenderWorth.l1 k T v O v (i : Int)) true
  | 0, i, h, hc => by
      have ho : O.length ≤ i := by
        rcases Nat.lt_or_ge i O.length with g | g
        · rw [List.drop_of_length_le (by omega : T.length ≤ i), List.drop_eq_getElem_cons g] at hc; simp [cmp] at hc
        · exact g
      refine Ev.step2 (fun k => ?_) worth_alive
      simp only [kimberlitelaw05_TenderWorth.l1]
      rw [if_neg (by omega)]
      simp only [kimberlitelaw05_TenderWorth.j5]
      rw [if_neg (by decide), if_pos trivial, if_pos (by omega)]
  | d + 1, i, h, hc => by
      have hi : i < T.length := by omega
      by_cases g : i < O.length
      · rw [List.drop_eq_getElem_cons hi, List.drop_eq_getElem_cons g] at hc
        simp only [cmp] at hc
        have e1 : rd T (i : Int) = T[i] := by simp [rd, hi]
        have e2 : rd O (i : Int) = O[i] := by simp [rd, g]
        have hst : ∀ k, kimberlitelaw05_TenderWorth.l1 (k + 2) T v O v (i : Int) = if T[i] = O[i] then kimberlitelaw05_TenderWorth.l1 k T v O v ((i + 1 : Nat) : Int) else if T[i] < O[i] then (kimberlitelaw05_alive.f k).bind fun t => some t else some false := fun k => by
          simp only [kimberlitelaw05_TenderWorth.l1]
          rw [if_pos (by omega), decide_eq_true (by omega)]
          simp only [kimberlitelaw05_TenderWorth.j5]
          rw [if_pos trivial, if_pos (by omega), if_pos (by omega), if_pos (by omega), e1, e2, w64 i (by omega), if_pos trivial]
        by_cases c : T[i] = O[i]
        · rw [if_pos c] at hc
          exact Ev.step2 (fun k => by rw [hst k, if_pos c]) (ev_worth_l1 T O hT v d (i + 1) (by omega) hc)
        · rw [if_neg c] at hc
          have c' := of_decide_eq_true hc
          exact Ev.step2 (fun k => by rw [hst k, if_neg c, if_pos c']) worth_alive
      · refine Ev.step2 (fun k => ?_) worth_alive
        simp only [kimberlitelaw05_TenderWorth.l1]
        rw [if_pos (by omega), decide_eq_false (by omega)]
        simp only [kimberlitelaw05_TenderWorth.j5]
        rw [if_neg (by decide), if_pos trivial, if_pos (by omega)]
theorem tenderWorth_pure : kimberlitelaw05_TenderWorth.Pure2 := by
  intro lots l b _ _ _
  apply Ev.rounds
  unfold kimberlitelaw05_TenderWorth.f
  by_cases hl : (l.length : Int) > 16
  · simp only [if_pos hl]; exact worth_alive
  · simp only [if_neg hl]
    have hl16 : l.length ≤ 16 := by omega
    by_cases he : errS lots l = 0
    · have hv := errS_zero.1 he
      obtain ⟨s, hs, e, hB⟩ := ev_BestOk lots l hv
      have hsl := feas_len _ _ _ _ _ hs.1
      simp only [List.length_map] at hsl
      refine Ev.bind hB ?_
      simp only [if_true]
      refine Ev.bind (ev_Choice l hv.bv s hsl) ?_
      simp only [if_pos hs.1, decide_eq_true hs.1, if_true, bne_self_eq_false]
      refine Ev.step (fun k => by simp only [kimberlitelaw05_TenderWorth.j0]; rw [if_neg (by decide)]) ?_
      have hil := idx_len s 0
      refine ev_worth_l0 l hl16 b _ _ true ?_ (min l.length b.length) 0 (by omega)
      refine Ev.bind (ev_Choice l hv.bv (selS l b) (selS_len l b)) ?_
      by_cases c : feas (-1) (l.map toOf) (selS l b) 0 0
      · simp only [if_pos c, decide_eq_true c, if_true]
        have h2 := hs.2 _ c
        by_cases g : val (l.map toOf) (selS l b) < val (l.map toOf) s
        · rw [decide_eq_true (by omega)]
          exact Ev.step (fun k => by simp only [kimberlitelaw05_TenderWorth.j3]; rw [if_pos trivial]) worth_alive
        · have hv2 : val (l.map toOf) (selS l b) = val (l.map toOf) s := by omega
          rw [hv2, decide_eq_false (by omega)]
          refine Ev.step (fun k => by simp only [kimberlitelaw05_TenderWorth.j3]; rw [if_neg (by decide)]) ?_
          refine ev_worth_l1 _ _ (by omega) _ (idx 0 s).length 0 (by omega) ?_
          exact cmp_num s (selS l b) 0 (by rw [hsl, selS_len]) (by omega)
      · simp only [if_neg c, decide_eq_false c]
        refine Ev.step (fun k => ?_) worth_alive
        rw [if_neg (by decide)]
        simp only [kimberlitelaw05_TenderWorth.j3]
        rw [if_pos trivial]
    · refine Ev.bind (ev_BestErr lots l he) ?_
      simpa [he] using worth_alive
end Go.Proofs.Ythfdjccdelbeeaa.PT
