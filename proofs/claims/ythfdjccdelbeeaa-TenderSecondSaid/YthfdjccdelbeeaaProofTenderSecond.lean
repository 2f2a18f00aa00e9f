/- Proved: the pure statement of TenderSecond. -/
import Derived.Test.YthfdjccdelbeeaaPTxPureTenderSecond
import Derived.Test.YthfdjccdelbeeaaTDc
import Derived.Test.YthfdjccdelbeeaaTHot
namespace Go.Proofs.Ythfdjccdelbeeaa.PT
open Go.RowKit Go.Proofs.YthfdjccdelbeeaaW.PrintWords Go.Proofs.YthfdjccdelbeeaaW.PrintMore Go.Proofs.Ythfdjccdelbeeaa.Opn Go.Proofs.Ythfdjccdelbeeaa.TPl
set_option linter.unusedVariables false
theorem second_alive : Ev (fun k => (kimberlitelaw05_alive.f k).bind fun t => some t) true := Ev.bind ev_alive (Ev.now true)
/-- Buyer and price at a place. -/
def bu (l : List S50) (m : Nat) : Int := (rd_T50 l (m : Int)).f0
def pr (l : List S50) (m : Nat) : Int := (rd_T50 l (m : Int)).f2
/-- The first of the highest prices. -/
def First (l : List S50) (n b : Nat) : Prop := b < n ∧ (∀ m, m < n → pr l m ≤ pr l b) ∧ ∀ m, m < b → pr l m < pr l b
theorem First.uniq {l : List S50} {n b c : Nat} (hb : First l n b) (hc : First l n c) : b = c := by
  rcases Nat.lt_trichotomy b c with h | h | h
  · have := hc.2.2 b h; have := hb.2.1 c hc.1; omega
  · exact h
  · have := hb.2.2 c h; have := hc.2.1 b hb.1; omega
/-- The highest price of the other buyers. -/
def Sec (l : List S50) (wo : Int) (n : Nat) (x : Int) : Prop := (x = 0 ∨ ∃ m, m < n ∧ bu l m ≠ wo ∧ x = pr l m) ∧ 0 ≤ x ∧ ∀ m, m < n → bu l m ≠ wo → pr l m ≤ x
theorem Sec.uniq {l : List S50} {wo : Int} {n : Nat} {x y : Int} (hx : Sec l wo n x) (hy : Sec l wo n y) : x = y := by
  have h1 : x ≤ y := by
    rcases hx.1 with rfl | ⟨m, hm, hb, rfl⟩
    · exact hy.2.1
    · exact hy.2.2 m hm hb
  have h2 : y ≤ x := by
    rcases hy.1 with rfl | ⟨m, hm, hb, rfl⟩
    · exact hx.2.1
    · exact hx.2.2 m hm hb
  omega
theorem of_at (l : List S50) (hv : bValid l) (m : Nat) (hm : m < l.length) : (l.map toOf)[m]? = some (toOf l[m]) ∧ ((toOf l[m]).b : Int) = bu l m ∧ ((toOf l[m]).p : Int) = pr l m := by
  have ho := hv.2 l[m] (List.getElem_mem hm)
  refine ⟨by simp [hm], ?_, ?_⟩
  · simp only [bu, rd_get l m hm]; show ((l[m].f0.toNat : Nat) : Int) = _; omega
  · simp only [pr, rd_get l m hm]; show ((l[m].f2.toNat : Nat) : Int) = _; omega
theorem one_lot (l : List S50) (hv : Vld 1 l) : ∀ o ∈ l.map toOf, o.l = 1 := by
  intro o ho
  obtain ⟨x, hx, rfl⟩ := List.mem_map.1 ho
  have := hv.all x hx
  have h2 : ((2 ^ (1 : Int).toNat : Nat) : Int) = 2 := by decide
  rw [h2] at this
  show x.f1.toNat = 1
  omega
theorem best_first (l : List S50) (hv : Vld 1 l) (hn : 0 < l.length) (s : List Bool) (hs : IsBest (-1) (l.map toOf) 0 0 s) : ∃ j, First l l.length j ∧ idx 0 s = [(j : Int)] ∧ ((val (l.map toOf) s : Nat) : Int) = pr l j := by
  have ho := one_lot l hv
  have hneg : ∀ m (hm : m < l.length), ((toOf l[m]).b : Int) ≠ -1 := fun m _ => by omega
  have hval : ∀ m (hm : m < l.length), feas (-1) (l.map toOf) (hot m l.length) 0 0 ∧ ((val (l.map toOf) (hot m l.length) : Nat) : Int) = pr l m := fun m hm => by
    obtain ⟨h1, h2, h3⟩ := of_at l hv.bv m hm
    have := hot_feas (-1) (l.map toOf) m _ h1 (hneg m hm)
    have h4 := hot_val (l.map toOf) m _ h1
    rw [List.length_map] at this h4
    exact ⟨this, by rw [h4]; exact h3⟩
  rcases feas_hot _ _ s ho hs.1 with e | ⟨j, o, hj, e, _⟩
  · exfalso
    have h0 := hval 0 hn
    have := hs.2 _ h0.1
    rw [e, val_none] at this
    have hb := hv.bv.2 l[0] (List.getElem_mem hn)
    have : pr l 0 = l[0].f2 := by simp only [pr, rd_get l 0 hn]
    omega
  · have hjl : j < l.length := by have := (List.getElem?_eq_some_iff.1 hj).1; simpa using this
    rw [List.length_map] at e
    have hvj := hval j hjl
    refine ⟨j, ⟨hjl, fun m hm => ?_, fun m hm => ?_⟩, by rw [e]; have := hot_idx j l.length 0; simpa using this, by rw [e]; exact hvj.2⟩
    · have hvm := hval m hm
      have := hs.2 _ hvm.1
      rw [e] at this; omega
    · have hvm := hval m (by omega)
      have h := hs.2 _ hvm.1
      rw [e, hot_num l.length m (by omega), hot_num l.length j hjl] at h
      have : 2 ^ (l.length - j - 1) < 2 ^ (l.length - m - 1) := Nat.pow_lt_pow_right (by decide) (by omega)
      omega
theorem worth_sec (l : List S50) (hv : Vld 1 l) (wo : Int) : Sec l wo l.length (worthWo l wo) := by
  have ho := one_lot l hv
  obtain ⟨t, ht, e, _⟩ := best_both l hv.bv wo
  have hw : worthWo l wo = ((val (l.map toOf) t : Nat) : Int) := by simp only [worthWo, e, Option.getD_some]
  rw [hw]
  refine ⟨?_, by omega, fun m hm hb => ?_⟩
  · rcases feas_hot _ _ t ho ht.1 with e | ⟨j, o, hj, e, hb⟩
    · left; rw [e, val_none]; rfl
    · right
      have hjl : j < l.length := by have := (List.getElem?_eq_some_iff.1 hj).1; simpa using this
      obtain ⟨h1, h2, h3⟩ := of_at l hv.bv j hjl
      have : toOf l[j] = o := by rw [h1] at hj; exact Option.some.inj hj
      subst this
      refine ⟨j, hjl, by rw [← h2]; exact hb, ?_⟩
      rw [e, hot_val _ _ _ h1]; exact h3
  · obtain ⟨h1, h2, h3⟩ := of_at l hv.bv m hm
    have hf := hot_feas wo (l.map toOf) m _ h1 (by rw [h2]; exact hb)
    have hh := ht.2 _ hf
    rw [hot_val _ _ _ h1] at hh
    omega
theorem ev_second_l2 (l : List S50) (hl : l.length ≤ 16) (b : Nat) (hb : b < l.length) (T P : List Int) (V : Int) (r : Bool)
    (hk : ∀ x, Sec l (bu l b) l.length x → Ev (fun k => (kimberlitelaw05_same.f k T (([(b : Int)] : List Int))).bind fun t302 => (if t302 = true then ((kimberlitelaw05_same.f k P (([x] : List Int))).bind fun t306 => (if t306 = true then (if 0 ≤ (b : Int) then (if (b : Int) < (l.length : Int) then (if V = ((rd_T50 l (b : Int)).f2) then ((kimberlitelaw05_alive.f k).bind fun t308 => (some t308)) else (some false)) else (none)) else (none)) else (some false))) else (some false))) r) :
    ∀ (d i : Nat) (x : Int), i + d = l.length → Sec l (bu l b) i x → Ev (fun k => kimberlitelaw05_TenderSecond.l2 k l (b : Int) x (i : Int) T P V) r
  | 0, i, x, h, hx => by
      refine Ev.step (fun k => ?_) (hk x (by rw [show l.length = i by omega]; exact hx))
      simp only [kimberlitelaw05_TenderSecond.l2]
      rw [if_neg (by omega)]
  | d + 1, i, x, h, hx => by
      have hi : i < l.length := by omega
      have hst : ∀ k, kimberlitelaw05_TenderSecond.l2 (k + 1) l (b : Int) x (i : Int) T P V = if bu l i = bu l b then kimberlitelaw05_TenderSecond.l2 k l (b : Int) x ((i + 1 : Nat) : Int) T P V else kimberlitelaw05_TenderSecond.l2 k l (b : Int) (mx x (pr l i)) ((i + 1 : Nat) : Int) T P V := fun k => by
        simp only [kimberlitelaw05_TenderSecond.l2]
        rw [if_pos (by omega), if_pos (by omega), if_pos (by omega), if_pos (by omega), w64 i (by omega)]; rfl
      by_cases c : bu l i = bu l b
      · refine Ev.step (fun k => by rw [hst k, if_pos c]) (ev_second_l2 l hl b hb T P V r hk d (i + 1) x (by omega) ⟨?_, hx.2.1, fun m hm hbm => ?_⟩)
        · rcases hx.1 with e | ⟨m, hm, h1, h2⟩
          · exact Or.inl e
          · exact Or.inr ⟨m, by omega, h1, h2⟩
        · rcases Nat.lt_or_ge m i with g | g
          · exact hx.2.2 m g hbm
          · rw [show m = i by omega] at hbm; exact absurd c hbm
      · refine Ev.step (fun k => by rw [hst k, if_neg c]) (ev_second_l2 l hl b hb T P V r hk d (i + 1) _ (by omega) ?_)
        have hmx : mx x (pr l i) = if x < pr l i then pr l i else x := rfl
        rw [hmx]
        by_cases g : x < pr l i
        · rw [if_pos g]
          refine ⟨Or.inr ⟨i, by omega, c, rfl⟩, by have := hx.2.1; omega, fun m hm hbm => ?_⟩
          rcases Nat.lt_or_ge m i with g2 | g2
          · have := hx.2.2 m g2 hbm; omega
          · rw [show m = i by omega]; exact Int.le_refl _
        · rw [if_neg g]
          refine ⟨?_, hx.2.1, fun m hm hbm => ?_⟩
          · rcases hx.1 with e | ⟨m, hm, h1, h2⟩
            · exact Or.inl e
            · exact Or.inr ⟨m, by omega, h1, h2⟩
          · rcases Nat.lt_or_ge m i with g2 | g2
            · exact hx.2.2 m g2 hbm
            · rw [show m = i by omega]; omega
theorem ev_second_l1 (l : List S50) (hl : l.length ≤ 16) (T P : List Int) (V : Int) (r : Bool)
    (hk : ∀ b, First l l.length b → Ev (fun k => kimberlitelaw05_TenderSecond.l2 k l (b : Int) 0 ((0 : Nat) : Int) T P V) r) :
    ∀ (d i b : Nat), i + d = l.length → First l i b → Ev (fun k => kimberlitelaw05_TenderSecond.l1 k l (b : Int) (i : Int) T P V) r
  | 0, i, b, h, hb => by
      refine Ev.step (fun k => ?_) (hk b (by rw [show l.length = i by omega]; exact hb))
      simp only [kimberlitelaw05_TenderSecond.l1]
      rw [if_neg (by omega)]; rfl
  | d + 1, i, b, h, hb => by
      have hi : i < l.length := by omega
      have hb1 := hb.1
      have hst : ∀ k, kimberlitelaw05_TenderSecond.l1 (k + 1) l (b : Int) (i : Int) T P V = if pr l i > pr l b then kimberlitelaw05_TenderSecond.l1 k l (i : Int) ((i + 1 : Nat) : Int) T P V else kimberlitelaw05_TenderSecond.l1 k l (b : Int) ((i + 1 : Nat) : Int) T P V := fun k => by
        simp only [kimberlitelaw05_TenderSecond.l1]
        rw [if_pos (by omega), if_pos (by omega), if_pos (by omega), if_pos (by omega), w64 i (by omega)]; rfl
      by_cases c : pr l i > pr l b
      · refine Ev.step (fun k => by rw [hst k, if_pos c]) (ev_second_l1 l hl T P V r hk d (i + 1) i (by omega) ⟨by omega, fun m hm => ?_, fun m hm => ?_⟩)
        · rcases Nat.lt_or_ge m i with g | g
          · have := hb.2.1 m g; omega
          · rw [show m = i by omega]; exact Int.le_refl _
        · have := hb.2.1 m hm; omega
      · refine Ev.step (fun k => by rw [hst k, if_neg c]) (ev_second_l1 l hl T P V r hk d (i + 1) b (by omega) ⟨by omega, fun m hm => ?_, hb.2.2⟩)
        rcases Nat.lt_or_ge m i with g | g
        · exact hb.2.1 m g
        · rw [show m = i by omega]; omega
theorem ev_second_j1 (l : List S50) (hv : Vld 1 l) : Ev (fun k => kimberlitelaw05_TenderSecond.j1 k l) true := by
  have hl := hv.len
  obtain ⟨s, hs, _, hD⟩ := ev_DecideOk 1 l hv
  refine Ev.step (f := fun k => (tender_Decide.f k 1 l).bind fun bt283 => (if bt283.2.2.2 = 0 then (kimberlitelaw05_TenderSecond.j2 k l bt283.2.2.2 ((l.length : Int) == 0) bt283.1 bt283.2.1 bt283.2.2.1) else (kimberlitelaw05_TenderSecond.j2 k l bt283.2.2.2 true bt283.1 bt283.2.1 bt283.2.2.1))) (fun k => by simp only [kimberlitelaw05_TenderSecond.j1]) ?_
  refine Ev.bind hD ?_
  simp only [if_true]
  by_cases hn : l.length = 0
  · have hle : l = [] := List.eq_nil_of_length_eq_zero hn
    subst hle
    have : s = [] := List.eq_nil_of_length_eq_zero (by simpa using feas_len _ _ _ _ _ hs.1)
    subst this
    refine Ev.step (f := fun k => (kimberlitelaw05_award.f k [] [] 0 ([] : List Int) ([] : List Int) 0).bind fun t292 => (if t292 = true then ((kimberlitelaw05_alive.f k).bind fun t293 => (some t293)) else (some false))) (fun k => by simp [kimberlitelaw05_TenderSecond.j2, idx, val]) ?_
    refine Ev.bind (ev_award [] [] 0 [] [] 0 (by decide) (by decide)) ?_
    simpa using second_alive
  · obtain ⟨j, hF, ei, ev⟩ := best_first l hv (by omega) s hs
    rw [ei, ev]
    refine Ev.step (f := fun k => kimberlitelaw05_TenderSecond.l1 k l ((0 : Nat) : Int) ((1 : Nat) : Int) [(j : Int)] (List.map (payS l (pr l j)) [(j : Int)]) (pr l j)) (fun k => ?_) ?_
    · simp only [kimberlitelaw05_TenderSecond.j2]
      rw [if_neg (by simpa using hn)]; rfl
    · refine ev_second_l1 l hl _ _ _ true (fun b hb => ?_) (l.length - 1) 1 0 (by omega) ⟨by omega, fun m hm => by rw [show m = 0 by omega]; exact Int.le_refl _, fun m hm => by omega⟩
      have : b = j := hb.uniq hF
      subst this
      refine ev_second_l2 l hl b hb.1 _ _ _ true (fun x hx => ?_) l.length 0 0 (by omega) ⟨Or.inl rfl, Int.le_refl _, fun m hm => by omega⟩
      have hw := (worth_sec l hv (bu l b)).uniq hx
      have hp : payS l (pr l b) (b : Int) = x := by rw [← hw]; simp only [payS, pr, bu]; omega
      simp only [List.map_cons, List.map_nil, hp]
      refine Ev.bind (ev_same _ _ (by simp)) ?_
      simp only [beq_self_eq_true, if_true]
      refine Ev.bind (ev_same _ _ (by simp)) ?_
      have hb1 := hb.1
      simp only [beq_self_eq_true, if_true]
      simp only [if_pos (show (0 : Int) ≤ (b : Int) by omega), if_pos (show (b : Int) < (l.length : Int) by omega), if_pos (show pr l b = (rd_T50 l (b : Int)).f2 from rfl)]
      exact second_alive
theorem ev_second_l0 (p q : List Int) (hq : ∀ x ∈ q, 0 ≤ x ∧ x ≤ 255) : ∀ (d i : Nat) (l : List S50), i + d = 16 → l.length = i → (∀ o ∈ l, 0 ≤ o.f0 ∧ o.f0 ≤ 7 ∧ 1 ≤ o.f1 ∧ o.f1 < ((2 ^ (1 : Int).toNat : Nat) : Int) ∧ 1 ≤ o.f2 ∧ o.f2 ≤ 1073741824) → Ev (fun k => kimberlitelaw05_TenderSecond.l0 k p q l (i : Int)) true
  | 0, i, l, h, hl, ho => by
      refine Ev.step (fun k => ?_) (ev_second_j1 l ⟨by decide, by decide, by omega, ho⟩)
      simp only [kimberlitelaw05_TenderSecond.l0]
      rw [if_neg (show ¬ (i : Int) < 16 by omega)]
      split <;> (try split) <;> rfl
  | d + 1, i, l, h, hl, ho => by
      by_cases c1 : i < p.length
      · by_cases c2 : i < q.length
        · have hqi := hq q[i] (List.getElem_mem c2)
          have e : rd q (i : Int) = q[i] := by simp [rd, c2]
          have et : Int.tmod (rd q (i : Int)) 8 = q[i] % 8 := by rw [e, Int.tmod_eq_emod_of_nonneg hqi.1]
          have hu : 0 ≤ IntKind.u64.wrap (rd p (i : Int)) := by rw [IntKind.wrap_u64]; omega
          have ep : Int.tmod (IntKind.u64.wrap (rd p (i : Int))) 1073741824 = IntKind.u64.wrap (rd p (i : Int)) % 1073741824 := Int.tmod_eq_emod_of_nonneg hu
          refine Ev.step (fun k => ?_) (ev_second_l0 p q hq d (i + 1) (l ++ [(⟨wrap64 (Int.tmod (rd q (i : Int)) 8), 1, wrap64 (1 + (wrap64 (Int.tmod (IntKind.u64.wrap (rd p (i : Int))) 1073741824)))⟩ : S50)]) (by omega) (by simp; omega) ?_)
          · simp only [kimberlitelaw05_TenderSecond.l0]
            rw [if_pos (by omega), if_pos (by omega), if_pos (by omega), if_pos (by omega), if_pos (by omega), w64 i (by omega)]
          · intro o hom
            rcases List.mem_append.1 hom with g | g
            · exact ho o g
            · rw [List.mem_singleton] at g
              subst g
              rw [et, ep]
              generalize IntKind.u64.wrap (rd p (i : Int)) = u at hu
              have h2 : ((2 ^ (1 : Int).toNat : Nat) : Int) = 2 := by decide
              rw [h2]
              unfold wrap64
              dsimp only
              omega
        · refine Ev.step (fun k => ?_) (ev_second_j1 l ⟨by decide, by decide, by omega, ho⟩)
          simp only [kimberlitelaw05_TenderSecond.l0]
          rw [if_pos (by omega), if_neg (by omega)]
      · refine Ev.step (fun k => ?_) (ev_second_j1 l ⟨by decide, by decide, by omega, ho⟩)
        simp only [kimberlitelaw05_TenderSecond.l0]
        rw [if_neg (by omega)]
theorem tenderSecond_pure : kimberlitelaw05_TenderSecond.Pure2 := by
  intro p q _ hq
  apply Ev.rounds
  unfold kimberlitelaw05_TenderSecond.f
  exact ev_second_l0 p q (fun x hx => wf_u8 (hq.2 x hx)) 16 0 [] rfl rfl (fun o ho => by simp at ho)
end Go.Proofs.Ythfdjccdelbeeaa.PT
