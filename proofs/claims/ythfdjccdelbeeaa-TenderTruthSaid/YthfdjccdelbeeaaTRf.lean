/-
  The specification's choices: Choice and Best of the reference come to the plain words.
-/
import Derived.Test.YthfdjccdelbeeaaTBr
import Derived.Test.YthfdjccdelbeeaaPTx6
import Derived.Test.YthfdjccdelbeeaaPTx7
namespace Go.Proofs.Ythfdjccdelbeeaa.PT
open Go.RowKit Go.Proofs.YthfdjccdelbeeaaW.PrintWords Go.Proofs.YthfdjccdelbeeaaW.PrintLast Go.Proofs.YthfdjccdelbeeaaW.PrintMore Go.Proofs.Ythfdjccdelbeeaa.TPl
set_option linter.unusedVariables false
theorem pow_le62 (n : Nat) (h : n ≤ 62) : 2 ^ n ≤ 4611686018427387904 := Nat.pow_le_pow_right (n := 2) (by decide) h
theorem shl_pow (n : Nat) (h : n ≤ 62) : shl .i64 1 (n : Int) = ((2 ^ n : Nat) : Int) := by
  unfold shl
  have := pow_le62 n h
  rw [Int.toNat_natCast, Nat.min_eq_left (by show n ≤ 64; omega), Int.one_mul]
  have e : (2 : Int) ^ n = ((2 ^ n : Nat) : Int) := by simp
  rw [e]
  generalize 2 ^ n = M at *
  exact IntWalk.i64_in _ (by omega)
theorem shr_pow (x n : Nat) (h : n ≤ 62) : shr .i64 (x : Int) (n : Int) = ((x / 2 ^ n : Nat) : Int) := by
  unfold shr
  rw [Int.toNat_natCast, Nat.min_eq_left (by show n ≤ 64; omega)]
  have e : (2 : Int) ^ n = ((2 ^ n : Nat) : Int) := by simp
  rw [e]; exact (Int.natCast_ediv _ _).symm
theorem tmod2 (x : Nat) : Int.tmod (x : Int) 2 = ((x % 2 : Nat) : Int) := by rw [Int.tmod_eq_emod_of_nonneg (by omega)]; omega
theorem bit_mod (x n : Nat) : x / 2 ^ n % 2 = if x.testBit n = true then 1 else 0 := by
  rw [Nat.testBit_eq_decide_div_mod_eq]
  have := Nat.mod_lt (x / 2 ^ n) (show 0 < 2 by decide)
  split <;> rename_i h <;> simp at h <;> omega
theorem rd_app (a b : List Int) (j : Nat) (h : j = a.length) : rd (a ++ b) (j : Int) = rd b 0 := by
  subst h
  simp [rd, List.getD_eq_getElem?_getD, List.getElem?_append_right]
theorem rd_last (a : List Int) (x : Int) (b : List Int) (j : Nat) (h : j = a.length) : rd (a ++ [x] ++ b) (j : Int) = x := by
  subst h
  simp [rd, List.getD_eq_getElem?_getD]
theorem feas_any (wo : Int) : ∀ (os : List Of) (s : List Bool) (L B : Nat), feas wo os s L B → feas (-1) os s L B
  | [], [], _, _, _ => trivial
  | o :: os, true :: s, L, B, h => ⟨⟨by omega, h.1.2.1, h.1.2.2⟩, feas_any wo os s _ _ h.2⟩
  | _ :: os, false :: s, L, B, h => feas_any wo os s L B h
  | [], _ :: _, _, _, h => h.elim
  | _ :: _, [], _, _, h => h.elim
instance feasDec (wo : Int) : ∀ (os : List Of) (s : List Bool) (L B : Nat), Decidable (feas wo os s L B)
  | [], [], _, _ => isTrue trivial
  | o :: os, true :: s, L, B => @instDecidableAnd _ _ _ (feasDec wo os s (L ||| o.l) (B ||| 2 ^ o.b))
  | _ :: os, false :: s, L, B => feasDec wo os s L B
  | [], _ :: _, _, _ => isFalse id
  | _ :: _, [], _, _ => isFalse id
def Bd (o : S50) : Prop := 0 ≤ o.f0 ∧ o.f0 ≤ 7 ∧ 1 ≤ o.f1 ∧ o.f1 < 4096 ∧ 1 ≤ o.f2 ∧ o.f2 ≤ 1073741824
/-- One round of Choice: where the index is in order. -/
theorem choice_round (l : List S50) (hv : bValid l) (i : Nat) (hi : i < l.length) (pre rest : List Int) (hpre : ∀ x, pre.getLast? = some x → x < (i : Int)) (hpl : pre.length ≤ i) (L B : Nat) (hL : L < 4096) (hB : B < 256) (sum : Nat) (hs : sum ≤ 1073741824 * i) (k : Nat) :
    kimberliteref05_Choice.l0 (k + 2) l (pre ++ (i : Int) :: rest) sum L B (pre.length : Int) =
      if nok (-1) L B (toOf l[i]) then kimberliteref05_Choice.l0 k l (pre ++ (i : Int) :: rest) ((sum + (toOf l[i]).p : Nat) : Int) ((L ||| (toOf l[i]).l : Nat) : Int) ((B ||| 2 ^ (toOf l[i]).b : Nat) : Int) ((pre.length + 1 : Nat) : Int) else some (0, false) := by
  have ho := hv.2 l[i] (List.getElem_mem hi)
  have hl16 := hv.1
  have e0 : rd (pre ++ (i : Int) :: rest) (pre.length : Int) = (i : Int) := by rw [rd_app _ _ _ rfl]; rfl
  obtain ⟨k1, k2, k3, k4, k5⟩ := bOk_nok (-1) L B l[i] hL hB ho
  have hlast : pre.length > 0 → rd (pre ++ (i : Int) :: rest) (wrap64 ((pre.length : Int) - 1)) < (i : Int) := by
    intro h0
    obtain ⟨p, x, rfl⟩ : ∃ p x, pre = p ++ [x] := by
      rcases List.eq_nil_or_concat pre with rfl | ⟨p, x, rfl⟩
      · simp at h0
      · exact ⟨p, x, by simp⟩
    have hx := hpre x (by simp)
    have : wrap64 (((p ++ [x]).length : Int) - 1) = (p.length : Int) := by have hq := hpl; simp only [List.length_append, List.length_cons, List.length_nil] at hq ⊢; unfold wrap64; omega
    rw [this, rd_last p x _ _ rfl]; exact hx
  have hj1 : kimberliteref05_Choice.j1 (k + 1) l (pre ++ (i : Int) :: rest) sum L B (pre.length : Int) false =
      if nok (-1) L B (toOf l[i]) then kimberliteref05_Choice.l0 k l (pre ++ (i : Int) :: rest) ((sum + (toOf l[i]).p : Nat) : Int) ((L ||| (toOf l[i]).l : Nat) : Int) ((B ||| 2 ^ (toOf l[i]).b : Nat) : Int) ((pre.length + 1 : Nat) : Int) else some (0, false) := by
    simp only [kimberliteref05_Choice.j1, e0, rd_get l i hi]
    rw [if_neg (by simp), if_pos (by omega), if_pos (by simp; omega), if_pos (by omega), if_pos (by omega)]
    have ef0 : l[i].f0 = ((l[i].f0.toNat : Nat) : Int) := by omega
    have esh : shl .i64 1 l[i].f0 = ((2 ^ l[i].f0.toNat : Nat) : Int) := by rw [ef0, shl_pow _ (by omega)]; rfl
    have esr : Int.tmod (shr .i64 (B : Int) l[i].f0) 2 = ((B / 2 ^ l[i].f0.toNat % 2 : Nat) : Int) := by
      conv => lhs; rw [ef0]
      rw [shr_pow _ _ (by omega), tmod2]
    rw [esh, esr, bit_mod, k2]
    have k3' : bits .or .i64 (B : Int) ((2 ^ l[i].f0.toNat : Nat) : Int) = ((B ||| 2 ^ (toOf l[i]).b : Nat) : Int) := by rw [← k3, pow8 _ (by omega)]
    rw [k3']
    have e1 : bits .and .i64 (L : Int) l[i].f1 = ((L &&& (toOf l[i]).l : Nat) : Int) := by
      have : l[i].f1 = ((l[i].f1.toNat : Nat) : Int) := by omega
      conv => lhs; rw [this]
      rw [(bits63 L l[i].f1.toNat (by omega) (by omega)).1]; rfl
    rw [e1]
    have ew : wrap64 ((sum : Int) + l[i].f2) = ((sum + (toOf l[i]).p : Nat) : Int) := by
      show wrap64 ((sum : Int) + l[i].f2) = ((sum + l[i].f2.toNat : Nat) : Int)
      unfold wrap64; omega
    rw [ew, w64 _ (by omega)]
    by_cases c1 : L &&& (toOf l[i]).l = 0
    · rw [if_pos (by rw [c1]; rfl), if_pos ho.1]
      by_cases c2 : B.testBit l[i].f0.toNat = true
      · rw [if_pos c2, if_pos (by rfl), if_neg (fun h => by have := h.2.2; simp only [toOf] at this; rw [c2] at this; cases this)]
      · rw [if_neg c2, if_neg (by decide), if_pos ⟨by simp only [toOf]; omega, c1, by simp only [toOf]; simpa using c2⟩]
    · rw [if_neg (by omega), if_neg (fun h => c1 h.2.1)]
  simp only [kimberliteref05_Choice.l0, e0]
  rw [if_pos (by simp; omega), if_pos (by omega), if_neg (by omega), if_neg (by omega)]
  by_cases hp : pre.length > 0
  · rw [if_pos (by omega), if_pos (by unfold wrap64; omega), if_pos (by simp only [List.length_append, List.length_cons]; unfold wrap64; omega), decide_eq_false (by have := hlast hp; omega)]
    exact hj1
  · rw [if_neg (by omega)]; exact hj1
theorem ev_Choice_l (l : List S50) (hv : bValid l) : ∀ (s : List Bool) (i : Nat) (pre : List Int) (L B sum : Nat), i + s.length = l.length → (∀ x, pre.getLast? = some x → x < (i : Int)) → pre.length ≤ i → L < 4096 → B < 256 → sum ≤ 1073741824 * i →
    Ev (fun k => kimberliteref05_Choice.l0 k l (pre ++ idx i s) sum L B (pre.length : Int)) (if feas (-1) ((l.drop i).map toOf) s L B then (((sum + val ((l.drop i).map toOf) s : Nat) : Int), true) else (0, false))
  | [], i, pre, L, B, sum, hi, _, _, _, _, _ => by
    have hd : l.drop i = [] := List.drop_of_length_le (by simp at hi; omega)
    rw [hd]
    refine Ev.here fun k => ?_
    simp only [kimberliteref05_Choice.l0, idx, List.append_nil]
    rw [if_neg (by omega), List.map_nil, if_pos (by trivial)]; simp [val]
  | b :: s, i, pre, L, B, sum, hi, hpre, hpl, hL, hB, hs => by
    have hlt : i < l.length := by simp at hi; omega
    have hd : l.drop i = l[i] :: l.drop (i + 1) := List.drop_eq_getElem_cons hlt
    have ho := hv.2 l[i] (List.getElem_mem hlt)
    rw [hd, List.map_cons]
    cases b with
    | false =>
      have ih := ev_Choice_l l hv s (i + 1) pre L B sum (by simp at hi; omega) (fun x hx => by have := hpre x hx; omega) (by omega) hL hB (by omega)
      simp only [idx]
      rw [show ((i + 1 : Nat) : Int) = (i : Int) + 1 from by omega] at ih
      exact ih
    | true =>
      obtain ⟨k1, k2, k3, k4, k5⟩ := bOk_nok (-1) L B l[i] hL hB ho
      have ih := ev_Choice_l l hv s (i + 1) (pre ++ [(i : Int)]) (L ||| (toOf l[i]).l) (B ||| 2 ^ (toOf l[i]).b) (sum + (toOf l[i]).p) (by simp at hi; omega) (fun x hx => by simp at hx; omega) (by simp; omega) k4 k5 (by show sum + l[i].f2.toNat ≤ _; omega)
      simp only [idx]
      have hr := fun k => choice_round l hv i hlt pre (idx ((i : Int) + 1) s) hpre hpl L B hL hB sum hs k
      by_cases hk : nok (-1) L B (toOf l[i])
      · refine Ev.step (f := fun k => kimberliteref05_Choice.l0 (k + 1) l (pre ++ (i : Int) :: idx ((i : Int) + 1) s) sum L B (pre.length : Int)) (fun k => rfl) ?_
        refine Ev.step (f := fun k => kimberliteref05_Choice.l0 k l (pre ++ (i : Int) :: idx ((i : Int) + 1) s) ((sum + (toOf l[i]).p : Nat) : Int) ((L ||| (toOf l[i]).l : Nat) : Int) ((B ||| 2 ^ (toOf l[i]).b : Nat) : Int) ((pre.length + 1 : Nat) : Int)) (fun k => by rw [hr k, if_pos hk]) ?_
        have e : pre ++ (i : Int) :: idx ((i : Int) + 1) s = pre ++ [(i : Int)] ++ idx ((i + 1 : Nat) : Int) s := by simp
        have e2 : (pre ++ [(i : Int)]).length = pre.length + 1 := by simp
        rw [e2, ← e] at ih
        have hf : feas (-1) (toOf l[i] :: List.map toOf (List.drop (i + 1) l)) (true :: s) L B ↔ feas (-1) (List.map toOf (List.drop (i + 1) l)) s (L ||| (toOf l[i]).l) (B ||| 2 ^ (toOf l[i]).b) := ⟨fun h => h.2, fun h => ⟨hk, h⟩⟩
        have hval : val (toOf l[i] :: List.map toOf (List.drop (i + 1) l)) (true :: s) = (toOf l[i]).p + val (List.map toOf (List.drop (i + 1) l)) s := rfl
        rw [hval, ← Nat.add_assoc]
        by_cases hff : feas (-1) (List.map toOf (List.drop (i + 1) l)) s (L ||| (toOf l[i]).l) (B ||| 2 ^ (toOf l[i]).b)
        · rw [if_pos (hf.2 hff)]; rw [if_pos hff] at ih; exact ih
        · rw [if_neg (fun h => hff (hf.1 h))]; rw [if_neg hff] at ih; exact ih
      · rw [if_neg (fun h => hk h.1)]
        refine Ev.step (f := fun k => kimberliteref05_Choice.l0 (k + 1) l (pre ++ (i : Int) :: idx ((i : Int) + 1) s) sum L B (pre.length : Int)) (fun k => rfl) ?_
        exact Ev.step (f := fun _ => some (0, false)) (fun k => by rw [hr k, if_neg hk]) (Ev.now _)
theorem ev_Choice (l : List S50) (hv : bValid l) (s : List Bool) (hs : s.length = l.length) : Ev (fun k => kimberliteref05_Choice.f k l (idx 0 s)) (if feas (-1) (l.map toOf) s 0 0 then ((val (l.map toOf) s : Nat) : Int) else 0, decide (feas (-1) (l.map toOf) s 0 0)) := by
  have h := ev_Choice_l l hv s 0 [] 0 0 0 (by omega) (by simp) (by simp) (by decide) (by decide) (by omega)
  by_cases c : feas (-1) (l.map toOf) s 0 0
  · simpa [kimberliteref05_Choice.f, c] using h
  · simpa [kimberliteref05_Choice.f, c] using h
theorem idx_app : ∀ (s t : List Bool) (i : Int), idx i (s ++ t) = idx i s ++ idx (i + s.length) t
  | [], t, i => by simp [idx]
  | true :: s, t, i => by simp only [List.cons_append, idx, idx_app s t (i + 1), List.length_cons]; rw [show i + 1 + (s.length : Int) = i + ((s.length + 1 : Nat) : Int) from by omega]
  | false :: s, t, i => by simp only [List.cons_append, idx, idx_app s t (i + 1), List.length_cons]; rw [show i + 1 + (s.length : Int) = i + ((s.length + 1 : Nat) : Int) from by omega]
theorem idx_len : ∀ (s : List Bool) (i : Int), (idx i s).length ≤ s.length
  | [], _ => by simp [idx]
  | true :: s, i => by have := idx_len s (i + 1); simp only [idx, List.length_cons]; omega
  | false :: s, i => by have := idx_len s (i + 1); simp only [idx, List.length_cons]; omega
/-- The bit of a number that stands for a choice. -/
theorem num_bit : ∀ (s : List Bool) (b : Bool) (r : List Bool), num (s ++ b :: r) / 2 ^ r.length % 2 = if b = true then 1 else 0
  | [], b, r => by
    have := num_lt r
    have h0 : 0 < 2 ^ r.length := Nat.pos_of_ne_zero (by intro h; omega)
    cases b with
    | true => simp only [List.nil_append, num, if_true]; rw [Nat.add_div_left _ h0, Nat.div_eq_of_lt this]
    | false => simp only [List.nil_append, num]; rw [Nat.div_eq_of_lt this]; rfl
  | c :: s, b, r => by
    have ih := num_bit s b r
    cases c with
    | true =>
      simp only [List.cons_append, num]
      have e : (s ++ b :: r).length = r.length + (s.length + 1) := by simp; omega
      rw [e, Nat.pow_add, Nat.mul_comm, Nat.add_comm, Nat.add_mul_div_right _ _ (Nat.pos_of_ne_zero (by have := num_lt r; intro h; omega)), Nat.pow_succ, Nat.add_mul_mod_self_right]
      exact ih
    | false => simpa only [List.cons_append, num] using ih
def ofNum : Nat → Nat → List Bool
  | 0, _ => []
  | n + 1, m => if 2 ^ n ≤ m then true :: ofNum n (m - 2 ^ n) else false :: ofNum n m
theorem ofNum_len : ∀ n m, (ofNum n m).length = n
  | 0, _ => rfl
  | n + 1, m => by simp only [ofNum]; split <;> simp [ofNum_len]
theorem num_ofNum : ∀ n m, m < 2 ^ n → num (ofNum n m) = m
  | 0, m, h => by simp at h; subst h; rfl
  | n + 1, m, h => by
    rw [Nat.pow_succ] at h
    simp only [ofNum]
    split
    · simp only [num, ofNum_len]; rw [num_ofNum n _ (by omega)]; omega
    · simp only [num]; exact num_ofNum n m (by omega)
/-- One round of the reference's inner loop. -/
theorem best_round (l : List S50) (hv : bValid l) (wo : Int) (best : List Int) (most : Int) (pre : List Bool) (b : Bool) (r : List Bool) (hn : (pre ++ b :: r).length = l.length) (i : Nat) (hi : pre.length = i) (tk : List Int) (htk : tk.length ≤ i) (L B : Nat) (hL : L < 4096) (hB : B < 256) (hlt : i < l.length) (k : Nat) :
    ∃ L' B' : Int, kimberliteref05_Best.l1 (k + 2) l wo best most (num (pre ++ b :: r) : Int) tk true L B (i : Int) =
      if b = false then kimberliteref05_Best.l1 k l wo best most (num (pre ++ b :: r) : Int) tk true L B ((i + 1 : Nat) : Int)
      else if nok wo L B (toOf l[i]) then kimberliteref05_Best.l1 k l wo best most (num (pre ++ b :: r) : Int) (tk ++ [(i : Int)]) true ((L ||| (toOf l[i]).l : Nat) : Int) ((B ||| 2 ^ (toOf l[i]).b : Nat) : Int) ((i + 1 : Nat) : Int)
      else kimberliteref05_Best.l1 k l wo best most (num (pre ++ b :: r) : Int) (tk ++ [(i : Int)]) false L' B' ((i + 1 : Nat) : Int) := by
  have ho := hv.2 l[i] (List.getElem_mem hlt)
  have hl16 := hv.1
  obtain ⟨k1, k2, k3, k4, k5⟩ := bOk_nok wo L B l[i] hL hB ho
  have hnl : num (pre ++ b :: r) < 2 ^ 16 := by have := num_lt (pre ++ b :: r); have h2 : 2 ^ (pre ++ b :: r).length ≤ 2 ^ 16 := Nat.pow_le_pow_right (by decide) (by omega); omega
  have ef0 : l[i].f0 = ((l[i].f0.toNat : Nat) : Int) := by omega
  have esh : shl .i64 1 l[i].f0 = ((2 ^ l[i].f0.toNat : Nat) : Int) := by rw [ef0, shl_pow _ (by omega)]; rfl
  have esr : Int.tmod (shr .i64 (B : Int) l[i].f0) 2 = ((B / 2 ^ l[i].f0.toNat % 2 : Nat) : Int) := by
    conv => lhs; rw [ef0]
    rw [shr_pow _ _ (by omega), tmod2]
  have k3' : bits .or .i64 (B : Int) ((2 ^ l[i].f0.toNat : Nat) : Int) = ((B ||| 2 ^ (toOf l[i]).b : Nat) : Int) := by rw [← k3, pow8 _ (by omega)]
  have e1 : bits .and .i64 (L : Int) l[i].f1 = ((L &&& (toOf l[i]).l : Nat) : Int) := by
    have : l[i].f1 = ((l[i].f1.toNat : Nat) : Int) := by omega
    conv => lhs; rw [this]
    rw [(bits63 L l[i].f1.toNat (by omega) (by omega)).1]; rfl
  have hrl : (r.length : Int) = (l.length : Int) - 1 - (i : Int) := by simp at hn; omega
  have ew : wrap64 (wrap64 ((l.length : Int) - 1) - (i : Int)) = (r.length : Int) := by unfold wrap64; omega
  have hr15 : r.length ≤ 62 := by simp at hn; omega
  have eb : Int.tmod (shr .i64 (num (pre ++ b :: r) : Int) (r.length : Int)) 2 = if b = true then 1 else 0 := by
    rw [shr_pow _ _ hr15, tmod2, num_bit pre b r]; split <;> rfl
  refine ⟨((L ||| (toOf l[i]).l : Nat) : Int), ((B ||| 2 ^ (toOf l[i]).b : Nat) : Int), ?_⟩
  simp only [kimberliteref05_Best.l1, kimberliteref05_Best.j2]
  rw [if_pos (by omega), if_pos trivial, ew, if_pos (by omega), eb, w64 i (by omega)]
  cases b with
  | false => simp
  | true =>
    rw [if_neg (show ¬ ((if true = true then (1 : Int) else 0) = 0) by decide), if_neg (show ¬ (true = false) by decide), if_pos (by omega), if_pos (by omega), rd_get l i hlt, esh, esr, bit_mod, k2, k3', e1]
    by_cases c0 : l[i].f0 = wo
    · rw [if_pos c0, if_pos ho.1, if_pos (by omega), if_neg (fun h => h.1 (by simp only [toOf]; omega))]
    · rw [if_neg c0]
      by_cases c1 : L &&& (toOf l[i]).l = 0
      · rw [if_pos (by rw [c1]; rfl), if_pos ho.1, if_pos (by omega)]
        by_cases c2 : B.testBit l[i].f0.toNat = true
        · rw [if_pos c2, if_neg (fun h => by have := h.2.2; simp only [toOf] at this; rw [c2] at this; cases this)]; rfl
        · rw [if_neg c2, if_pos ⟨by simp only [toOf]; omega, c1, by simp only [toOf]; simpa using c2⟩]; rfl
      · rw [if_neg (by omega), if_pos ho.1, if_pos (by omega), if_neg (fun h => c1 h.2.1)]
theorem Ev.step2 {α : Type} {g f : Nat → Option α} {r : α} (h : ∀ k, g (k + 2) = f k) (k : Ev f r) : Ev g r := by
  refine Ev.step (f := fun k => g (k + 1)) (fun _ => rfl) (Ev.step (f := f) (fun k => h k) k)
/-- From an offer on: where the choice stands to the end, it is looked at; else the next set comes. -/
theorem ev_l1 (l : List S50) (hv : bValid l) (wo : Int) (best : List Int) (most : Int) (a : List Int × Int) : ∀ (s pre : List Bool) (i L B : Nat), (pre ++ s).length = l.length → pre.length = i → L < 4096 → B < 256 →
    (feas wo ((l.drop i).map toOf) s L B → feas (-1) (l.map toOf) (pre ++ s) 0 0) →
    (if feas wo ((l.drop i).map toOf) s L B then Ev (fun k => if ((val (l.map toOf) (pre ++ s) : Nat) : Int) > most then kimberliteref05_Best.l0 k l wo (idx 0 (pre ++ s)) ((val (l.map toOf) (pre ++ s) : Nat) : Int) (wrap64 ((num (pre ++ s) : Int) - 1)) else kimberliteref05_Best.l0 k l wo best most (wrap64 ((num (pre ++ s) : Int) - 1))) a
      else Ev (fun k => kimberliteref05_Best.l0 k l wo best most (wrap64 ((num (pre ++ s) : Int) - 1))) a) →
    Ev (fun k => kimberliteref05_Best.l1 k l wo best most (num (pre ++ s) : Int) (idx 0 pre) true L B (i : Int)) a
  | [], pre, i, L, B, hn, hi, hL, hB, hf, hr => by
    have hd : l.drop i = [] := List.drop_of_length_le (by simp at hn; omega)
    rw [hd] at hr hf
    rw [if_pos (by trivial)] at hr
    have hfe := hf (by trivial)
    rw [List.append_nil] at hr hn hfe ⊢
    have hc := ev_Choice l hv pre hn
    refine Ev.step2 (f := fun k => (kimberliteref05_Choice.f k l (idx 0 pre)).bind fun bt186 => (if bt186.1 > most then (kimberliteref05_Best.l0 k l wo (idx 0 pre) bt186.1 (wrap64 ((num pre : Int) - 1))) else (kimberliteref05_Best.l0 k l wo best most (wrap64 ((num pre : Int) - 1))))) (fun k => ?_) (Ev.bind hc ?_)
    · simp only [kimberliteref05_Best.l1, kimberliteref05_Best.j2]
      rw [if_neg (by omega), if_neg (by simp)]; simp
    · simp only [if_pos hfe]; exact hr
  | b :: r, pre, i, L, B, hn, hi, hL, hB, hf, hr => by
    have hlt : i < l.length := by simp at hn; omega
    have hd : l.drop i = l[i] :: l.drop (i + 1) := List.drop_eq_getElem_cons hlt
    have ho := hv.2 l[i] (List.getElem_mem hlt)
    obtain ⟨k1, k2, k3, k4, k5⟩ := bOk_nok wo L B l[i] hL hB ho
    have htk : (idx 0 pre).length ≤ i := by rw [← hi]; exact idx_len pre 0
    have hrd := fun k => best_round l hv wo best most pre b r hn i hi (idx 0 pre) htk L B hL hB hlt k
    rw [hd, List.map_cons] at hf hr
    have hpe : pre ++ b :: r = (pre ++ [b]) ++ r := by simp
    cases b with
    | false =>
      have ih := ev_l1 l hv wo best most a r (pre ++ [false]) (i + 1) L B (by rw [← hpe]; exact hn) (by simp; omega) hL hB (fun h => by rw [← hpe]; exact hf h) (by rw [← hpe]; exact hr)
      rw [← hpe] at ih
      have hx : idx 0 (pre ++ [false]) = idx 0 pre := by rw [idx_app]; simp [idx]
      rw [hx] at ih
      refine Ev.step2 (fun k => ?_) ih
      obtain ⟨L', B', e⟩ := hrd k
      rw [e, if_pos rfl]
    | true =>
      have hx : idx 0 (pre ++ [true]) = idx 0 pre ++ [(i : Int)] := by rw [idx_app]; simp [idx, hi]
      by_cases hk : nok wo L B (toOf l[i])
      · have hff : feas wo (toOf l[i] :: List.map toOf (List.drop (i + 1) l)) (true :: r) L B ↔ feas wo (List.map toOf (List.drop (i + 1) l)) r (L ||| (toOf l[i]).l) (B ||| 2 ^ (toOf l[i]).b) := ⟨fun h => h.2, fun h => ⟨hk, h⟩⟩
        have ih := ev_l1 l hv wo best most a r (pre ++ [true]) (i + 1) (L ||| (toOf l[i]).l) (B ||| 2 ^ (toOf l[i]).b) (by rw [← hpe]; exact hn) (by simp; omega) k4 k5 (fun h => by rw [← hpe]; exact hf (hff.2 h)) (by
          rw [← hpe]
          by_cases c : feas wo (List.map toOf (List.drop (i + 1) l)) r (L ||| (toOf l[i]).l) (B ||| 2 ^ (toOf l[i]).b)
          · rw [if_pos c]; rw [if_pos (hff.2 c)] at hr; exact hr
          · rw [if_neg c]; rw [if_neg (fun h => c (hff.1 h))] at hr; exact hr)
        rw [← hpe, hx] at ih
        refine Ev.step2 (fun k => ?_) ih
        obtain ⟨L', B', e⟩ := hrd k
        rw [e, if_neg (by decide), if_pos hk]
      · rw [if_neg (fun h => hk h.1)] at hr
        have hst : ∀ L' B' : Int, ∀ k, kimberliteref05_Best.l1 (k + 2) l wo best most (num (pre ++ true :: r) : Int) (idx 0 pre ++ [(i : Int)]) false L' B' ((i + 1 : Nat) : Int) = kimberliteref05_Best.l0 k l wo best most (wrap64 ((num (pre ++ true :: r) : Int) - 1)) := fun L' B' k => by
          simp only [kimberliteref05_Best.l1, kimberliteref05_Best.j2]
          by_cases c : ((i + 1 : Nat) : Int) < (l.length : Int)
          · rw [if_pos c]; simp
          · rw [if_neg c]; simp
        obtain ⟨K, hK⟩ := hr
        refine ⟨K + 4, fun k hk4 => ?_⟩
        obtain ⟨m, rfl⟩ : ∃ m, k = m + 2 + 2 := ⟨k - 4, by omega⟩
        obtain ⟨L', B', e⟩ := hrd (m + 2)
        dsimp only
        rw [e, if_neg (by decide), if_neg hk, hst]
        exact hK m (by omega)
end Go.Proofs.Ythfdjccdelbeeaa.PT
