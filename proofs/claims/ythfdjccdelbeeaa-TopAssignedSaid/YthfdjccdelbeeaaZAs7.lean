/-
  The texts that the theorem in YthfdjccdelbeeaaZRowAs rests on, merged (part 8); only what it reaches.
-/
import Derived.Test.YthfdjccdelbeeaaZAs2
import Derived.Test.YthfdjccdelbeeaaZAs3
import Derived.Test.YthfdjccdelbeeaaZAs4
import Derived.Test.YthfdjccdelbeeaaZAs5
import Derived.Test.YthfdjccdelbeeaaZAs6
section
namespace Go.Proofs.Ythfdjccdelbeeaa.PT
open Go.RowKit Go.Proofs.YthfdjccdelbeeaaW.PrintWords Go.Proofs.YthfdjccdelbeeaaW.PrintLast Go.Proofs.YthfdjccdelbeeaaW.PrintMore Go.Proofs.Ythfdjccdelbeeaa.TPl
set_option linter.unusedVariables false
theorem pow_le62 (n : Nat) (h : n ≤ 62) : 2 ^ n ≤ 4611686018427387904 := Nat.pow_le_pow_right (n := 2) (by decide) h
theorem shl_pow (n : Nat) (h : n ≤ 62) : shl .i64 1 (n : Int) = ((2 ^ n : Nat) : Int) := by
  unfold shl
  have := pow_le62 n h
  rw [Int.toNat_natCast, Nat.min_eq_left (by show n ≤ 64; omega), Int.one_mul]
  have e : (2 : Int) ^ n = ((2 ^ n : Nat) : Int) := by simp
  rw [e]
  generalize 2 ^ n = M at *
  exact IntWalk.i64_in _ (by omega)
theorem shr_pow (x n : Nat) (h : n ≤ 62) : shr .i64 (x : Int) (n : Int) = ((x / 2 ^ n : Nat) : Int) := by
  unfold shr
  rw [Int.toNat_natCast, Nat.min_eq_left (by show n ≤ 64; omega)]
  have e : (2 : Int) ^ n = ((2 ^ n : Nat) : Int) := by simp
  rw [e]; exact (Int.natCast_ediv _ _).symm
theorem tmod2 (x : Nat) : Int.tmod (x : Int) 2 = ((x % 2 : Nat) : Int) := by rw [Int.tmod_eq_emod_of_nonneg (by omega)]; omega
theorem bit_mod (x n : Nat) : x / 2 ^ n % 2 = if x.testBit n = true then 1 else 0 := by
  rw [Nat.testBit_eq_decide_div_mod_eq]
  have := Nat.mod_lt (x / 2 ^ n) (show 0 < 2 by decide)
  split <;> rename_i h <;> simp at h <;> omega
theorem rd_app (a b : List Int) (j : Nat) (h : j = a.length) : rd (a ++ b) (j : Int) = rd b 0 := by
  subst h
  simp [rd, List.getD_eq_getElem?_getD, List.getElem?_append_right]
theorem rd_last (a : List Int) (x : Int) (b : List Int) (j : Nat) (h : j = a.length) : rd (a ++ [x] ++ b) (j : Int) = x := by
  subst h
  simp [rd, List.getD_eq_getElem?_getD]
theorem feas_any (wo : Int) : ∀ (os : List Of) (s : List Bool) (L B : Nat), feas wo os s L B → feas (-1) os s L B
  | [], [], _, _, _ => trivial
  | o :: os, true :: s, L, B, h => ⟨⟨by omega, h.1.2.1, h.1.2.2⟩, feas_any wo os s _ _ h.2⟩
  | _ :: os, false :: s, L, B, h => feas_any wo os s L B h
  | [], _ :: _, _, _, h => h.elim
  | _ :: _, [], _, _, h => h.elim
instance feasDec (wo : Int) : ∀ (os : List Of) (s : List Bool) (L B : Nat), Decidable (feas wo os s L B)
  | [], [], _, _ => isTrue trivial
  | o :: os, true :: s, L, B => @instDecidableAnd _ _ _ (feasDec wo os s (L ||| o.l) (B ||| 2 ^ o.b))
  | _ :: os, false :: s, L, B => feasDec wo os s L B
  | [], _ :: _, _, _ => isFalse id
  | _ :: _, [], _, _ => isFalse id
/-- One round of Choice: where the index is in order. -/
theorem choice_round (l : List S50) (hv : bValid l) (i : Nat) (hi : i < l.length) (pre rest : List Int) (hpre : ∀ x, pre.getLast? = some x → x < (i : Int)) (hpl : pre.length ≤ i) (L B : Nat) (hL : L < 4096) (hB : B < 256) (sum : Nat) (hs : sum ≤ 1073741824 * i) (k : Nat) :
    kimberliteref05_Choice.l0 (k + 2) l (pre ++ (i : Int) :: rest) sum L B (pre.length : Int) =
      if nok (-1) L B (toOf l[i]) then kimberliteref05_Choice.l0 k l (pre ++ (i : Int) :: rest) ((sum + (toOf l[i]).p : Nat) : Int) ((L ||| (toOf l[i]).l : Nat) : Int) ((B ||| 2 ^ (toOf l[i]).b : Nat) : Int) ((pre.length + 1 : Nat) : Int) else some (0, false) := by
  have ho := hv.2 l[i] (List.getElem_mem hi)
  have hl16 := hv.1
  have e0 : rd (pre ++ (i : Int) :: rest) (pre.length : Int) = (i : Int) := by rw [rd_app _ _ _ rfl]; rfl
  obtain ⟨k1, k2, k3, k4, k5⟩ := bOk_nok (-1) L B l[i] hL hB ho
  have hlast : pre.length > 0 → rd (pre ++ (i : Int) :: rest) (wrap64 ((pre.length : Int) - 1)) < (i : Int) := by
    intro h0
    obtain ⟨p, x, rfl⟩ : ∃ p x, pre = p ++ [x] := by
      rcases List.eq_nil_or_concat pre with rfl | ⟨p, x, rfl⟩
      · simp at h0
      · exact ⟨p, x, by simp⟩
    have hx := hpre x (by simp)
    have : wrap64 (((p ++ [x]).length : Int) - 1) = (p.length : Int) := by have hq := hpl; simp only [List.length_append, List.length_cons, List.length_nil] at hq ⊢; unfold wrap64; omega
    rw [this, rd_last p x _ _ rfl]; exact hx
  have hj1 : kimberliteref05_Choice.j1 (k + 1) l (pre ++ (i : Int) :: rest) sum L B (pre.length : Int) false =
      if nok (-1) L B (toOf l[i]) then kimberliteref05_Choice.l0 k l (pre ++ (i : Int) :: rest) ((sum + (toOf l[i]).p : Nat) : Int) ((L ||| (toOf l[i]).l : Nat) : Int) ((B ||| 2 ^ (toOf l[i]).b : Nat) : Int) ((pre.length + 1 : Nat) : Int) else some (0, false) := by
    simp only [kimberliteref05_Choice.j1, e0, rd_get l i hi]
    rw [if_neg (by simp), if_pos (by omega), if_pos (by simp; omega), if_pos (by omega), if_pos (by omega)]
    have ef0 : l[i].f0 = ((l[i].f0.toNat : Nat) : Int) := by omega
    have esh : shl .i64 1 l[i].f0 = ((2 ^ l[i].f0.toNat : Nat) : Int) := by rw [ef0, shl_pow _ (by omega)]; rfl
    have esr : Int.tmod (shr .i64 (B : Int) l[i].f0) 2 = ((B / 2 ^ l[i].f0.toNat % 2 : Nat) : Int) := by
      conv => lhs; rw [ef0]
      rw [shr_pow _ _ (by omega), tmod2]
    rw [esh, esr, bit_mod, k2]
    have k3' : bits .or .i64 (B : Int) ((2 ^ l[i].f0.toNat : Nat) : Int) = ((B ||| 2 ^ (toOf l[i]).b : Nat) : Int) := by rw [← k3, pow8 _ (by omega)]
    rw [k3']
    have e1 : bits .and .i64 (L : Int) l[i].f1 = ((L &&& (toOf l[i]).l : Nat) : Int) := by
      have : l[i].f1 = ((l[i].f1.toNat : Nat) : Int) := by omega
      conv => lhs; rw [this]
      rw [(bits63 L l[i].f1.toNat (by omega) (by omega)).1]; rfl
    rw [e1]
    have ew : wrap64 ((sum : Int) + l[i].f2) = ((sum + (toOf l[i]).p : Nat) : Int) := by
      show wrap64 ((sum : Int) + l[i].f2) = ((sum + l[i].f2.toNat : Nat) : Int)
      unfold wrap64; omega
    rw [ew, w64 _ (by omega)]
    by_cases c1 : L &&& (toOf l[i]).l = 0
    · rw [if_pos (by rw [c1]; rfl), if_pos ho.1]
      by_cases c2 : B.testBit l[i].f0.toNat = true
      · rw [if_pos c2, if_pos (by rfl), if_neg (fun h => by have := h.2.2; simp only [toOf] at this; rw [c2] at this; cases this)]
      · rw [if_neg c2, if_neg (by decide), if_pos ⟨by simp only [toOf]; omega, c1, by simp only [toOf]; simpa using c2⟩]
    · rw [if_neg (by omega), if_neg (fun h => c1 h.2.1)]
  simp only [kimberliteref05_Choice.l0, e0]
  rw [if_pos (by simp; omega), if_pos (by omega), if_neg (by omega), if_neg (by omega)]
  by_cases hp : pre.length > 0
  · rw [if_pos (by omega), if_pos (by unfold wrap64; omega), if_pos (by simp only [List.length_append, List.length_cons]; unfold wrap64; omega), decide_eq_false (by have := hlast hp; omega)]
    exact hj1
  · rw [if_neg (by omega)]; exact hj1
theorem ev_Choice_l (l : List S50) (hv : bValid l) : ∀ (s : List Bool) (i : Nat) (pre : List Int) (L B sum : Nat), i + s.length = l.length → (∀ x, pre.getLast? = some x → x < (i : Int)) → pre.length ≤ i → L < 4096 → B < 256 → sum ≤ 1073741824 * i →
    Ev (fun k => kimberliteref05_Choice.l0 k l (pre ++ idx i s) sum L B (pre.length : Int)) (if feas (-1) ((l.drop i).map toOf) s L B then (((sum + val ((l.drop i).map toOf) s : Nat) : Int), true) else (0, false))
  | [], i, pre, L, B, sum, hi, _, _, _, _, _ => by
    have hd : l.drop i = [] := List.drop_of_length_le (by simp at hi; omega)
    rw [hd]
    refine Ev.here fun k => ?_
    simp only [kimberliteref05_Choice.l0, idx, List.append_nil]
    rw [if_neg (by omega), List.map_nil, if_pos (by trivial)]; simp [val]
  | b :: s, i, pre, L, B, sum, hi, hpre, hpl, hL, hB, hs => by
    have hlt : i < l.length := by simp at hi; omega
    have hd : l.drop i = l[i] :: l.drop (i + 1) := List.drop_eq_getElem_cons hlt
    have ho := hv.2 l[i] (List.getElem_mem hlt)
    rw [hd, List.map_cons]
    cases b with
    | false =>
      have ih := ev_Choice_l l hv s (i + 1) pre L B sum (by simp at hi; omega) (fun x hx => by have := hpre x hx; omega) (by omega) hL hB (by omega)
      simp only [idx]
      rw [show ((i + 1 : Nat) : Int) = (i : Int) + 1 from by omega] at ih
      exact ih
    | true =>
      obtain ⟨k1, k2, k3, k4, k5⟩ := bOk_nok (-1) L B l[i] hL hB ho
      have ih := ev_Choice_l l hv s (i + 1) (pre ++ [(i : Int)]) (L ||| (toOf l[i]).l) (B ||| 2 ^ (toOf l[i]).b) (sum + (toOf l[i]).p) (by simp at hi; omega) (fun x hx => by simp at hx; omega) (by simp; omega) k4 k5 (by show sum + l[i].f2.toNat ≤ _; omega)
      simp only [idx]
      have hr := fun k => choice_round l hv i hlt pre (idx ((i : Int) + 1) s) hpre hpl L B hL hB sum hs k
      by_cases hk : nok (-1) L B (toOf l[i])
      · refine Ev.step (f := fun k => kimberliteref05_Choice.l0 (k + 1) l (pre ++ (i : Int) :: idx ((i : Int) + 1) s) sum L B (pre.length : Int)) (fun k => rfl) ?_
        refine Ev.step (f := fun k => kimberliteref05_Choice.l0 k l (pre ++ (i : Int) :: idx ((i : Int) + 1) s) ((sum + (toOf l[i]).p : Nat) : Int) ((L ||| (toOf l[i]).l : Nat) : Int) ((B ||| 2 ^ (toOf l[i]).b : Nat) : Int) ((pre.length + 1 : Nat) : Int)) (fun k => by rw [hr k, if_pos hk]) ?_
        have e : pre ++ (i : Int) :: idx ((i : Int) + 1) s = pre ++ [(i : Int)] ++ idx ((i + 1 : Nat) : Int) s := by simp
        have e2 : (pre ++ [(i : Int)]).length = pre.length + 1 := by simp
        rw [e2, ← e] at ih
        have hf : feas (-1) (toOf l[i] :: List.map toOf (List.drop (i + 1) l)) (true :: s) L B ↔ feas (-1) (List.map toOf (List.drop (i + 1) l)) s (L ||| (toOf l[i]).l) (B ||| 2 ^ (toOf l[i]).b) := ⟨fun h => h.2, fun h => ⟨hk, h⟩⟩
        have hval : val (toOf l[i] :: List.map toOf (List.drop (i + 1) l)) (true :: s) = (toOf l[i]).p + val (List.map toOf (List.drop (i + 1) l)) s := rfl
        rw [hval, ← Nat.add_assoc]
        by_cases hff : feas (-1) (List.map toOf (List.drop (i + 1) l)) s (L ||| (toOf l[i]).l) (B ||| 2 ^ (toOf l[i]).b)
        · rw [if_pos (hf.2 hff)]; rw [if_pos hff] at ih; exact ih
        · rw [if_neg (fun h => hff (hf.1 h))]; rw [if_neg hff] at ih; exact ih
      · rw [if_neg (fun h => hk h.1)]
        refine Ev.step (f := fun k => kimberliteref05_Choice.l0 (k + 1) l (pre ++ (i : Int) :: idx ((i : Int) + 1) s) sum L B (pre.length : Int)) (fun k => rfl) ?_
        exact Ev.step (f := fun _ => some (0, false)) (fun k => by rw [hr k, if_neg hk]) (Ev.now _)
theorem ev_Choice (l : List S50) (hv : bValid l) (s : List Bool) (hs : s.length = l.length) : Ev (fun k => kimberliteref05_Choice.f k l (idx 0 s)) (if feas (-1) (l.map toOf) s 0 0 then ((val (l.map toOf) s : Nat) : Int) else 0, decide (feas (-1) (l.map toOf) s 0 0)) := by
  have h := ev_Choice_l l hv s 0 [] 0 0 0 (by omega) (by simp) (by simp) (by decide) (by decide) (by omega)
  by_cases c : feas (-1) (l.map toOf) s 0 0
  · simpa [kimberliteref05_Choice.f, c] using h
  · simpa [kimberliteref05_Choice.f, c] using h
theorem idx_app : ∀ (s t : List Bool) (i : Int), idx i (s ++ t) = idx i s ++ idx (i + s.length) t
  | [], t, i => by simp [idx]
  | true :: s, t, i => by simp only [List.cons_append, idx, idx_app s t (i + 1), List.length_cons]; rw [show i + 1 + (s.length : Int) = i + ((s.length + 1 : Nat) : Int) from by omega]
  | false :: s, t, i => by simp only [List.cons_append, idx, idx_app s t (i + 1), List.length_cons]; rw [show i + 1 + (s.length : Int) = i + ((s.length + 1 : Nat) : Int) from by omega]
theorem idx_len : ∀ (s : List Bool) (i : Int), (idx i s).length ≤ s.length
  | [], _ => by simp [idx]
  | true :: s, i => by have := idx_len s (i + 1); simp only [idx, List.length_cons]; omega
  | false :: s, i => by have := idx_len s (i + 1); simp only [idx, List.length_cons]; omega
/-- The bit of a number that stands for a choice. -/
theorem num_bit : ∀ (s : List Bool) (b : Bool) (r : List Bool), num (s ++ b :: r) / 2 ^ r.length % 2 = if b = true then 1 else 0
  | [], b, r => by
    have := num_lt r
    have h0 : 0 < 2 ^ r.length := Nat.pos_of_ne_zero (by intro h; omega)
    cases b with
    | true => simp only [List.nil_append, num, if_true]; rw [Nat.add_div_left _ h0, Nat.div_eq_of_lt this]
    | false => simp only [List.nil_append, num]; rw [Nat.div_eq_of_lt this]; rfl
  | c :: s, b, r => by
    have ih := num_bit s b r
    cases c with
    | true =>
      simp only [List.cons_append, num]
      have e : (s ++ b :: r).length = r.length + (s.length + 1) := by simp; omega
      rw [e, Nat.pow_add, Nat.mul_comm, Nat.add_comm, Nat.add_mul_div_right _ _ (Nat.pos_of_ne_zero (by have := num_lt r; intro h; omega)), Nat.pow_succ, Nat.add_mul_mod_self_right]
      exact ih
    | false => simpa only [List.cons_append, num] using ih
def ofNum : Nat → Nat → List Bool
  | 0, _ => []
  | n + 1, m => if 2 ^ n ≤ m then true :: ofNum n (m - 2 ^ n) else false :: ofNum n m
theorem ofNum_len : ∀ n m, (ofNum n m).length = n
  | 0, _ => rfl
  | n + 1, m => by simp only [ofNum]; split <;> simp [ofNum_len]
theorem num_ofNum : ∀ n m, m < 2 ^ n → num (ofNum n m) = m
  | 0, m, h => by simp at h; subst h; rfl
  | n + 1, m, h => by
    rw [Nat.pow_succ] at h
    simp only [ofNum]
    split
    · simp only [num, ofNum_len]; rw [num_ofNum n _ (by omega)]; omega
    · simp only [num]; exact num_ofNum n m (by omega)
/-- One round of the reference's inner loop. -/
theorem best_round (l : List S50) (hv : bValid l) (wo : Int) (best : List Int) (most : Int) (pre : List Bool) (b : Bool) (r : List Bool) (hn : (pre ++ b :: r).length = l.length) (i : Nat) (hi : pre.length = i) (tk : List Int) (htk : tk.length ≤ i) (L B : Nat) (hL : L < 4096) (hB : B < 256) (hlt : i < l.length) (k : Nat) :
    ∃ L' B' : Int, kimberliteref05_Best.l1 (k + 2) l wo best most (num (pre ++ b :: r) : Int) tk true L B (i : Int) =
      if b = false then kimberliteref05_Best.l1 k l wo best most (num (pre ++ b :: r) : Int) tk true L B ((i + 1 : Nat) : Int)
      else if nok wo L B (toOf l[i]) then kimberliteref05_Best.l1 k l wo best most (num (pre ++ b :: r) : Int) (tk ++ [(i : Int)]) true ((L ||| (toOf l[i]).l : Nat) : Int) ((B ||| 2 ^ (toOf l[i]).b : Nat) : Int) ((i + 1 : Nat) : Int)
      else kimberliteref05_Best.l1 k l wo best most (num (pre ++ b :: r) : Int) (tk ++ [(i : Int)]) false L' B' ((i + 1 : Nat) : Int) := by
  have ho := hv.2 l[i] (List.getElem_mem hlt)
  have hl16 := hv.1
  obtain ⟨k1, k2, k3, k4, k5⟩ := bOk_nok wo L B l[i] hL hB ho
  have hnl : num (pre ++ b :: r) < 2 ^ 16 := by have := num_lt (pre ++ b :: r); have h2 : 2 ^ (pre ++ b :: r).length ≤ 2 ^ 16 := Nat.pow_le_pow_right (by decide) (by omega); omega
  have ef0 : l[i].f0 = ((l[i].f0.toNat : Nat) : Int) := by omega
  have esh : shl .i64 1 l[i].f0 = ((2 ^ l[i].f0.toNat : Nat) : Int) := by rw [ef0, shl_pow _ (by omega)]; rfl
  have esr : Int.tmod (shr .i64 (B : Int) l[i].f0) 2 = ((B / 2 ^ l[i].f0.toNat % 2 : Nat) : Int) := by
    conv => lhs; rw [ef0]
    rw [shr_pow _ _ (by omega), tmod2]
  have k3' : bits .or .i64 (B : Int) ((2 ^ l[i].f0.toNat : Nat) : Int) = ((B ||| 2 ^ (toOf l[i]).b : Nat) : Int) := by rw [← k3, pow8 _ (by omega)]
  have e1 : bits .and .i64 (L : Int) l[i].f1 = ((L &&& (toOf l[i]).l : Nat) : Int) := by
    have : l[i].f1 = ((l[i].f1.toNat : Nat) : Int) := by omega
    conv => lhs; rw [this]
    rw [(bits63 L l[i].f1.toNat (by omega) (by omega)).1]; rfl
  have hrl : (r.length : Int) = (l.length : Int) - 1 - (i : Int) := by simp at hn; omega
  have ew : wrap64 (wrap64 ((l.length : Int) - 1) - (i : Int)) = (r.length : Int) := by unfold wrap64; omega
  have hr15 : r.length ≤ 62 := by simp at hn; omega
  have eb : Int.tmod (shr .i64 (num (pre ++ b :: r) : Int) (r.length : Int)) 2 = if b = true then 1 else 0 := by
    rw [shr_pow _ _ hr15, tmod2, num_bit pre b r]; split <;> rfl
  refine ⟨((L ||| (toOf l[i]).l : Nat) : Int), ((B ||| 2 ^ (toOf l[i]).b : Nat) : Int), ?_⟩
  simp only [kimberliteref05_Best.l1, kimberliteref05_Best.j2]
  rw [if_pos (by omega), if_pos trivial, ew, if_pos (by omega), eb, w64 i (by omega)]
  cases b with
  | false => simp
  | true =>
    rw [if_neg (show ¬ ((if true = true then (1 : Int) else 0) = 0) by decide), if_neg (show ¬ (true = false) by decide), if_pos (by omega), if_pos (by omega), rd_get l i hlt, esh, esr, bit_mod, k2, k3', e1]
    by_cases c0 : l[i].f0 = wo
    · rw [if_pos c0, if_pos ho.1, if_pos (by omega), if_neg (fun h => h.1 (by simp only [toOf]; omega))]
    · rw [if_neg c0]
      by_cases c1 : L &&& (toOf l[i]).l = 0
      · rw [if_pos (by rw [c1]; rfl), if_pos ho.1, if_pos (by omega)]
        by_cases c2 : B.testBit l[i].f0.toNat = true
        · rw [if_pos c2, if_neg (fun h => by have := h.2.2; simp only [toOf] at this; rw [c2] at this; cases this)]; rfl
        · rw [if_neg c2, if_pos ⟨by simp only [toOf]; omega, c1, by simp only [toOf]; simpa using c2⟩]; rfl
      · rw [if_neg (by omega), if_pos ho.1, if_pos (by omega), if_neg (fun h => c1 h.2.1)]
theorem Ev.step2 {α : Type} {g f : Nat → Option α} {r : α} (h : ∀ k, g (k + 2) = f k) (k : Ev f r) : Ev g r := by
  refine Ev.step (f := fun k => g (k + 1)) (fun _ => rfl) (Ev.step (f := f) (fun k => h k) k)
/-- From an offer on: where the choice stands to the end, it is looked at; else the next set comes. -/
theorem ev_l1 (l : List S50) (hv : bValid l) (wo : Int) (best : List Int) (most : Int) (a : List Int × Int) : ∀ (s pre : List Bool) (i L B : Nat), (pre ++ s).length = l.length → pre.length = i → L < 4096 → B < 256 →
    (feas wo ((l.drop i).map toOf) s L B → feas (-1) (l.map toOf) (pre ++ s) 0 0) →
    (if feas wo ((l.drop i).map toOf) s L B then Ev (fun k => if ((val (l.map toOf) (pre ++ s) : Nat) : Int) > most then kimberliteref05_Best.l0 k l wo (idx 0 (pre ++ s)) ((val (l.map toOf) (pre ++ s) : Nat) : Int) (wrap64 ((num (pre ++ s) : Int) - 1)) else kimberliteref05_Best.l0 k l wo best most (wrap64 ((num (pre ++ s) : Int) - 1))) a
      else Ev (fun k => kimberliteref05_Best.l0 k l wo best most (wrap64 ((num (pre ++ s) : Int) - 1))) a) →
    Ev (fun k => kimberliteref05_Best.l1 k l wo best most (num (pre ++ s) : Int) (idx 0 pre) true L B (i : Int)) a
  | [], pre, i, L, B, hn, hi, hL, hB, hf, hr => by
    have hd : l.drop i = [] := List.drop_of_length_le (by simp at hn; omega)
    rw [hd] at hr hf
    rw [if_pos (by trivial)] at hr
    have hfe := hf (by trivial)
    rw [List.append_nil] at hr hn hfe ⊢
    have hc := ev_Choice l hv pre hn
    refine Ev.step2 (f := fun k => (kimberliteref05_Choice.f k l (idx 0 pre)).bind fun bt186 => (if bt186.1 > most then (kimberliteref05_Best.l0 k l wo (idx 0 pre) bt186.1 (wrap64 ((num pre : Int) - 1))) else (kimberliteref05_Best.l0 k l wo best most (wrap64 ((num pre : Int) - 1))))) (fun k => ?_) (Ev.bind hc ?_)
    · simp only [kimberliteref05_Best.l1, kimberliteref05_Best.j2]
      rw [if_neg (by omega), if_neg (by simp)]; simp
    · simp only [if_pos hfe]; exact hr
  | b :: r, pre, i, L, B, hn, hi, hL, hB, hf, hr => by
    have hlt : i < l.length := by simp at hn; omega
    have hd : l.drop i = l[i] :: l.drop (i + 1) := List.drop_eq_getElem_cons hlt
    have ho := hv.2 l[i] (List.getElem_mem hlt)
    obtain ⟨k1, k2, k3, k4, k5⟩ := bOk_nok wo L B l[i] hL hB ho
    have htk : (idx 0 pre).length ≤ i := by rw [← hi]; exact idx_len pre 0
    have hrd := fun k => best_round l hv wo best most pre b r hn i hi (idx 0 pre) htk L B hL hB hlt k
    rw [hd, List.map_cons] at hf hr
    have hpe : pre ++ b :: r = (pre ++ [b]) ++ r := by simp
    cases b with
    | false =>
      have ih := ev_l1 l hv wo best most a r (pre ++ [false]) (i + 1) L B (by rw [← hpe]; exact hn) (by simp; omega) hL hB (fun h => by rw [← hpe]; exact hf h) (by rw [← hpe]; exact hr)
      rw [← hpe] at ih
      have hx : idx 0 (pre ++ [false]) = idx 0 pre := by rw [idx_app]; simp [idx]
      rw [hx] at ih
      refine Ev.step2 (fun k => ?_) ih
      obtain ⟨L', B', e⟩ := hrd k
      rw [e, if_pos rfl]
    | true =>
      have hx : idx 0 (pre ++ [true]) = idx 0 pre ++ [(i : Int)] := by rw [idx_app]; simp [idx, hi]
      by_cases hk : nok wo L B (toOf l[i])
      · have hff : feas wo (toOf l[i] :: List.map toOf (List.drop (i + 1) l)) (true :: r) L B ↔ feas wo (List.map toOf (List.drop (i + 1) l)) r (L ||| (toOf l[i]).l) (B ||| 2 ^ (toOf l[i]).b) := ⟨fun h => h.2, fun h => ⟨hk, h⟩⟩
        have ih := ev_l1 l hv wo best most a r (pre ++ [true]) (i + 1) (L ||| (toOf l[i]).l) (B ||| 2 ^ (toOf l[i]).b) (by rw [← hpe]; exact hn) (by simp; omega) k4 k5 (fun h => by rw [← hpe]; exact hf (hff.2 h)) (by
          rw [← hpe]
          by_cases c : feas wo (List.map toOf (List.drop (i + 1) l)) r (L ||| (toOf l[i]).l) (B ||| 2 ^ (toOf l[i]).b)
          · rw [if_pos c]; rw [if_pos (hff.2 c)] at hr; exact hr
          · rw [if_neg c]; rw [if_neg (fun h => c (hff.1 h))] at hr; exact hr)
        rw [← hpe, hx] at ih
        refine Ev.step2 (fun k => ?_) ih
        obtain ⟨L', B', e⟩ := hrd k
        rw [e, if_neg (by decide), if_pos hk]
      · rw [if_neg (fun h => hk h.1)] at hr
        have hst : ∀ L' B' : Int, ∀ k, kimberliteref05_Best.l1 (k + 2) l wo best most (num (pre ++ true :: r) : Int) (idx 0 pre ++ [(i : Int)]) false L' B' ((i + 1 : Nat) : Int) = kimberliteref05_Best.l0 k l wo best most (wrap64 ((num (pre ++ true :: r) : Int) - 1)) := fun L' B' k => by
          simp only [kimberliteref05_Best.l1, kimberliteref05_Best.j2]
          by_cases c : ((i + 1 : Nat) : Int) < (l.length : Int)
          · rw [if_pos c]; simp
          · rw [if_neg c]; simp
        obtain ⟨K, hK⟩ := hr
        refine ⟨K + 4, fun k hk4 => ?_⟩
        obtain ⟨m, rfl⟩ : ∃ m, k = m + 2 + 2 := ⟨k - 4, by omega⟩
        obtain ⟨L', B', e⟩ := hrd (m + 2)
        dsimp only
        rw [e, if_neg (by decide), if_neg hk, hst]
        exact hK m (by omega)
end Go.Proofs.Ythfdjccdelbeeaa.PT
end
section
namespace Go.Proofs.Ythfdjccdelbeeaa.PT
open Go.RowKit Go.Proofs.YthfdjccdelbeeaaW.PrintWords Go.Proofs.YthfdjccdelbeeaaW.PrintLast Go.Proofs.YthfdjccdelbeeaaW.PrintMore Go.Proofs.Ythfdjccdelbeeaa.TPl
set_option linter.unusedVariables false
def BInvP (wo : Int) (os : List Of) (m : Nat) (best : List Int) (most : Int) : Prop :=
  (best = [] ∧ most = -1 ∧ ∀ t, feas wo os t 0 0 → num t < m) ∨ ∃ s, feas wo os s 0 0 ∧ m ≤ num s ∧ best = idx 0 s ∧ most = ((val os s : Nat) : Int) ∧ ∀ t, feas wo os t 0 0 → m ≤ num t → val os t < val os s ∨ (val os t = val os s ∧ num t ≤ num s)
theorem ev_l0 (l : List S50) (hv : bValid l) (wo : Int) (sb : List Bool) (hb : IsBest wo (l.map toOf) 0 0 sb) : ∀ (m : Nat) (best : List Int) (most : Int), m ≤ 2 ^ l.length → BInvP wo (l.map toOf) m best most →
    Ev (fun k => kimberliteref05_Best.l0 k l wo best most ((m : Int) - 1)) (idx 0 sb, ((val (l.map toOf) sb : Nat) : Int))
  | 0, best, most, _, hI => by
    rcases hI with ⟨_, _, h⟩ | ⟨s, hs, _, rfl, rfl, h⟩
    · exact absurd (h _ (feas_none wo (l.map toOf) 0 0)) (by omega)
    · have : s = sb := IsBest.uniq ⟨hs, fun t ht => h t ht (Nat.zero_le _)⟩ hb
      subst this
      refine Ev.here fun k => ?_
      simp only [kimberliteref05_Best.l0]
      rw [if_neg (by omega)]
  | m + 1, best, most, hm, hI => by
    have hl16 := hv.1
    have h16 : 2 ^ l.length ≤ 2 ^ 16 := Nat.pow_le_pow_right (by decide) hl16
    have hsl := ofNum_len l.length m
    have hsn := num_ofNum l.length m (by omega)
    generalize hS : ofNum l.length m = s at hsl hsn
    have hw : wrap64 ((num ([] ++ s) : Int) - 1) = (m : Int) - 1 := by rw [List.nil_append, hsn]; unfold wrap64; omega
    refine Ev.step (f := fun k => kimberliteref05_Best.l1 k l wo best most (num ([] ++ s) : Int) (idx 0 []) true 0 0 ((0 : Nat) : Int)) (fun k => ?_) ?_
    · simp only [kimberliteref05_Best.l0]
      rw [if_pos (by omega), List.nil_append, hsn, show ((m + 1 : Nat) : Int) - 1 = (m : Int) from by omega]; rfl
    · refine ev_l1 l hv wo best most _ s [] 0 0 0 (by simpa using hsl) rfl (by decide) (by decide) (fun h => by simpa using feas_any wo _ _ _ _ h) ?_
      rw [hw]
      simp only [List.drop_zero, List.nil_append]
      have uniq : ∀ t, feas wo (l.map toOf) t 0 0 → num t = m → t = s := fun t ht he => num_inj _ _ (by rw [feas_len _ _ _ _ _ ht, hsl]; simp) (by rw [he, hsn])
      by_cases c : feas wo (l.map toOf) s 0 0
      · rw [if_pos c]
        have hyes : ∀ most', BInvP wo (l.map toOf) m (idx 0 s) most' → most' = ((val (l.map toOf) s : Nat) : Int) → Ev (fun k => kimberliteref05_Best.l0 k l wo (idx 0 s) ((val (l.map toOf) s : Nat) : Int) ((m : Int) - 1)) (idx 0 sb, ((val (l.map toOf) sb : Nat) : Int)) := fun most' h e => by
          subst e; exact ev_l0 l hv wo sb hb m _ _ (by omega) h
        by_cases g : ((val (l.map toOf) s : Nat) : Int) > most
        · simp only [if_pos g]
          refine hyes _ (Or.inr ⟨s, c, by omega, rfl, rfl, fun t ht hmt => ?_⟩) rfl
          by_cases e : num t = m
          · rw [uniq t ht e]; right; exact ⟨rfl, Nat.le_refl _⟩
          · rcases hI with ⟨_, _, h⟩ | ⟨s', hs', _, _, rfl, h⟩
            · have := h t ht; omega
            · have := h t ht (by omega); omega
        · simp only [if_neg g]
          refine ev_l0 l hv wo sb hb m _ _ (by omega) ?_
          rcases hI with ⟨_, rfl, h⟩ | ⟨s', hs', hn', rfl, rfl, h⟩
          · exact absurd g (by omega)
          · refine Or.inr ⟨s', hs', by omega, rfl, rfl, fun t ht hmt => ?_⟩
            by_cases e : num t = m
            · rw [uniq t ht e, hsn]; omega
            · exact h t ht (by omega)
      · rw [if_neg c]
        refine ev_l0 l hv wo sb hb m _ _ (by omega) ?_
        rcases hI with ⟨e1, e2, h⟩ | ⟨s', hs', hn', e1, e2, h⟩
        · refine Or.inl ⟨e1, e2, fun t ht => ?_⟩
          have := h t ht
          by_cases e : num t = m
          · exact absurd (uniq t ht e ▸ ht) c
          · omega
        · refine Or.inr ⟨s', hs', by omega, e1, e2, fun t ht hmt => ?_⟩
          by_cases e : num t = m
          · exact absurd (uniq t ht e ▸ ht) c
          · exact h t ht (by omega)
/-- The best choice, for the program and for the specification. -/
theorem best_both (l : List S50) (hv : bValid l) (wo : Int) : ∃ s, IsBest wo (l.map toOf) 0 0 s ∧ tender_best.f l wo = some (idx 0 s, ((val (l.map toOf) s : Nat) : Int)) ∧ Ev (fun k => kimberliteref05_Best.f k l wo) (idx 0 s, ((val (l.map toOf) s : Nat) : Int)) := by
  obtain ⟨s, hs, e⟩ := best_spec l wo hv
  refine ⟨s, hs, e, ?_⟩
  have hl16 := hv.1
  have h16 : 2 ^ l.length ≤ 2 ^ 16 := Nat.pow_le_pow_right (by decide) hl16
  have h0 : 0 < 2 ^ l.length := Nat.pow_pos (by decide)
  have h := ev_l0 l hv wo s hs (2 ^ l.length) [] (-1) (Nat.le_refl _) (Or.inl ⟨rfl, rfl, fun t ht => by have := num_lt t; rw [feas_len _ _ _ _ _ ht] at this; simpa using this⟩)
  refine Ev.congr (fun k => ?_) h
  simp only [kimberliteref05_Best.f]
  rw [shl_pow _ (by omega)]
  congr 1
  generalize 2 ^ l.length = M at *
  unfold wrap64; omega
/-- What Best answers. -/
theorem ev_BestOk (lots : Int) (l : List S50) (hv : Vld lots l) : ∃ s, IsBest (-1) (l.map toOf) 0 0 s ∧ tender_best.f l (-1) = some (idx 0 s, ((val (l.map toOf) s : Nat) : Int)) ∧ Ev (fun k => tender_Best.f k lots l) (idx 0 s, ((val (l.map toOf) s : Nat) : Int), 0) := by
  obtain ⟨s, hs, e, _⟩ := best_both l hv.bv (-1)
  refine ⟨s, hs, e, ?_⟩
  unfold tender_Best.f
  have hc := ev_checked lots l
  rw [errS_zero.2 hv] at hc
  refine Ev.bind hc ?_
  simp only [if_true, e]
  exact Ev.now _
theorem idx_mem : ∀ (s : List Bool) (i : Nat) (x : Int), x ∈ idx (i : Int) s → ∃ j : Nat, x = (j : Int) ∧ i ≤ j ∧ j < i + s.length ∧ s[j - i]? = some true
  | [], i, x, h => by simp [idx] at h
  | true :: s, i, x, h => by
    simp only [idx, List.mem_cons] at h
    rcases h with rfl | h
    · exact ⟨i, rfl, Nat.le_refl _, by simp, by simp⟩
    · rw [show (i : Int) + 1 = ((i + 1 : Nat) : Int) from by omega] at h
      obtain ⟨j, e, h1, h2, h3⟩ := idx_mem s (i + 1) x h
      refine ⟨j, e, by omega, by simp; omega, ?_⟩
      rw [show j - i = (j - (i + 1)) + 1 from by omega]; simpa using h3
  | false :: s, i, x, h => by
    simp only [idx] at h
    rw [show (i : Int) + 1 = ((i + 1 : Nat) : Int) from by omega] at h
    obtain ⟨j, e, h1, h2, h3⟩ := idx_mem s (i + 1) x h
    refine ⟨j, e, by omega, by simp; omega, ?_⟩
    rw [show j - i = (j - (i + 1)) + 1 from by omega]; simpa using h3
/-- The worth without a buyer. -/
def worthWo (l : List S50) (wo : Int) : Int := ((tender_best.f l wo).getD ([], 0)).2
/-- What is paid for an offer that is taken. -/
def payS (l : List S50) (v : Int) (i : Int) : Int := worthWo l (rd_T50 l i).f0 - (v - (rd_T50 l i).f2)
theorem tot_bd (l : List S50) (hv : bValid l) : (tot (l.map toOf) : Int) ≤ 17179869184 := by
  have := bSum_bd l (fun o ho => by have := hv.2 o ho; omega)
  have e := bSum_tot l (fun o ho => (hv.2 o ho).2.2.2.2.1)
  have := hv.1
  omega
theorem worthWo_bd (l : List S50) (hv : bValid l) (wo : Int) : 0 ≤ worthWo l wo ∧ worthWo l wo ≤ 17179869184 := by
  obtain ⟨s, hs, e, _⟩ := best_both l hv wo
  have := val_le (l.map toOf) s
  have := tot_bd l hv
  simp only [worthWo, e, Option.getD_some]
  omega
theorem ev_Decide_l (l : List S50) (hv : bValid l) (v : Int) (hv0 : 0 ≤ v) (hv1 : v ≤ 17179869184) (T : List Int) (hT : ∀ x ∈ T, ∃ j : Nat, x = (j : Int) ∧ j < l.length) (hTl : T.length ≤ 16) (t0 : List Int) (w0 : Int) : ∀ (d i : Nat) (pays : List Int), i + d = T.length → pays.length = i →
    Ev (fun k => tender_Decide.l0 k l v T (T.length : Int) (i : Int) t0 pays w0) (t0, pays ++ (T.drop i).map (payS l v), w0, 0)
  | 0, i, pays, h, hp => Ev.here fun k => by
      simp only [tender_Decide.l0]
      rw [if_neg (by omega), List.drop_of_length_le (by omega)]; simp
  | d + 1, i, pays, h, hp => by
      have hi : i < T.length := by omega
      obtain ⟨j, ej, hj⟩ := hT T[i] (List.getElem_mem hi)
      have erd : rd T (i : Int) = (j : Int) := by simp [rd, hi, ej]
      have ho := hv.2 l[j] (List.getElem_mem hj)
      obtain ⟨s, hs, e, _⟩ := best_both l hv l[j].f0
      have hb := worthWo_bd l hv l[j].f0
      have hw : worthWo l l[j].f0 = ((val (l.map toOf) s : Nat) : Int) := by simp only [worthWo, e, Option.getD_some]
      have ih := ev_Decide_l l hv v hv0 hv1 T hT hTl t0 w0 d (i + 1) (pays ++ [payS l v T[i]]) (by omega) (by simp [hp])
      rw [List.drop_eq_getElem_cons hi, List.map_cons]
      rw [List.append_assoc] at ih
      refine Ev.step (fun k => ?_) ih
      simp only [tender_Decide.l0, erd]
      rw [if_pos (by omega), if_pos (by omega), if_pos (by omega), if_pos (by omega), if_pos (by omega), rd_get l j hj, e]
      simp only [Option.bind_some]
      rw [if_pos (by omega), w64 i (by omega)]
      have : wrap64 (((val (l.map toOf) s : Nat) : Int) - wrap64 (v - l[j].f2)) = payS l v T[i] := by
        simp only [payS, ej, rd_get l j hj, hw]
        rw [hw] at hb
        unfold wrap64; omega
      rw [this]
theorem ev_DecideOk (lots : Int) (l : List S50) (hv : Vld lots l) : ∃ s, IsBest (-1) (l.map toOf) 0 0 s ∧ tender_best.f l (-1) = some (idx 0 s, ((val (l.map toOf) s : Nat) : Int)) ∧
    Ev (fun k => tender_Decide.f k lots l) (idx 0 s, (idx 0 s).map (payS l ((val (l.map toOf) s : Nat) : Int)), ((val (l.map toOf) s : Nat) : Int), 0) := by
  obtain ⟨s, hs, e, hB⟩ := ev_BestOk lots l hv
  refine ⟨s, hs, e, ?_⟩
  unfold tender_Decide.f
  refine Ev.bind hB ?_
  simp only [if_true]
  have hsl := feas_len _ _ _ _ _ hs.1
  simp only [List.length_map] at hsl
  have hl16 := hv.bv.1
  have := val_le (l.map toOf) s
  have := tot_bd l hv.bv
  have hil := idx_len s 0
  have := ev_Decide_l l hv.bv ((val (l.map toOf) s : Nat) : Int) (by omega) (by omega) (idx 0 s) (fun x hx => by obtain ⟨j, e, _, h2, _⟩ := idx_mem s 0 x hx; exact ⟨j, e, by omega⟩) (by omega) (idx 0 s) ((val (l.map toOf) s : Nat) : Int) (idx 0 s).length 0 [] (by omega) rfl
  simpa using this
end Go.Proofs.Ythfdjccdelbeeaa.PT
end
section
namespace Go.Proofs.Ythfdjccdelbeeaa.PT
open Go.RowKit Go.Proofs.YthfdjccdelbeeaaW.PrintWords Go.Proofs.YthfdjccdelbeeaaW.PrintLast Go.Proofs.YthfdjccdelbeeaaW.PrintMore
set_option linter.unusedVariables false
set_option linter.unusedSimpArgs false
theorem lit_R {α : Type} (d : Kd α) (e : Nat) (W : World) {xs : List α} {inner : List Value} {okp : Nat → Prop} (hrep : Reps (d.M W W.heap.size okp) d.sz xs inner) (hm : xs.length ≤ 9223372036854775807) :
    d.R e (W.alloc (.cells inner.toArray e)) W.heap.size (fun _ => True) (.slice (some ⟨W.heap.size, 0, none⟩) xs.length xs.length) xs := by
  refine ⟨fun k hk => trivial, inner, ?_, ?_⟩
  · have h2 := World.ownsRow_lit (base := W.heap.size) (e := e) (size := d.sz) W inner.toArray xs.length (Nat.le_refl _) (by simpa [maxLen] using hm) (by simpa using hrep.1)
    simpa using h2
  · refine hrep.imp_ (fun p c hp => d.M_mono (fun k hk => ⟨trivial, fun he => ?_⟩) (Kd.M_below (d.M_bound hp) (below_alloc (Below.refl _ _) _)))
    have h3 : k = W.heap.size := by simpa [Value.ownBlock] using he
    have := hk.2.2.1
    omega
def awO : List S50 := [(⟨0, 1, 10⟩ : S50), (⟨1, 3, 8⟩ : S50), (⟨2, 2, 5⟩ : S50)]
theorem aw_best : (tender_Best.f 20 2 awO).map (fun r => (r.2.1, r.2.2)) = some (15, 0) := by kernel_rfl
set_option maxHeartbeats 12800000 in
set_option maxRecDepth 100000 in
theorem awarded_c (w : World) : Calls Try.prog 48 #[] w fun e w' => e = .returned (.bool true) ∧ Below w.heap.size w w' := by
  have hu50 := Try.underlying50
  obtain ⟨⟨r1, r2, r3⟩, hB, hq⟩ := Option.map_eq_some_iff.1 aw_best
  injection hq with h2 h3
  simp only at h2 h3
  subst h2 h3
  have HBB := lhid hB
  clear hB
  go_enter Try.func48, Try.ntmps48
  go_wp2_with fail
  have hl0 := lit_R k50 50 w (xs := awO) (inner := [.int .i64 0, .int .i64 1, .int .i64 10, .int .i64 1, .int .i64 3, .int .i64 8, .int .i64 2, .int .i64 2, .int .i64 5]) (okp := fun _ => True) (Reps.c3 (show Kd.M k50 _ _ _ (⟨0, 1, 10⟩ : S50) [.int .i64 0, .int .i64 1, .int .i64 10] from (k50_mkM _ _ _ (⟨0, 1, 10⟩ : S50))) (Reps.c3 (show Kd.M k50 _ _ _ (⟨1, 3, 8⟩ : S50) [.int .i64 1, .int .i64 3, .int .i64 8] from (k50_mkM _ _ _ (⟨1, 3, 8⟩ : S50))) (Reps.c3 (show Kd.M k50 _ _ _ (⟨2, 2, 5⟩ : S50) [.int .i64 2, .int .i64 2, .int .i64 5] from (k50_mkM _ _ _ (⟨2, 2, 5⟩ : S50))) (Reps.none _ _)))) (by decide)
  have HO := lhid (show Kd.R k50 50 (w.alloc (.cells #[.int .i64 0, .int .i64 1, .int .i64 10, .int .i64 1, .int .i64 3, .int .i64 8, .int .i64 2, .int .i64 2, .int .i64 5] 50)) w.heap.size (fun _ => True) (.slice (some ⟨w.heap.size, 0, none⟩) 3 3) awO from hl0)
  have HB := lhid (below_alloc (Below.refl w.heap.size w) (.cells #[.int .i64 0, .int .i64 1, .int .i64 10, .int .i64 1, .int .i64 3, .int .i64 8, .int .i64 2, .int .i64 2, .int .i64 5] 50))
  clear hl0
  generalize World.alloc w (.cells #[.int .i64 0, .int .i64 1, .int .i64 10, .int .i64 1, .int .i64 3, .int .i64 8, .int .i64 2, .int .i64 2, .int .i64 5] 50) = w10 at HO HB ⊢
  have hcl : Calls Try.prog 18 #[.int .i64 2, .slice (some ⟨w.heap.size, 0, none⟩) 3 3] w10 _ := tender_Best.calls 20 2 (some ⟨w.heap.size, 0, none⟩) 3 awO r1 15 0 w10 (Kd.R_reads' HO.out).2.2 (Kd.R_reads' HO.out).2.1 HBB.out
  with_reducible refine hcl.mono ?_
  rintro e w2 ⟨v0, rfl, hR, hb⟩
  have HB2 := lhid (below_then HB.out HB.out.size hb)
  clear hR hb hcl HO HB
  go_wp2_with fail
  go_ret
  exact ⟨rfl, HB2.out⟩
end Go.Proofs.Ythfdjccdelbeeaa.PT
end
section
namespace Go.Proofs.Ythfdjccdelbeeaa.Gm
open Go.Proofs.Ythfdjccdelbeeaa.TPl
set_option linter.unusedVariables false
def pk : List (Nat × Nat) → List Bool → List (Nat × Nat)
  | e :: ps, true :: s => e :: pk ps s
  | _ :: ps, false :: s => pk ps s
  | _, _ => []
def ofs (c : Nat) (ps : List (Nat × Nat)) : List Of := ps.map (fun e => ⟨e.1, 2 ^ e.2, c⟩)
theorem pk_sub : ∀ (ps : List (Nat × Nat)) (s : List Bool), ∀ e ∈ pk ps s, e ∈ ps
  | [], [], e, h => by simp [pk] at h
  | [], _ :: _, e, h => by simp [pk] at h
  | _ :: _, [], e, h => by simp [pk] at h
  | a :: ps, true :: s, e, h => by
    rcases List.mem_cons.1 h with q | q
    · rw [q]; simp
    · exact List.mem_cons_of_mem _ (pk_sub ps s e q)
  | a :: ps, false :: s, e, h => List.mem_cons_of_mem _ (pk_sub ps s e h)
theorem val_pk (c : Nat) : ∀ (ps : List (Nat × Nat)) (s : List Bool), val (ofs c ps) s = c * (pk ps s).length
  | [], [] => by simp [ofs, val, pk]
  | [], _ :: _ => by simp [ofs, val, pk]
  | _ :: _, [] => by simp [ofs, val, pk]
  | a :: ps, true :: s => by
    have := val_pk c ps s
    show c + val (ofs c ps) s = c * (pk ps s).length.succ
    rw [this, Nat.mul_succ]; omega
  | a :: ps, false :: s => val_pk c ps s
theorem and_pow (B b : Nat) : B &&& 2 ^ b = 0 ↔ B.testBit b = false := by
  constructor
  · intro h
    have := congrArg (fun x => x.testBit b) h
    simpa [Nat.testBit_and, Nat.testBit_two_pow_self] using this
  · intro h
    apply Nat.eq_of_testBit_eq
    intro i
    rw [Nat.testBit_and, Nat.testBit_two_pow, Nat.zero_testBit]
    by_cases e : b = i
    · subst e; rw [h]; rfl
    · simp [e]
/-- What a choice that may be taken is. -/
structure Fe (wo : Int) (ps : List (Nat × Nat)) (s : List Bool) (L B : Nat) : Prop where
  len : s.length = ps.length
  ok : ∀ e ∈ pk ps s, (e.1 : Int) ≠ wo ∧ B.testBit e.1 = false ∧ L.testBit e.2 = false
  n1 : ((pk ps s).map Prod.fst).Nodup
  n2 : ((pk ps s).map Prod.snd).Nodup
theorem bit_or (B b x : Nat) : (B ||| 2 ^ b).testBit x = false ↔ B.testBit x = false ∧ b ≠ x := by
  rw [Nat.testBit_or, Nat.testBit_two_pow, Bool.or_eq_false_iff, decide_eq_false_iff_not]
theorem feas_iff (c : Nat) (wo : Int) : ∀ (ps : List (Nat × Nat)) (s : List Bool) (L B : Nat), feas wo (ofs c ps) s L B ↔ Fe wo ps s L B
  | [], [], L, B => ⟨fun _ => ⟨rfl, fun e h => by simp [pk] at h, by simp [pk], by simp [pk]⟩, fun _ => trivial⟩
  | [], _ :: _, L, B => ⟨fun h => h.elim, fun h => by have := h.len; simp at this⟩
  | _ :: _, [], L, B => ⟨fun h => h.elim, fun h => by have := h.len; simp at this⟩
  | a :: ps, false :: s, L, B => by
    show feas wo (ofs c ps) s L B ↔ _
    rw [feas_iff c wo ps s L B]
    exact ⟨fun h => ⟨by simp [h.len], h.ok, h.n1, h.n2⟩, fun h => ⟨by have := h.len; simpa using this, h.ok, h.n1, h.n2⟩⟩
  | a :: ps, true :: s, L, B => by
    show nok wo L B ⟨a.1, 2 ^ a.2, c⟩ ∧ feas wo (ofs c ps) s (L ||| 2 ^ a.2) (B ||| 2 ^ a.1) ↔ _
    rw [feas_iff c wo ps s _ _]
    constructor
    · rintro ⟨⟨h1, h2, h3⟩, h⟩
      refine ⟨by simp [h.len], fun e he => ?_, ?_, ?_⟩
      · rcases List.mem_cons.1 he with q | q
        · rw [q]; exact ⟨h1, h3, (and_pow L a.2).1 h2⟩
        · have h4 := h.ok e q
          exact ⟨h4.1, ((bit_or _ _ _).1 h4.2.1).1, ((bit_or _ _ _).1 h4.2.2).1⟩
      · refine List.nodup_cons.2 ⟨fun q => ?_, h.n1⟩
        obtain ⟨e, he, q⟩ := List.mem_map.1 q
        exact ((bit_or _ _ _).1 (h.ok e he).2.1).2 q.symm
      · refine List.nodup_cons.2 ⟨fun q => ?_, h.n2⟩
        obtain ⟨e, he, q⟩ := List.mem_map.1 q
        exact ((bit_or _ _ _).1 (h.ok e he).2.2).2 q.symm
    · intro h
      have ha := h.ok a List.mem_cons_self
      have m1 := List.nodup_cons.1 h.n1
      have m2 := List.nodup_cons.1 h.n2
      refine ⟨⟨ha.1, (and_pow L a.2).2 ha.2.2, ha.2.1⟩, by have := h.len; simpa using this, fun e he => ?_, m1.2, m2.2⟩
      have h4 := h.ok e (List.mem_cons_of_mem _ he)
      exact ⟨h4.1, (bit_or _ _ _).2 ⟨h4.2.1, fun q => m1.1 (List.mem_map.2 ⟨e, he, q.symm⟩)⟩, (bit_or _ _ _).2 ⟨h4.2.2, fun q => m2.1 (List.mem_map.2 ⟨e, he, q.symm⟩)⟩⟩
theorem pick : ∀ (ps T : List (Nat × Nat)), T.Nodup → (∀ e ∈ T, e ∈ ps) → ∃ s : List Bool, s.length = ps.length ∧ (pk ps s).Perm T
  | [], T, hn, h => ⟨[], rfl, by
    have : T = [] := List.eq_nil_iff_forall_not_mem.2 (fun e he => by have := h e he; simp at this)
    rw [this]; exact List.Perm.refl _⟩
  | a :: ps, T, hn, h => by
    by_cases ha : a ∈ T
    · obtain ⟨s, h1, h2⟩ := pick ps (T.erase a) (hn.erase a) (fun e he => by
        have h3 := (hn.mem_erase_iff).1 he
        rcases List.mem_cons.1 (h e h3.2) with q | q
        · exact absurd q h3.1
        · exact q)
      exact ⟨true :: s, by simp [h1], (h2.cons a).trans (List.perm_cons_erase ha).symm⟩
    · obtain ⟨s, h1, h2⟩ := pick ps T hn (fun e he => by
        rcases List.mem_cons.1 (h e he) with q | q
        · rw [q] at he; exact absurd he ha
        · exact q)
      exact ⟨false :: s, by simp [h1], h2⟩
theorem nodup_of_fst {T : List (Nat × Nat)} (h : (T.map Prod.fst).Nodup) : T.Nodup := List.Pairwise.of_map Prod.fst (fun a b q e => q (by rw [e])) h
theorem pick_fe {wo : Int} {ps T : List (Nat × Nat)} (h1 : (T.map Prod.fst).Nodup) (h2 : (T.map Prod.snd).Nodup) (hs : ∀ e ∈ T, e ∈ ps ∧ (e.1 : Int) ≠ wo) : ∃ s, Fe wo ps s 0 0 ∧ (pk ps s).length = T.length := by
  obtain ⟨s, a, b⟩ := pick ps T (nodup_of_fst h1) (fun e he => (hs e he).1)
  exact ⟨s, ⟨a, fun e he => ⟨(hs e (b.mem_iff.1 he)).2, by simp, by simp⟩, ((b.map Prod.fst).nodup_iff).2 h1, ((b.map Prod.snd).nodup_iff).2 h2⟩, b.length_eq⟩
theorem best_len {c : Nat} (hc : 0 < c) {wo : Int} {ps : List (Nat × Nat)} {s t : List Bool} (hb : IsBest wo (ofs c ps) 0 0 s) (ht : Fe wo ps t 0 0) : (pk ps t).length ≤ (pk ps s).length := by
  have h := hb.2 t ((feas_iff c wo ps t 0 0).2 ht)
  rw [val_pk, val_pk] at h
  have : c * (pk ps t).length ≤ c * (pk ps s).length := by omega
  exact Nat.le_of_mul_le_mul_left this hc
/-- Without a buyer: as many, or one less. -/
theorem best_wo {c : Nat} (hc : 0 < c) {b : Nat} {ps : List (Nat × Nat)} {s t : List Bool} (hs : IsBest (-1) (ofs c ps) 0 0 s) (ht : IsBest (b : Int) (ofs c ps) 0 0 t) : (pk ps t).length ≤ (pk ps s).length ∧ (pk ps s).length ≤ (pk ps t).length + 1 := by
  have fs := (feas_iff c _ ps s 0 0).1 hs.1
  have ft := (feas_iff c _ ps t 0 0).1 ht.1
  refine ⟨best_len hc hs ⟨ft.len, fun e he => ⟨by omega, by simp, by simp⟩, ft.n1, ft.n2⟩, ?_⟩
  obtain ⟨u, hu, hl⟩ := pick_fe (wo := (b : Int)) (ps := ps) (T := (pk ps s).filter (fun e => decide (e.1 ≠ b))) (nodup_fil _ fs.n1) (nodup_fil _ fs.n2) (fun e he => by
    obtain ⟨h1, h2⟩ := List.mem_filter.1 he
    have h3 : e.1 ≠ b := by simpa using h2
    exact ⟨pk_sub ps s e h1, by omega⟩)
  have h1 := best_len hc ht hu
  have h2 := less_one Prod.fst b (pk ps s) fs.n1
  omega
/-- The edges of the offers; those of one buyer left out. -/
def eds (n : Nat) (wo : Int) (ps : List (Nat × Nat)) : List (Nat × Nat) := (ps.map (fun e => (e.1, n + e.2))).filter (fun e => decide ((e.1 : Int) ≠ wo))
theorem eds_mem {n : Nat} {wo : Int} {ps : List (Nat × Nat)} {x y : Nat} : (x, y) ∈ eds n wo ps ↔ (x : Int) ≠ wo ∧ ∃ k, y = n + k ∧ (x, k) ∈ ps := by
  unfold eds
  rw [List.mem_filter, List.mem_map]
  constructor
  · rintro ⟨⟨e, he, q⟩, h⟩
    injection q with q1 q2
    exact ⟨by simpa using h, e.2, q2.symm, by rw [← q1]; exact he⟩
  · rintro ⟨h, k, rfl, hk⟩
    exact ⟨⟨(x, k), hk, rfl⟩, by simpa using h⟩
theorem eds_bip {n m : Nat} {wo : Int} {ps : List (Nat × Nat)} (h : ∀ e ∈ ps, e.1 < n ∧ e.2 < m) : Bip (n + m) n (Ged (eds n wo ps)) := by
  refine ⟨fun u v q => ?_, fun u v q => ?_, fun u v q => ?_⟩
  · rw [ged_iff] at q ⊢; exact q.symm
  · rcases ged_iff.1 q with q | q
    · obtain ⟨_, k, _, hk⟩ := eds_mem.1 q
      have := h _ hk; simp only at this; omega
    · obtain ⟨_, k, e, hk⟩ := eds_mem.1 q
      have := h _ hk; simp only at this; omega
  · rcases ged_iff.1 q with q | q
    · obtain ⟨_, k, e, hk⟩ := eds_mem.1 q
      have := h _ hk; simp only at this; omega
    · obtain ⟨_, k, e, hk⟩ := eds_mem.1 q
      have := h _ hk; simp only at this; omega
theorem best_prs {c n m : Nat} (hc : 0 < c) {wo : Int} {ps : List (Nat × Nat)} {s : List Bool} {m0 : Nat → Nat} (h : ∀ e ∈ ps, e.1 < n ∧ e.2 < m) (hb : IsBest wo (ofs c ps) 0 0 s) (hm : Mat (n + m) (Ged (eds n wo ps)) m0) (hx : Mx (Ged (eds n wo ps)) n (nprs (n + m) n m0)) : (pk ps s).length = nprs (n + m) n m0 := by
  have fs := (feas_iff c _ ps s 0 0).1 hb.1
  apply Nat.le_antisymm
  · have h1 := hx ((pk ps s).map (fun e => (e.1, n + e.2))) ⟨fun e he => by
      obtain ⟨a, ha, q⟩ := List.mem_map.1 he
      subst q
      exact ⟨(h a (pk_sub ps s a ha)).1, ged_iff.2 (Or.inl (eds_mem.2 ⟨(fs.ok a ha).1, a.2, rfl, pk_sub ps s a ha⟩))⟩, by
      rw [List.map_map]; exact fs.n1, by
      rw [List.map_map]
      have := nodup_map (f := fun k => n + k) (l := (pk ps s).map Prod.snd) (fun a _ b _ q => by omega) fs.n2
      rw [List.map_map] at this
      exact this⟩
    rwa [List.length_map] at h1
  · have hp := prs_ok (Nat.le_add_right n m) hm
    have key : ∀ e ∈ prs (n + m) n m0, ∃ k, e.2 = n + k ∧ (e.1, k) ∈ ps ∧ (e.1 : Int) ≠ wo := fun e he => by
      obtain ⟨h1, h2⟩ := hp.ok e he
      rcases ged_iff.1 h2 with q | q
      · obtain ⟨q1, k, q2, q3⟩ := eds_mem.1 q
        exact ⟨k, q2, q3, q1⟩
      · obtain ⟨q1, k, q2, q3⟩ := eds_mem.1 q
        omega
    obtain ⟨u, hu, hl⟩ := pick_fe (wo := wo) (ps := ps) (T := (prs (n + m) n m0).map (fun e => (e.1, e.2 - n))) (by rw [List.map_map]; exact hp.n1) (by
      rw [List.map_map]
      have := nodup_map (f := fun y => y - n) (l := (prs (n + m) n m0).map Prod.snd) (fun a ha b hb q => by
        obtain ⟨ea, hea, qa⟩ := List.mem_map.1 ha
        obtain ⟨eb, heb, qb⟩ := List.mem_map.1 hb
        obtain ⟨ka, h1, _⟩ := key ea hea
        obtain ⟨kb, h2, _⟩ := key eb heb
        have q : a - n = b - n := q
        omega) hp.n2
      rw [List.map_map] at this
      exact this) (fun e he => by
      obtain ⟨a, ha, rfl⟩ := List.mem_map.1 he
      obtain ⟨k, h1, h2, h3⟩ := key a ha
      refine ⟨?_, h3⟩
      have : a.2 - n = k := by omega
      simp only [this]; exact h2)
    have h1 := best_len hc hb hu
    rw [hl, List.length_map, prs_len] at h1
    exact h1
end Go.Proofs.Ythfdjccdelbeeaa.Gm
end
section
namespace Go.Proofs.Ythfdjccdelbeeaa.PT
open Go.RowKit Go.Proofs.YthfdjccdelbeeaaW.PrintWords Go.Proofs.Ythfdjccdelbeeaa.Gm Go.Proofs.Ythfdjccdelbeeaa.TPl
set_option linter.unusedVariables false
def wps (n m : Nat) (l : List S103) : List (Nat × Nat) := l.map (fun x => (x.f0.toNat % n, x.f1.toNat % m))
def offS (c : Nat) (ps : List (Nat × Nat)) : List S50 := ps.map (fun e => ⟨(e.1 : Int), ((2 ^ e.2 : Nat) : Int), (c : Int)⟩)
theorem offS_of (c : Nat) (ps : List (Nat × Nat)) : (offS c ps).map toOf = ofs c ps := by
  unfold offS ofs
  rw [List.map_map]
  exact List.map_congr_left fun e _ => rfl
theorem offS_len (c : Nat) (ps : List (Nat × Nat)) : (offS c ps).length = ps.length := List.length_map _
theorem wps_ok {n m : Nat} (hn : 0 < n) (hm : 0 < m) (l : List S103) : ∀ e ∈ wps n m l, e.1 < n ∧ e.2 < m := fun e he => by
  obtain ⟨x, _, rfl⟩ := List.mem_map.1 he
  exact ⟨Nat.mod_lt _ hn, Nat.mod_lt _ hm⟩
theorem offS_vld {n m c : Nat} {ps : List (Nat × Nat)} (hn : n ≤ 8) (hm1 : 1 ≤ m) (hm : m ≤ 12) (hc1 : 1 ≤ c) (hc : c ≤ 65536) (hl : ps.length ≤ 16) (h : ∀ e ∈ ps, e.1 < n ∧ e.2 < m) : Vld (m : Int) (offS c ps) := by
  refine ⟨by omega, by omega, by rw [offS_len]; exact hl, fun o ho => ?_⟩
  obtain ⟨e, he, rfl⟩ := List.mem_map.1 ho
  obtain ⟨h1, h2⟩ := h e he
  have h3 := Nat.pow_lt_pow_right (show 1 < 2 by omega) h2
  have h4 := Nat.one_le_two_pow (n := e.2)
  rw [Int.toNat_natCast]
  simp only
  omega
theorem eds_all (n : Nat) (ps : List (Nat × Nat)) : eds n (-1) ps = ps.map (fun e => (e.1, n + e.2)) := by
  unfold eds
  rw [List.filter_eq_self]
  intro e he
  exact decide_eq_true (by omega)
theorem eds_wo (n b : Nat) (ps : List (Nat × Nat)) : eds n (b : Int) ps = (eds n (-1) ps).filter (fun e => decide (e.1 ≠ b)) := by
  rw [eds_all]
  unfold eds
  refine List.filter_congr fun e _ => ?_
  simp; omega
theorem idx_pk : ∀ (ps : List (Nat × Nat)) (s : List Bool) (i : Int), s.length = ps.length → (idx i s).length = (pk ps s).length
  | [], [], i, _ => rfl
  | [], _ :: _, i, h => by simp at h
  | _ :: _, [], i, h => by simp at h
  | a :: ps, true :: s, i, h => by
    show (i :: idx (i + 1) s).length = (a :: pk ps s).length
    rw [List.length_cons, List.length_cons, idx_pk ps s (i + 1) (by simpa using h)]
  | a :: ps, false :: s, i, h => idx_pk ps s (i + 1) (by simpa using h)
/-- What the tender decides: as many offers as there are pairs, and what each pays. -/
theorem decide_prs {n m c : Nat} {ps : List (Nat × Nat)} (hc1 : 1 ≤ c) (hv : Vld (m : Int) (offS c ps)) (h : ∀ e ∈ ps, e.1 < n ∧ e.2 < m) :
    ∃ (T : List Int) (V : Nat), (∃ k, tender_Decide.f k (m : Int) (offS c ps) = some (T, T.map (payS (offS c ps) (V : Int)), (V : Int), 0)) ∧ T.length ≤ ps.length ∧ ∀ m0 : Nat → Nat, Mat (n + m) (Ged (eds n (-1) ps)) m0 → Mx (Ged (eds n (-1) ps)) n (nprs (n + m) n m0) → T.length = nprs (n + m) n m0 ∧ V = c * nprs (n + m) n m0 ∧ nprs (n + m) n m0 ≤ ps.length ∧
      ∀ x ∈ T, ∃ (j : Nat) (b a : Nat), x = (j : Int) ∧ ps[j]? = some (b, a) ∧ ∀ m1 : Nat → Nat, Mat (n + m) (Ged (eds n (b : Int) ps)) m1 → Mx (Ged (eds n (b : Int) ps)) n (nprs (n + m) n m1) → nprs (n + m) n m1 ≤ nprs (n + m) n m0 ∧ nprs (n + m) n m0 ≤ nprs (n + m) n m1 + 1 ∧ payS (offS c ps) (V : Int) x = (c : Int) * ((nprs (n + m) n m1 : Int) - (nprs (n + m) n m0 : Int) + 1) := by
  obtain ⟨s, hs, _, hD⟩ := ev_DecideOk (m : Int) (offS c ps) hv
  rw [offS_of] at hs hD
  have fs := (feas_iff c _ ps s 0 0).1 hs.1
  have hle : (pk ps s).length ≤ ps.length := by
    rw [← idx_pk ps s 0 fs.len, ← fs.len]; exact idx_len s 0
  obtain ⟨k, hk⟩ := hD
  refine ⟨idx 0 s, val (ofs c ps) s, ⟨k, hk k (Nat.le_refl k)⟩, by rw [idx_pk ps s 0 fs.len]; exact hle, fun m0 hm hx => ?_⟩
  have hp := best_prs (by omega) h hs hm hx
  have hV : val (ofs c ps) s = c * nprs (n + m) n m0 := by rw [val_pk, hp]
  refine ⟨by rw [idx_pk ps s 0 fs.len, hp], hV, by rw [← hp]; exact hle, fun x hx' => ?_⟩
  obtain ⟨j, rfl, _, h2, _⟩ := idx_mem s 0 x hx'
  have hj : j < ps.length := by have := fs.len; omega
  refine ⟨j, ps[j].1, ps[j].2, rfl, List.getElem?_eq_getElem hj, fun m1 hm1 hx1 => ?_⟩
  obtain ⟨t, ht, hbf, _⟩ := best_both (offS c ps) hv.bv ((ps[j].1 : Nat) : Int)
  rw [offS_of] at ht hbf
  have hp1 := best_prs (by omega) h ht hm1 hx1
  have hw := best_wo (by omega) hs ht
  rw [hp, hp1] at hw
  refine ⟨hw.1, hw.2, ?_⟩
  have hrd : rd_T50 (offS c ps) (j : Int) = ⟨((ps[j].1 : Nat) : Int), ((2 ^ ps[j].2 : Nat) : Int), (c : Int)⟩ := by
    unfold rd_T50 offS
    rw [Int.toNat_natCast, List.getD_eq_getElem?_getD, List.getElem?_map, List.getElem?_eq_getElem hj]; rfl
  unfold payS
  rw [hrd]
  simp only
  unfold worthWo
  rw [hbf]
  show ((val (ofs c ps) t : Nat) : Int) - (((val (ofs c ps) s : Nat) : Int) - (c : Int)) = _
  rw [hV, val_pk, hp1]
  push_cast
  rw [Int.mul_add, Int.mul_sub]
  omega
end Go.Proofs.Ythfdjccdelbeeaa.PT
end
section
namespace Go.Proofs.Ythfdjccdelbeeaa.PT
open Go.RowKit Go.Proofs.YthfdjccdelbeeaaW.PrintWords Go.Proofs.YthfdjccdelbeeaaW.PrintLast Go.Proofs.YthfdjccdelbeeaaW.PrintMore Go.Proofs.Ythfdjccdelbeeaa.Gm Go.Proofs.Ythfdjccdelbeeaa.Opn Go.Proofs.Ythfdjccdelbeeaa.TPl
set_option linter.unusedVariables false
set_option linter.unusedSimpArgs false
theorem wf_u16 {n : Int} (h : (Lit.int .u16 n).wf = true) : 0 ≤ n ∧ n ≤ 65535 := by simpa [Lit.wf, IntKind.min, IntKind.max, IntKind.signed, IntKind.bits] using h
theorem pow12 (b : Nat) (h : b < 12) : wrap64 (2 ^ b) = ((2 ^ b : Nat) : Int) := by
  have e : ((2 : Int) ^ b) = ((2 ^ b : Nat) : Int) := by push_cast; rfl
  have h1 : (2 ^ b : Nat) < 2 ^ 12 := Nat.pow_lt_pow_right (show 1 < 2 by omega) h
  rw [e]
  generalize (2 ^ b : Nat) = q at h1 ⊢
  unfold wrap64; omega
theorem off_next (c : Nat) (ps : List (Nat × Nat)) (b a : Nat) (h : a < 12) : offS c ps ++ [⟨(b : Int), wrap64 (2 ^ a), (c : Int)⟩] = offS c (ps ++ [(b, a)]) := by
  rw [pow12 a h]; unfold offS; rw [List.map_append]; rfl
theorem eds_next (n : Nat) (ps : List (Nat × Nat)) (b a : Nat) : ced (eds n (-1) ps) ++ [((b : Int), (n : Int) + (a : Int))] = ced (eds n (-1) (ps ++ [(b, a)])) := by
  rw [eds_all, eds_all]; unfold ced
  rw [List.map_append, List.map_append]
  simp
theorem info105 : (Try.prog.info? 105).map (fun i => (i.zero, i.size, i.bytes)) = some (some (.agg #[(.int .i64 0), (.int .i64 0)]), 2, 16) := by kernel_rfl
theorem ced_len (n k m : Nat) (l : List S103) (h : k ≤ 16) : (ced (eds n (-1) (wps n m (l.take k)))).length ≤ 16 := by
  rw [eds_all]; unfold ced wps; rw [List.length_map, List.length_map, List.length_map, List.length_take]; omega
theorem ced_ln (es : List (Nat × Nat)) : (ced es).length = es.length := List.length_map _
theorem eds_ok {n m : Nat} {wo : Int} {ps : List (Nat × Nat)} (h : ∀ e ∈ ps, e.1 < n ∧ e.2 < m) : ∀ e ∈ eds n wo ps, e.1 < n + m ∧ e.2 < n + m ∧ e.1 ≠ e.2 := fun e he => by
  obtain ⟨x, y⟩ := e
  obtain ⟨_, k, rfl, hk⟩ := eds_mem.1 he
  have h1 := h _ hk
  simp only at h1 ⊢
  omega
theorem fil_no {es : List (Nat × Nat)} {q x y b : Nat} (h : es[q]? = some (x, y)) (hb : x = b) : (es.take (q + 1)).filter (fun e => decide (e.1 ≠ b)) = (es.take q).filter (fun e => decide (e.1 ≠ b)) := by
  rw [List.take_add_one, h, List.filter_append]; simp [hb]
theorem fil_yes {es : List (Nat × Nat)} {q x y b : Nat} (h : es[q]? = some (x, y)) (hb : ¬ x = b) : ced ((es.take (q + 1)).filter (fun e => decide (e.1 ≠ b))) = ced ((es.take q).filter (fun e => decide (e.1 ≠ b))) ++ [((x : Int), (y : Int))] := by
  rw [List.take_add_one, h, List.filter_append]; unfold ced; rw [List.map_append]; simp [hb]
theorem fil_len (es : List (Nat × Nat)) (q b : Nat) : (ced ((es.take q).filter (fun e => decide (e.1 ≠ b)))).length ≤ es.length := by
  unfold ced; rw [List.length_map]; exact Nat.le_trans (List.length_filter_le ..) (by rw [List.length_take]; omega)
theorem kE_mkM (w : World) (base : Nat) (ok : Nat → Prop) (x y : Int) : kE.M w base ok (x, y) [.int .i64 x, .int .i64 y] := ⟨[.int .i64 x], [.int .i64 y], rfl, rfl, rfl⟩
theorem wps_next {n m k a b : Nat} {l : List S103} {x : S103} (h : l[k]? = some x) (h0 : 0 ≤ x.f0) (h1 : 0 ≤ x.f1) (hb : (b : Int) = x.f0 % n) (ha : (a : Int) = x.f1 % m) : wps n m (l.take (k + 1)) = wps n m (l.take k) ++ [(b, a)] := by
  unfold wps
  rw [List.take_add_one, h, List.map_append]
  congr 1
  have e0 : x.f0.toNat % n = b := by have : ((x.f0.toNat % n : Nat) : Int) = b := by rw [Int.natCast_emod, Int.toNat_of_nonneg h0, hb]
                                     omega
  have e1 : x.f1.toNat % m = a := by have : ((x.f1.toNat % m : Nat) : Int) = a := by rw [Int.natCast_emod, Int.toNat_of_nonneg h1, ha]
                                     omega
  show [(x.f0.toNat % n, x.f1.toNat % m)] = _
  rw [e0, e1]
set_option maxHeartbeats 12800000 in
set_option maxRecDepth 100000 in
theorem kimberlitetop_TopAssigned.calls (k : Nat) (a0 a1 a2 : Int) (A3 : Option Addr) (c3 : Nat) (l3 : List S103) (w : World) (hr3 : Kd.C k103 w A3 l3.length l3) (hc3 : l3.length ≤ c3) (h : kimberlitetop_TopAssigned.ok a0 a1 a2 l3) : Calls Try.prog 14 #[.int .u8 a0, .int .u8 a1, .int .u16 a2, .slice A3 l3.length c3] w fun e w' => e = .returned (.bool true) ∧ Below w.heap.size w w' := by
  have HW := lhid hr3
  have HWC := lhid hc3
  obtain ⟨o0, o1, o2, o3, _⟩ := h
  have q0 := wf_u8 o0
  have q1 := wf_u8 o1
  have HOK := lhid o3
  clear hr3 hc3 o0 o1 o3
  have hu44 := Try.underlying44
  have hu50 := Try.underlying50
  have hu103 := Try.underlying103
  have hu100 := Try.underlying100
  have hu22 := Try.underlying22
  have hu105 := Try.underlying105
  have hu101 := Try.underlying101
  have hu26 := Try.underlying26
  go_enter Try.func14, Try.ntmps14
  have q2 := wf_u16 o2
  clear o2
  go_upto_region 4 with (fail)
  try any_goals (exfalso; omega)
  obtain ⟨n, hn⟩ : ∃ n : Nat, (n : Int) = 1 + a0 % 8 := ⟨(1 + a0 % 8).toNat, by omega⟩
  obtain ⟨m, hm⟩ : ∃ m : Nat, (m : Int) = 1 + a1 % 12 := ⟨(1 + a1 % 12).toNat, by omega⟩
  obtain ⟨c, hc⟩ : ∃ c : Nat, (c : Int) = 1 + a2 := ⟨(1 + a2).toNat, by omega⟩
  rw [← hn, ← hm, ← hc]
  have n1 : 1 ≤ n := by omega
  have n8 : n ≤ 8 := by omega
  have m1 : 1 ≤ m := by omega
  have m12 : m ≤ 12 := by omega
  have c1 : 1 ≤ c := by omega
  have c16 : c ≤ 65536 := by omega
  have HNM := lhid (And.intro n1 (And.intro n8 (And.intro m1 (And.intro m12 (And.intro c1 c16)))))
  clear hn hm hc q0 q1 q2
  go_upto_region 5 with (fail)
  try any_goals (exfalso; omega)
  go_loopw [12, 13, 14, 15, 16] (fun o e i _ _ wr => ∃ k : Nat, k ≤ l3.length ∧ k ≤ 16 ∧ i = .int .i64 k ∧ Hid (Kd.R k50 50 wr w.heap.size (fun _ => True) o (offS c (wps n m (l3.take k)))) ∧ Hid (Kd.R kE 105 wr w.heap.size (fun _ => True) e (ced (eds n (-1) (wps n m (l3.take k))))) ∧ Hid (Below w.heap.size w wr)) (fun _ _ i _ _ _ => 16 - (intOf i).toNat)
  case atStart => exact ⟨0, Nat.zero_le _, Nat.zero_le _, rfl, lhid (Kd.R_nil ..), lhid (Kd.R_nil ..), lhid (Below.refl _ _)⟩
  case round =>
    obtain ⟨k, hk1, hk2, rfl, HOr, HEr, BEr⟩ := hrel
    obtain ⟨A1, d1, rfl⟩ := Kd.R_slice HOr.out
    obtain ⟨A2, d2, rfl⟩ := Kd.R_slice HEr.out
    by_cases hlt : k < l3.length ∧ k < 16
    · obtain ⟨hl1, hl2⟩ := hlt
      have hki : (k : Int) < (l3.length : Int) := by omega
      have hk0 : (0 : Int) ≤ (k : Int) := by omega
      have hk16 : (k : Int) < 16 := by omega
      obtain ⟨x, hx⟩ : ∃ x, l3[k]? = some x := ⟨_, List.getElem?_eq_getElem hl1⟩
      have HX := lhid hx
      obtain ⟨ad, eA, y0, y1⟩ := at_T103 (Kd.C_below HW.out BEr.out) (k : Int) hk0 hki
      subst eA
      rw [show rd_T103 l3 (k : Int) = x by unfold rd_T103; rw [Int.toNat_natCast, List.getD_eq_getElem?_getD, hx]; rfl, Int.toNat_natCast] at y0 y1
      obtain ⟨x0, x1⟩ : (0 ≤ x.f0 ∧ x.f0 ≤ 255) ∧ (0 ≤ x.f1 ∧ x.f1 ≤ 255) := by
        have h1 := HOK.out.2 x (List.mem_of_getElem? hx)
        exact ⟨wf_u8 h1.1, wf_u8 h1.2⟩
      clear hx
      have n0 : ¬ (n : Int) = 0 := by omega
      have m0 : ¬ (m : Int) = 0 := by omega
      go_wp2_with fail
      go_quiet (fail)
      clear y0 y1
      have hb := pw_below_drewN (Below.refl wr.heap.size wr) nq
      have HO_1 := lhid (Kd.R_below HOr.out hb)
      have HE_2 := lhid (Kd.R_below HEr.out hb)
      have BE_3 := lhid (below_then BEr.out BEr.out.size hb)
      clear HOr HEr BEr hb
      generalize wr.drewN nq = w20 at HO_1 HE_2 BE_3 ⊢
      obtain ⟨b, hb⟩ : ∃ b : Nat, (b : Int) = x.f0 % n := ⟨x.f0.toNat % n, by rw [Int.natCast_emod, Int.toNat_of_nonneg x0.1]⟩
      obtain ⟨a, ha⟩ : ∃ a : Nat, (a : Int) = x.f1 % m := ⟨x.f1.toNat % m, by rw [Int.natCast_emod, Int.toNat_of_nonneg x1.1]⟩
      rw [← hb, ← ha]
      have HBA := lhid (wps_next HX.out x0.1 x1.1 hb ha)
      have hbn := Int.emod_lt_of_pos x.f0 (show (0 : Int) < n by omega)
      have han := Int.emod_lt_of_pos x.f1 (show (0 : Int) < m by omega)
      rw [← hb] at hbn
      rw [← ha] at han
      clear hb ha x0 x1
      have a0' : (0 : Int) ≤ (a : Int) := by omega
      have a64 : (a : Int) < 64 := by omega
      have HK := lhid hk2
      go_upto_region 9 with (first | ((with_reducible refine gate_builtin (b := .append) (xs := #[.tmp 66, .tmp 72]) rfl ?_); at_builtin; refine Kd.R_append k50 (w0 := w) w.heap.size rfl (.tmp 66) (.tmp 72) 22 50 (.agg #[(.int .i64 0), (.int .i64 0), (.int .i64 0)]) 24 rfl Try.underlying22 info50 rfl (by decide) (by decide) (.slice A1 (offS c (wps n m (l3.take k))).length d1) (offS c (wps n m (l3.take k))) (⟨(b : Int), wrap64 (2 ^ a), (c : Int)⟩ : S50) [.int .i64 (b : Int), .int .i64 (wrap64 (2 ^ a)), .int .i64 (c : Int)] (fun _ => True) (fun _ => False) rfl rfl (k50_mkM _ _ _ (⟨(b : Int), wrap64 (2 ^ a), (c : Int)⟩ : S50)) (fun _ hk => hk.elim) (fun _ _ => trivial) HO_1.out BE_3.out BE_3.out.size (by rw [offS_len]; have := HK.out; unfold wps; rw [List.length_map, List.length_take]; omega) ?_; intro v1 w30 ho30 hb30 hg30 hat30))
      have HO5 := lhid (show Kd.R k50 50 w30 w.heap.size (fun _ => True) v1 (offS c (wps n m (l3.take (k + 1)))) by rw [HBA.out, ← off_next c _ b a (by omega)]; exact ho30)
      have HE5 := lhid (Kd.R_over' HE_2.out (Kd.R_typed HO_1.out) (by decide) hg30)
      have BE5 := lhid hb30
      clear ho30 hb30 hg30 hat30 HO_1 HE_2 BE_3
      go_upto_region 6 with (first | ((with_reducible refine gate_builtin (b := .append) (xs := #[.tmp 74, .tmp 80]) rfl ?_); at_builtin; refine Kd.R_append kE (w0 := w) w.heap.size rfl (.tmp 74) (.tmp 80) 101 105 (.agg #[(.int .i64 0), (.int .i64 0)]) 16 rfl Try.underlying101 info105 rfl (by decide) (by decide) (.slice A2 (ced (eds n (-1) (wps n m (l3.take k)))).length d2) (ced (eds n (-1) (wps n m (l3.take k)))) ((b : Int), (n : Int) + (a : Int)) [.int .i64 (b : Int), .int .i64 ((n : Int) + (a : Int))] (fun _ => True) (fun _ => False) rfl rfl (kE_mkM _ _ _ _ _) (fun _ hk => hk.elim) (fun _ _ => trivial) HE5.out BE5.out BE5.out.size (by have := ced_len n k m l3 HK.out; omega) ?_; intro v2 w40 ho40 hb40 hg40 hat40))
      have HE6 := lhid (show Kd.R kE 105 w40 w.heap.size (fun _ => True) v2 (ced (eds n (-1) (wps n m (l3.take (k + 1))))) by rw [HBA.out, ← eds_next]; exact ho40)
      have HO6 := lhid (Kd.R_over' HO5.out (Kd.R_typed HE5.out) (by decide) hg40)
      have BE6 := lhid hb40
      clear ho40 hb40 hg40 hat40 HO5 HE5 BE5
      go_wp2_with fail
      try any_goals (exfalso; omega)
      go_roundw
      case rel => exact ⟨k + 1, by omega, by omega, by simp, HO6, HE6, BE6⟩
      case measure => simp [intOf]; omega
    obtain ⟨ps, hps⟩ : ∃ ps, ps = wps n m (l3.take k) := ⟨_, rfl⟩
    have HPL := lhid (show ps.length ≤ 16 by rw [hps]; unfold wps; rw [List.length_map, List.length_take]; omega)
    have HPS := lhid (show ∀ e ∈ ps, e.1 < n ∧ e.2 < m by rw [hps]; exact wps_ok (by omega) (by omega) _)
    rw [← hps] at HOr HEr ⊢
    clear hps
    have hkl : ¬ ((k : Int) < (l3.length : Int) ∧ (k : Int) < 16) := by omega
    clear hlt
    obtain ⟨T, V, ⟨kd, hkd⟩, hTl, hMa⟩ := decide_prs (n := n) (m := m) (c := c) (ps := ps) (by omega) (offS_vld n8 m1 m12 c1 c16 HPL.out HPS.out) HPS.out
    have HKD := lhid hkd
    have HMA := lhid hMa
    have HTL := lhid hTl
    clear hkd hMa hTl
    by_cases hk3 : (k : Int) < (l3.length : Int)
    · go_upto_region 10 with (fail)
      try any_goals (exfalso; omega)
      go_wp2_with fail
      with_reducible refine (tender_Decide.calls kd (m : Int) A1 d1 (offS c ps) T (T.map (payS (offS c ps) (V : Int))) (V : Int) 0 wr (Kd.R_reads' HOr.out).2.2 (Kd.R_reads' HOr.out).2.1 HKD.out).mono ?_
      rintro e w50 ⟨v0, v1, rfl, hT, hP, hb⟩
      have HO_4 := lhid (Kd.R_below HOr.out hb)
      have HE_5 := lhid (Kd.R_below HEr.out hb)
      have BE_6 := lhid (below_then BEr.out BEr.out.size hb)
      clear HOr HEr BEr hb
      have HT := lhid hT
      have HP := lhid hP
      clear hT hP
      obtain ⟨AT, dT, rfl⟩ := Kd.R_slice HT.out
      obtain ⟨AP, dP, rfl⟩ := Kd.R_slice HP.out
      go_upto_region 11 with (fail)
      try any_goals (exfalso; omega)
      obtain ⟨tb, htb⟩ : ∃ x, x = w50.heap.size := ⟨_, rfl⟩
      have hb := below_alloc (Below.refl w50.heap.size w50) (.cells #[.slice AT T.length dT, .slice AP T.length dP, .int .i64 (V : Int)] 44)
      have HTB := lhid (show (w50.alloc (.cells #[.slice AT T.length dT, .slice AP T.length dP, .int .i64 (V : Int)] 44)).heap[tb]? = some (.cells #[.slice AT T.length dT, .slice AP T.length dP, .int .i64 (V : Int)] 44) by rw [htb]; exact blk_new _ _)
      rw [← htb]
      have HO_7 := lhid (Kd.R_below HO_4.out hb)
      have HE_8 := lhid (Kd.R_below HE_5.out hb)
      have BE_9 := lhid (below_then BE_6.out BE_6.out.size hb)
      have HT_10 := lhid (Kd.R_below HT.out hb)
      have HP_11 := lhid (Kd.R_below HP.out hb)
      clear HO_4 HE_5 BE_6 HT HP hb
      clear htb
      generalize World.alloc w50 (.cells #[.slice AT T.length dT, .slice AP T.length dP, .int .i64 (V : Int)] 44) = w55 at HTB HO_7 HE_8 BE_9 HT_10 HP_11 ⊢
      go_wp2_with fail
      rw [show (n : Int) + (m : Int) = ((n + m : Nat) : Int) by omega, ced_ln]
      have hmc := match_c w55 A2 d2 (n + m) n (eds n (-1) ps) (by have h1 := (Kd.R_reads' HE_8.out).2.2; rwa [ced_ln] at h1) (by rw [eds_all, List.length_map]; have := HPL.out; omega) (by omega) (by omega) (eds_ok HPS.out) (eds_bip HPS.out)
      with_reducible refine hmc.mono ?_
      rintro e w60 ⟨hb, mm, vv, rfl, hmat, hmx⟩
      clear hmc
      have HO_12 := lhid (Kd.R_below HO_7.out hb)
      have HE_13 := lhid (Kd.R_below HE_8.out hb)
      have BE_14 := lhid (below_then BE_9.out BE_9.out.size hb)
      have HT_15 := lhid (Kd.R_below HT_10.out hb)
      have HP_16 := lhid (Kd.R_below HP_11.out hb)
      have TB_17 := lhid (blk_below HTB.out hb)
      clear HO_7 HE_8 BE_9 HT_10 HP_11 HTB hb
      have HMM := lhid (HMA.out mm hmat hmx)
      clear hmat hmx
      obtain ⟨nu, hnu⟩ : ∃ x, x = nprs (n + m) n mm := ⟨_, rfl⟩
      rw [← hnu] at HMM ⊢
      clear hnu
      obtain ⟨hTn, hVn, hnp, hxx⟩ := HMM.out
      have HXX := lhid hxx
      clear hxx
      have HTN := lhid (And.intro hTn (And.intro hVn hnp))
      have h16 := HPL.out
      have hcn : c * nu ≤ 65536 * 16 := Nat.mul_le_mul c16 (by omega)
      have hcw : wrap64 ((c : Int) * (nu : Int)) = (V : Int) := by rw [hVn, ← Int.natCast_mul]; unfold wrap64; omega
      have d1 : ((V : Int) != (V : Int)) = false := by simp
      have d2 : ((T.length : Int) != (nu : Int)) = false := by rw [hTn]; simp
      have t0 := (blk_cell TB_17.out 0).trans (show _ = some (Value.slice AT T.length dT) from rfl)
      have t1 := (blk_cell TB_17.out 1).trans (show _ = some (Value.slice AP T.length dP) from rfl)
      have t2 := (blk_cell TB_17.out 2).trans (show _ = some (Value.int .i64 (V : Int)) from rfl)
      clear hTn hVn hnp h16 hcn
      go_upto_region 15 with (fail)
      try any_goals (exfalso; omega)
      clear d1 d2 t0 t1 t2 hcw
      have HO9 := lhid (Kd.R_reads' HO_12.out).2.2
      have HE9 := lhid (show Kd.C kE w60 A2 (eds n (-1) ps).length (ced (eds n (-1) ps)) by have h1 := (Kd.R_reads' HE_13.out).2.2; rwa [ced_ln] at h1)
      have HT9 := lhid (Kd.R_reads' HT_15.out).2.2
      have HP9 := lhid (show Kd.C (Kd.int .i64) w60 AP T.length (T.map (payS (offS c ps) (V : Int))) by have h1 := (Kd.R_reads' HP_16.out).2.2; rwa [List.length_map] at h1)
      clear HO_12 HE_13 HT_15 HP_16
      go_loopw [22, 23, 24, 25, 26, 27, 28] (fun i _ _ _ _ _ _ wr => ∃ j : Nat, j ≤ nu ∧ i = .int .i64 j ∧ Hid (Kd.C k50 wr A1 (offS c ps).length (offS c ps)) ∧ Hid (Kd.C kE wr A2 (eds n (-1) ps).length (ced (eds n (-1) ps))) ∧ Hid (Kd.C (Kd.int .i64) wr AT T.length T) ∧ Hid (Kd.C (Kd.int .i64) wr AP T.length (T.map (payS (offS c ps) (V : Int)))) ∧ Hid (wr.heap[tb]? = some (.cells #[.slice AT T.length dT, .slice AP T.length dP, .int .i64 (V : Int)] 44)) ∧ Hid (Below w.heap.size w wr)) (fun i _ _ _ _ _ _ _ => nu - (intOf i).toNat)
      case atStart => exact ⟨0, Nat.zero_le _, rfl, HO9, HE9, HT9, HP9, TB_17, BE_14⟩
      case round =>
        clear HO9 HE9 HT9 HP9 TB_17 BE_14
        obtain ⟨j, hj, rfl, COr, CEr, CTr, CPr, TBr, BEr⟩ := hrel
        by_cases hlt : j < nu
        · obtain ⟨x, hx⟩ : ∃ x, T[j]? = some x := ⟨_, List.getElem?_eq_getElem (by have h1 := HTN.out; omega)⟩
          obtain ⟨jj, b, a, rfl, hpj, hpay⟩ := HXX.out x (List.mem_of_getElem? hx)
          have HPJ := lhid hpj
          have HPAY := lhid hpay
          have HTX := lhid hx
          have hjp : jj < ps.length := (List.getElem?_eq_some_iff.1 hpj).1
          clear hpj hpay hx
          have hji : (j : Int) < (nu : Int) := by omega
          have hj0 : (0 : Int) ≤ (j : Int) := by omega
          have hjT : (j : Int) < (T.length : Int) := by have h1 := HTN.out; omega
          have jj0 : ¬ (jj : Int) < 0 := by omega
          have jj0' : (0 : Int) ≤ (jj : Int) := by omega
          have jjl : (jj : Int) < ((offS c ps).length : Int) := by rw [offS_len]; omega
          obtain ⟨at_, eA, y⟩ := Kd.at_int CTr.out (j : Int) hj0 hjT
          subst eA
          rw [show rd T (j : Int) = (jj : Int) by unfold rd; rw [Int.toNat_natCast, List.getD_eq_getElem?_getD, HTX.out]; rfl, Int.toNat_natCast] at y
          have t0 := (blk_cell TBr.out 0).trans (show _ = some (Value.slice (some at_) T.length dT) from rfl)
          obtain ⟨ao, eO, z0, z1, z2⟩ := at_T50 COr.out (jj : Int) jj0' jjl
          subst eO
          clear z1 z2
          rw [show (rd_T50 (offS c ps) (jj : Int)).f0 = (b : Int) by unfold rd_T50 offS; rw [Int.toNat_natCast, List.getD_eq_getElem?_getD, List.getElem?_map, HPJ.out]; rfl, Int.toNat_natCast] at z0
          go_upto_region 20 with (fail)
          try any_goals (exfalso; omega)
          clear t0 y z0
          obtain ⟨wq, hwq⟩ : ∃ q : World, q = wr := ⟨_, rfl⟩
          subst hwq
          obtain ⟨es, hes⟩ : ∃ es, es = eds n (-1) ps := ⟨_, rfl⟩
          rw [← hes] at CEr ⊢
          have HES := lhid hes
          have HEL := lhid (show es.length ≤ 16 by rw [hes, eds_all, List.length_map]; exact HPL.out)
          clear hes
          go_upto_region 22 with (fail)
          try any_goals (exfalso; omega)
          go_loopw [24, 25] (fun v i wr => ∃ q : Nat, q ≤ es.length ∧ i = .int .i64 q ∧ Hid (Kd.R kE 105 wr wq.heap.size (fun _ => True) v (ced ((es.take q).filter (fun e => decide (e.1 ≠ b))))) ∧ Hid (Below wq.heap.size wq wr)) (fun _ i _ => es.length - (intOf i).toNat)
          case atStart => exact ⟨0, Nat.zero_le _, rfl, lhid (Kd.R_nil ..), lhid (Below.refl _ _)⟩
          case round =>
            obtain ⟨q, hq, rfl, RSr, BQr⟩ := hrel
            obtain ⟨A5, d5, rfl⟩ := Kd.R_slice RSr.out
            by_cases hlq : q < es.length
            · obtain ⟨e1, e2, hee⟩ : ∃ e1 e2, es[q]? = some (e1, e2) := ⟨_, _, List.getElem?_eq_getElem hlq⟩
              have HEE := lhid hee
              have hqi : (q : Int) < (es.length : Int) := by omega
              have hq0 : (0 : Int) ≤ (q : Int) := by omega
              have HQ := lhid hlq
              have hq16 : (q : Int) < 16 := by have h1 := HEL.out; omega
              obtain ⟨ae, eE, y0, y1⟩ := at_E (Kd.C_below CEr.out BQr.out) hee
              subst eE
              clear hee
              by_cases hb : e1 = b
              · have d1 : ((e1 : Int) != (b : Int)) = false := by simp [hb]
                have HB1 := lhid hb
                clear hb
                go_wp2_with fail
                try any_goals (exfalso; omega)
                go_roundw
                case rel => exact ⟨q + 1, by omega, by simp, lhid (by rw [fil_no HEE.out HB1.out]; exact RSr.out), BQr⟩
                case measure => simp [intOf]; omega
              · have d1 : ((e1 : Int) != (b : Int)) = true := bne_iff_ne.2 (by omega)
                have HB1 := lhid hb
                clear hb
                go_upto_region 23 with (first | ((with_reducible refine gate_builtin (b := .append) (xs := #[.tmp 168, .tmp 173]) rfl ?_); at_builtin; refine Kd.R_append kE (w0 := wq) wq.heap.size rfl (.tmp 168) (.tmp 173) 101 105 (.agg #[(.int .i64 0), (.int .i64 0)]) 16 rfl Try.underlying101 info105 rfl (by decide) (by decide) (.slice A5 (ced ((es.take q).filter (fun e => decide (e.1 ≠ b)))).length d5) (ced ((es.take q).filter (fun e => decide (e.1 ≠ b)))) ((e1 : Int), (e2 : Int)) [.int .i64 (e1 : Int), .int .i64 (e2 : Int)] (fun _ => True) (fun _ => False) rfl rfl (kE_mkM _ _ _ _ _) (fun _ hk => hk.elim) (fun _ _ => trivial) RSr.out BQr.out BQr.out.size (by have := fil_len es q b; have := HEL.out; omega) ?_; intro v9 w40 ho40 hb40 hg40 hat40))
                try any_goals (exfalso; omega)
                have RS1 := lhid (show Kd.R kE 105 w40 wq.heap.size (fun _ => True) v9 (ced ((es.take (q + 1)).filter (fun e => decide (e.1 ≠ b)))) by rw [fil_yes HEE.out HB1.out]; exact ho40)
                have BQ1 := lhid hb40
                clear ho40 hb40 hg40 hat40 RSr BQr
                go_wp2_with fail
                try any_goals (exfalso; omega)
                go_roundw
                case rel => exact ⟨q + 1, by omega, by simp, RS1, BQ1⟩
                case measure => simp [intOf]; omega
            have hne : es.length = q := by omega
            subst hne
            clear hlq hq
            obtain ⟨rs, hrs⟩ : ∃ rs, rs = es.filter (fun e => decide (e.1 ≠ b)) := ⟨_, rfl⟩
            rw [List.take_length, ← hrs] at RSr ⊢
            have HRS := lhid (show rs = eds n (b : Int) ps by rw [eds_wo, ← HES.out, hrs])
            have HRL := lhid (show rs.length ≤ 16 by rw [hrs]; exact Nat.le_trans (List.length_filter_le ..) HEL.out)
            clear hrs
            have hbq := BQr.out
            clear BQr
            have CO_18 := lhid (Kd.C_below COr.out hbq)
            have CE_19 := lhid (Kd.C_below CEr.out hbq)
            have CT_20 := lhid (Kd.C_below CTr.out hbq)
            have CP_21 := lhid (Kd.C_below CPr.out hbq)
            have TB_22 := lhid (blk_below TBr.out hbq)
            have BE_23 := lhid (below_then BEr.out BEr.out.size hbq)
            clear COr CEr CTr CPr TBr BEr hbq
            go_wp2_with fail
            rw [show (n : Int) + (m : Int) = ((n + m : Nat) : Int) by omega, ced_ln]
            have hmc := match_c wr A5 d5 (n + m) n rs (by have h1 := (Kd.R_reads' RSr.out).2.2; rwa [ced_ln] at h1) (by have := HRL.out; omega) (by omega) (by omega) (by rw [HRS.out]; exact eds_ok HPS.out) (by rw [HRS.out]; exact eds_bip HPS.out)
            with_reducible refine hmc.mono ?_
            rintro e w70 ⟨hb, m1, v1, rfl, hmat, hmx⟩
            clear hmc
            have CO_24 := lhid (Kd.C_below CO_18.out hb)
            have CE_25 := lhid (Kd.C_below CE_19.out hb)
            have CT_26 := lhid (Kd.C_below CT_20.out hb)
            have CP_27 := lhid (Kd.C_below CP_21.out hb)
            have TB_28 := lhid (blk_below TB_22.out hb)
            have BE_29 := lhid (below_then BE_23.out BE_23.out.size hb)
            clear CO_18 CE_19 CT_20 CP_21 TB_22 BE_23 hb
            rw [HRS.out] at hmat hmx
            have hp3 := HPAY.out m1 hmat hmx
            rw [HRS.out]
            obtain ⟨nu1, hnu1⟩ : ∃ x, x = nprs (n + m) n m1 := ⟨_, rfl⟩
            rw [← hnu1] at hp3 ⊢
            clear hmat hmx hnu1
            obtain ⟨hp1, hp2, hp3⟩ := hp3
            have HP3 := lhid hp3
            clear hp3
            have hjP : (j : Int) < ((T.map (payS (offS c ps) (V : Int))).length : Int) := by rw [List.length_map]; exact hjT
            obtain ⟨ap, eP, y⟩ := Kd.at_int (show Kd.C (Kd.int .i64) w70 AP (T.map (payS (offS c ps) (V : Int))).length (T.map (payS (offS c ps) (V : Int))) by rw [List.length_map]; exact CP_27.out) (j : Int) hj0 hjP
            subst eP
            rw [show rd (T.map (payS (offS c ps) (V : Int))) (j : Int) = (c : Int) * ((nu1 : Int) - (nu : Int) + 1) by unfold rd; rw [Int.toNat_natCast, List.getD_eq_getElem?_getD, List.getElem?_map, HTX.out]; exact HP3.out, Int.toNat_natCast] at y
            have t1 := (blk_cell TB_28.out 1).trans (show _ = some (Value.slice (some ap) T.length dP) from rfl)
            have hn16 : (nu : Int) ≤ 16 := by have h1 := HTN.out; have h2 := HPL.out; omega
            by_cases heq : nu1 = nu
            · subst heq
              rw [show (c : Int) * ((nu1 : Int) - (nu1 : Int) + 1) = (c : Int) by rw [Int.sub_self]; simp] at y
              go_wp2_with fail
              have hes := HES.out
              subst hes
              go_roundw
              case rel => exact ⟨j + 1, by omega, by simp, CO_24, CE_25, CT_26, CP_27, TB_28, BE_29⟩
              case measure => simp [intOf]; omega
            · obtain rfl : nu = nu1 + 1 := by omega
              rw [show (c : Int) * ((nu1 : Int) - ((nu1 + 1 : Nat) : Int) + 1) = 0 by rw [show (nu1 : Int) - ((nu1 + 1 : Nat) : Int) + 1 = 0 by omega]; simp] at y
              go_wp2_with fail
              have hes := HES.out
              subst hes
              go_roundw
              case rel => (repeat apply Exists.intro); refine ⟨?_, rfl⟩; exact ⟨j + 1, by omega, by simp, CO_24, CE_25, CT_26, CP_27, TB_28, BE_29⟩
              case measure => simp [intOf]; omega
        have hne : nu = j := by omega
        clear hj
        go_wp2_with fail
        with_reducible refine (awarded_c wr).mono ?_
        rintro e w90 ⟨rfl, hb⟩
        have BE9 := lhid (below_then BEr.out BEr.out.size hb)
        clear hb
        go_wp2_with fail
        try any_goals (exfalso; omega)
        go_ret
        exact ⟨rfl, BE9.out⟩
    · go_upto_region 10 with (fail)
      try any_goals (exfalso; omega)
      go_wp2_with fail
      with_reducible refine (tender_Decide.calls kd (m : Int) A1 d1 (offS c ps) T (T.map (payS (offS c ps) (V : Int))) (V : Int) 0 wr (Kd.R_reads' HOr.out).2.2 (Kd.R_reads' HOr.out).2.1 HKD.out).mono ?_
      rintro e w50 ⟨v0, v1, rfl, hT, hP, hb⟩
      have HO_30 := lhid (Kd.R_below HOr.out hb)
      have HE_31 := lhid (Kd.R_below HEr.out hb)
      have BE_32 := lhid (below_then BEr.out BEr.out.size hb)
      clear HOr HEr BEr hb
      have HT := lhid hT
      have HP := lhid hP
      clear hT hP
      obtain ⟨AT, dT, rfl⟩ := Kd.R_slice HT.out
      obtain ⟨AP, dP, rfl⟩ := Kd.R_slice HP.out
      go_upto_region 11 with (fail)
      try any_goals (exfalso; omega)
      obtain ⟨tb, htb⟩ : ∃ x, x = w50.heap.size := ⟨_, rfl⟩
      have hb := below_alloc (Below.refl w50.heap.size w50) (.cells #[.slice AT T.length dT, .slice AP T.length dP, .int .i64 (V : Int)] 44)
      have HTB := lhid (show (w50.alloc (.cells #[.slice AT T.length dT, .slice AP T.length dP, .int .i64 (V : Int)] 44)).heap[tb]? = some (.cells #[.slice AT T.length dT, .slice AP T.length dP, .int .i64 (V : Int)] 44) by rw [htb]; exact blk_new _ _)
      rw [← htb]
      have HO_33 := lhid (Kd.R_below HO_30.out hb)
      have HE_34 := lhid (Kd.R_below HE_31.out hb)
      have BE_35 := lhid (below_then BE_32.out BE_32.out.size hb)
      have HT_36 := lhid (Kd.R_below HT.out hb)
      have HP_37 := lhid (Kd.R_below HP.out hb)
      clear HO_30 HE_31 BE_32 HT HP hb
      clear htb
      generalize World.alloc w50 (.cells #[.slice AT T.length dT, .slice AP T.length dP, .int .i64 (V : Int)] 44) = w55 at HTB HO_33 HE_34 BE_35 HT_36 HP_37 ⊢
      go_wp2_with fail
      rw [show (n : Int) + (m : Int) = ((n + m : Nat) : Int) by omega, ced_ln]
      have hmc := match_c w55 A2 d2 (n + m) n (eds n (-1) ps) (by have h1 := (Kd.R_reads' HE_34.out).2.2; rwa [ced_ln] at h1) (by rw [eds_all, List.length_map]; have := HPL.out; omega) (by omega) (by omega) (eds_ok HPS.out) (eds_bip HPS.out)
      with_reducible refine hmc.mono ?_
      rintro e w60 ⟨hb, mm, vv, rfl, hmat, hmx⟩
      clear hmc
      have HO_38 := lhid (Kd.R_below HO_33.out hb)
      have HE_39 := lhid (Kd.R_below HE_34.out hb)
      have BE_40 := lhid (below_then BE_35.out BE_35.out.size hb)
      have HT_41 := lhid (Kd.R_below HT_36.out hb)
      have HP_42 := lhid (Kd.R_below HP_37.out hb)
      have TB_43 := lhid (blk_below HTB.out hb)
      clear HO_33 HE_34 BE_35 HT_36 HP_37 HTB hb
      have HMM := lhid (HMA.out mm hmat hmx)
      clear hmat hmx
      obtain ⟨nu, hnu⟩ : ∃ x, x = nprs (n + m) n mm := ⟨_, rfl⟩
      rw [← hnu] at HMM ⊢
      clear hnu
      obtain ⟨hTn, hVn, hnp, hxx⟩ := HMM.out
      have HXX := lhid hxx
      clear hxx
      have HTN := lhid (And.intro hTn (And.intro hVn hnp))
      have h16 := HPL.out
      have hcn : c * nu ≤ 65536 * 16 := Nat.mul_le_mul c16 (by omega)
      have hcw : wrap64 ((c : Int) * (nu : Int)) = (V : Int) := by rw [hVn, ← Int.natCast_mul]; unfold wrap64; omega
      have d1 : ((V : Int) != (V : Int)) = false := by simp
      have d2 : ((T.length : Int) != (nu : Int)) = false := by rw [hTn]; simp
      have t0 := (blk_cell TB_43.out 0).trans (show _ = some (Value.slice AT T.length dT) from rfl)
      have t1 := (blk_cell TB_43.out 1).trans (show _ = some (Value.slice AP T.length dP) from rfl)
      have t2 := (blk_cell TB_43.out 2).trans (show _ = some (Value.int .i64 (V : Int)) from rfl)
      clear hTn hVn hnp h16 hcn
      go_upto_region 15 with (fail)
      try any_goals (exfalso; omega)
      clear d1 d2 t0 t1 t2 hcw
      have HO9 := lhid (Kd.R_reads' HO_38.out).2.2
      have HE9 := lhid (show Kd.C kE w60 A2 (eds n (-1) ps).length (ced (eds n (-1) ps)) by have h1 := (Kd.R_reads' HE_39.out).2.2; rwa [ced_ln] at h1)
      have HT9 := lhid (Kd.R_reads' HT_41.out).2.2
      have HP9 := lhid (show Kd.C (Kd.int .i64) w60 AP T.length (T.map (payS (offS c ps) (V : Int))) by have h1 := (Kd.R_reads' HP_42.out).2.2; rwa [List.length_map] at h1)
      clear HO_38 HE_39 HT_41 HP_42
      go_loopw [22, 23, 24, 25, 26, 27, 28] (fun i _ _ _ _ _ _ wr => ∃ j : Nat, j ≤ nu ∧ i = .int .i64 j ∧ Hid (Kd.C k50 wr A1 (offS c ps).length (offS c ps)) ∧ Hid (Kd.C kE wr A2 (eds n (-1) ps).length (ced (eds n (-1) ps))) ∧ Hid (Kd.C (Kd.int .i64) wr AT T.length T) ∧ Hid (Kd.C (Kd.int .i64) wr AP T.length (T.map (payS (offS c ps) (V : Int)))) ∧ Hid (wr.heap[tb]? = some (.cells #[.slice AT T.length dT, .slice AP T.length dP, .int .i64 (V : Int)] 44)) ∧ Hid (Below w.heap.size w wr)) (fun i _ _ _ _ _ _ _ => nu - (intOf i).toNat)
      case atStart => exact ⟨0, Nat.zero_le _, rfl, HO9, HE9, HT9, HP9, TB_43, BE_40⟩
      case round =>
        clear HO9 HE9 HT9 HP9 TB_43 BE_40
        obtain ⟨j, hj, rfl, COr, CEr, CTr, CPr, TBr, BEr⟩ := hrel
        by_cases hlt : j < nu
        · obtain ⟨x, hx⟩ : ∃ x, T[j]? = some x := ⟨_, List.getElem?_eq_getElem (by have h1 := HTN.out; omega)⟩
          obtain ⟨jj, b, a, rfl, hpj, hpay⟩ := HXX.out x (List.mem_of_getElem? hx)
          have HPJ := lhid hpj
          have HPAY := lhid hpay
          have HTX := lhid hx
          have hjp : jj < ps.length := (List.getElem?_eq_some_iff.1 hpj).1
          clear hpj hpay hx
          have hji : (j : Int) < (nu : Int) := by omega
          have hj0 : (0 : Int) ≤ (j : Int) := by omega
          have hjT : (j : Int) < (T.length : Int) := by have h1 := HTN.out; omega
          have jj0 : ¬ (jj : Int) < 0 := by omega
          have jj0' : (0 : Int) ≤ (jj : Int) := by omega
          have jjl : (jj : Int) < ((offS c ps).length : Int) := by rw [offS_len]; omega
          obtain ⟨at_, eA, y⟩ := Kd.at_int CTr.out (j : Int) hj0 hjT
          subst eA
          rw [show rd T (j : Int) = (jj : Int) by unfold rd; rw [Int.toNat_natCast, List.getD_eq_getElem?_getD, HTX.out]; rfl, Int.toNat_natCast] at y
          have t0 := (blk_cell TBr.out 0).trans (show _ = some (Value.slice (some at_) T.length dT) from rfl)
          obtain ⟨ao, eO, z0, z1, z2⟩ := at_T50 COr.out (jj : Int) jj0' jjl
          subst eO
          clear z1 z2
          rw [show (rd_T50 (offS c ps) (jj : Int)).f0 = (b : Int) by unfold rd_T50 offS; rw [Int.toNat_natCast, List.getD_eq_getElem?_getD, List.getElem?_map, HPJ.out]; rfl, Int.toNat_natCast] at z0
          go_upto_region 20 with (fail)
          try any_goals (exfalso; omega)
          clear t0 y z0
          obtain ⟨wq, hwq⟩ : ∃ q : World, q = wr := ⟨_, rfl⟩
          subst hwq
          obtain ⟨es, hes⟩ : ∃ es, es = eds n (-1) ps := ⟨_, rfl⟩
          rw [← hes] at CEr ⊢
          have HES := lhid hes
          have HEL := lhid (show es.length ≤ 16 by rw [hes, eds_all, List.length_map]; exact HPL.out)
          clear hes
          go_upto_region 22 with (fail)
          try any_goals (exfalso; omega)
          go_loopw [24, 25] (fun v i wr => ∃ q : Nat, q ≤ es.length ∧ i = .int .i64 q ∧ Hid (Kd.R kE 105 wr wq.heap.size (fun _ => True) v (ced ((es.take q).filter (fun e => decide (e.1 ≠ b))))) ∧ Hid (Below wq.heap.size wq wr)) (fun _ i _ => es.length - (intOf i).toNat)
          case atStart => exact ⟨0, Nat.zero_le _, rfl, lhid (Kd.R_nil ..), lhid (Below.refl _ _)⟩
          case round =>
            obtain ⟨q, hq, rfl, RSr, BQr⟩ := hrel
            obtain ⟨A5, d5, rfl⟩ := Kd.R_slice RSr.out
            by_cases hlq : q < es.length
            · obtain ⟨e1, e2, hee⟩ : ∃ e1 e2, es[q]? = some (e1, e2) := ⟨_, _, List.getElem?_eq_getElem hlq⟩
              have HEE := lhid hee
              have hqi : (q : Int) < (es.length : Int) := by omega
              have hq0 : (0 : Int) ≤ (q : Int) := by omega
              have HQ := lhid hlq
              have hq16 : (q : Int) < 16 := by have h1 := HEL.out; omega
              obtain ⟨ae, eE, y0, y1⟩ := at_E (Kd.C_below CEr.out BQr.out) hee
              subst eE
              clear hee
              by_cases hb : e1 = b
              · have d1 : ((e1 : Int) != (b : Int)) = false := by simp [hb]
                have HB1 := lhid hb
                clear hb
                go_wp2_with fail
                try any_goals (exfalso; omega)
                go_roundw
                case rel => exact ⟨q + 1, by omega, by simp, lhid (by rw [fil_no HEE.out HB1.out]; exact RSr.out), BQr⟩
                case measure => simp [intOf]; omega
              · have d1 : ((e1 : Int) != (b : Int)) = true := bne_iff_ne.2 (by omega)
                have HB1 := lhid hb
                clear hb
                go_upto_region 23 with (first | ((with_reducible refine gate_builtin (b := .append) (xs := #[.tmp 168, .tmp 173]) rfl ?_); at_builtin; refine Kd.R_append kE (w0 := wq) wq.heap.size rfl (.tmp 168) (.tmp 173) 101 105 (.agg #[(.int .i64 0), (.int .i64 0)]) 16 rfl Try.underlying101 info105 rfl (by decide) (by decide) (.slice A5 (ced ((es.take q).filter (fun e => decide (e.1 ≠ b)))).length d5) (ced ((es.take q).filter (fun e => decide (e.1 ≠ b)))) ((e1 : Int), (e2 : Int)) [.int .i64 (e1 : Int), .int .i64 (e2 : Int)] (fun _ => True) (fun _ => False) rfl rfl (kE_mkM _ _ _ _ _) (fun _ hk => hk.elim) (fun _ _ => trivial) RSr.out BQr.out BQr.out.size (by have := fil_len es q b; have := HEL.out; omega) ?_; intro v9 w40 ho40 hb40 hg40 hat40))
                try any_goals (exfalso; omega)
                have RS1 := lhid (show Kd.R kE 105 w40 wq.heap.size (fun _ => True) v9 (ced ((es.take (q + 1)).filter (fun e => decide (e.1 ≠ b)))) by rw [fil_yes HEE.out HB1.out]; exact ho40)
                have BQ1 := lhid hb40
                clear ho40 hb40 hg40 hat40 RSr BQr
                go_wp2_with fail
                try any_goals (exfalso; omega)
                go_roundw
                case rel => exact ⟨q + 1, by omega, by simp, RS1, BQ1⟩
                case measure => simp [intOf]; omega
            have hne : es.length = q := by omega
            subst hne
            clear hlq hq
            obtain ⟨rs, hrs⟩ : ∃ rs, rs = es.filter (fun e => decide (e.1 ≠ b)) := ⟨_, rfl⟩
            rw [List.take_length, ← hrs] at RSr ⊢
            have HRS := lhid (show rs = eds n (b : Int) ps by rw [eds_wo, ← HES.out, hrs])
            have HRL := lhid (show rs.length ≤ 16 by rw [hrs]; exact Nat.le_trans (List.length_filter_le ..) HEL.out)
            clear hrs
            have hbq := BQr.out
            clear BQr
            have CO_44 := lhid (Kd.C_below COr.out hbq)
            have CE_45 := lhid (Kd.C_below CEr.out hbq)
            have CT_46 := lhid (Kd.C_below CTr.out hbq)
            have CP_47 := lhid (Kd.C_below CPr.out hbq)
            have TB_48 := lhid (blk_below TBr.out hbq)
            have BE_49 := lhid (below_then BEr.out BEr.out.size hbq)
            clear COr CEr CTr CPr TBr BEr hbq
            go_wp2_with fail
            rw [show (n : Int) + (m : Int) = ((n + m : Nat) : Int) by omega, ced_ln]
            have hmc := match_c wr A5 d5 (n + m) n rs (by have h1 := (Kd.R_reads' RSr.out).2.2; rwa [ced_ln] at h1) (by have := HRL.out; omega) (by omega) (by omega) (by rw [HRS.out]; exact eds_ok HPS.out) (by rw [HRS.out]; exact eds_bip HPS.out)
            with_reducible refine hmc.mono ?_
            rintro e w70 ⟨hb, m1, v1, rfl, hmat, hmx⟩
            clear hmc
            have CO_50 := lhid (Kd.C_below CO_44.out hb)
            have CE_51 := lhid (Kd.C_below CE_45.out hb)
            have CT_52 := lhid (Kd.C_below CT_46.out hb)
            have CP_53 := lhid (Kd.C_below CP_47.out hb)
            have TB_54 := lhid (blk_below TB_48.out hb)
            have BE_55 := lhid (below_then BE_49.out BE_49.out.size hb)
            clear CO_44 CE_45 CT_46 CP_47 TB_48 BE_49 hb
            rw [HRS.out] at hmat hmx
            have hp3 := HPAY.out m1 hmat hmx
            rw [HRS.out]
            obtain ⟨nu1, hnu1⟩ : ∃ x, x = nprs (n + m) n m1 := ⟨_, rfl⟩
            rw [← hnu1] at hp3 ⊢
            clear hmat hmx hnu1
            obtain ⟨hp1, hp2, hp3⟩ := hp3
            have HP3 := lhid hp3
            clear hp3
            have hjP : (j : Int) < ((T.map (payS (offS c ps) (V : Int))).length : Int) := by rw [List.length_map]; exact hjT
            obtain ⟨ap, eP, y⟩ := Kd.at_int (show Kd.C (Kd.int .i64) w70 AP (T.map (payS (offS c ps) (V : Int))).length (T.map (payS (offS c ps) (V : Int))) by rw [List.length_map]; exact CP_53.out) (j : Int) hj0 hjP
            subst eP
            rw [show rd (T.map (payS (offS c ps) (V : Int))) (j : Int) = (c : Int) * ((nu1 : Int) - (nu : Int) + 1) by unfold rd; rw [Int.toNat_natCast, List.getD_eq_getElem?_getD, List.getElem?_map, HTX.out]; exact HP3.out, Int.toNat_natCast] at y
            have t1 := (blk_cell TB_54.out 1).trans (show _ = some (Value.slice (some ap) T.length dP) from rfl)
            have hn16 : (nu : Int) ≤ 16 := by have h1 := HTN.out; have h2 := HPL.out; omega
            by_cases heq : nu1 = nu
            · subst heq
              rw [show (c : Int) * ((nu1 : Int) - (nu1 : Int) + 1) = (c : Int) by rw [Int.sub_self]; simp] at y
              go_wp2_with fail
              have hes := HES.out
              subst hes
              go_roundw
              case rel => exact ⟨j + 1, by omega, by simp, CO_50, CE_51, CT_52, CP_53, TB_54, BE_55⟩
              case measure => simp [intOf]; omega
            · obtain rfl : nu = nu1 + 1 := by omega
              rw [show (c : Int) * ((nu1 : Int) - ((nu1 + 1 : Nat) : Int) + 1) = 0 by rw [show (nu1 : Int) - ((nu1 + 1 : Nat) : Int) + 1 = 0 by omega]; simp] at y
              go_wp2_with fail
              have hes := HES.out
              subst hes
              go_roundw
              case rel => (repeat apply Exists.intro); refine ⟨?_, rfl⟩; exact ⟨j + 1, by omega, by simp, CO_50, CE_51, CT_52, CP_53, TB_54, BE_55⟩
              case measure => simp [intOf]; omega
        have hne : nu = j := by omega
        clear hj
        go_wp2_with fail
        with_reducible refine (awarded_c wr).mono ?_
        rintro e w90 ⟨rfl, hb⟩
        have BE9 := lhid (below_then BEr.out BEr.out.size hb)
        clear hb
        go_wp2_with fail
        try any_goals (exfalso; omega)
        go_ret
        exact ⟨rfl, BE9.out⟩
theorem topAssigned_pure : kimberlitetop_TopAssigned.Pure2 := fun a0 a1 a2 l3 h0 h1 h2 h3 => ⟨0, h0, h1, h2, h3, trivial⟩
end Go.Proofs.Ythfdjccdelbeeaa.PT
end
