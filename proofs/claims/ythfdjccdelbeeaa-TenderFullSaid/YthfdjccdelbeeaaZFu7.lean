/-
  The texts that the theorem in YthfdjccdelbeeaaZRowFu rests on, merged (part 8); only what it reaches.
-/
import Derived.Test.YthfdjccdelbeeaaZFu2
import Derived.Test.YthfdjccdelbeeaaZFu3
import Derived.Test.YthfdjccdelbeeaaZFu4
import Derived.Test.YthfdjccdelbeeaaZFu5
import Derived.Test.YthfdjccdelbeeaaZFu6
section
namespace Go.Proofs.Ythfdjccdelbeeaa.PT
open Go.RowKit Go.Proofs.YthfdjccdelbeeaaW.PrintWords Go.Proofs.YthfdjccdelbeeaaW.PrintLast Go.Proofs.YthfdjccdelbeeaaW.PrintMore Go.Proofs.Ythfdjccdelbeeaa.TPl
set_option linter.unusedVariables false
theorem pow_le62 (n : Nat) (h : n ≤ 62) : 2 ^ n ≤ 4611686018427387904 := Nat.pow_le_pow_right (n := 2) (by decide) h
theorem shl_pow (n : Nat) (h : n ≤ 62) : shl .i64 1 (n : Int) = ((2 ^ n : Nat) : Int) := by
  unfold shl
  have := pow_le62 n h
  rw [Int.toNat_natCast, Nat.min_eq_left (by show n ≤ 64; omega), Int.one_mul]
  have e : (2 : Int) ^ n = ((2 ^ n : Nat) : Int) := by simp
  rw [e]
  generalize 2 ^ n = M at *
  exact IntWalk.i64_in _ (by omega)
theorem shr_pow (x n : Nat) (h : n ≤ 62) : shr .i64 (x : Int) (n : Int) = ((x / 2 ^ n : Nat) : Int) := by
  unfold shr
  rw [Int.toNat_natCast, Nat.min_eq_left (by show n ≤ 64; omega)]
  have e : (2 : Int) ^ n = ((2 ^ n : Nat) : Int) := by simp
  rw [e]; exact (Int.natCast_ediv _ _).symm
theorem tmod2 (x : Nat) : Int.tmod (x : Int) 2 = ((x % 2 : Nat) : Int) := by rw [Int.tmod_eq_emod_of_nonneg (by omega)]; omega
theorem bit_mod (x n : Nat) : x / 2 ^ n % 2 = if x.testBit n = true then 1 else 0 := by
  rw [Nat.testBit_eq_decide_div_mod_eq]
  have := Nat.mod_lt (x / 2 ^ n) (show 0 < 2 by decide)
  split <;> rename_i h <;> simp at h <;> omega
theorem rd_app (a b : List Int) (j : Nat) (h : j = a.length) : rd (a ++ b) (j : Int) = rd b 0 := by
  subst h
  simp [rd, List.getD_eq_getElem?_getD, List.getElem?_append_right]
theorem rd_last (a : List Int) (x : Int) (b : List Int) (j : Nat) (h : j = a.length) : rd (a ++ [x] ++ b) (j : Int) = x := by
  subst h
  simp [rd, List.getD_eq_getElem?_getD]
theorem feas_any (wo : Int) : ∀ (os : List Of) (s : List Bool) (L B : Nat), feas wo os s L B → feas (-1) os s L B
  | [], [], _, _, _ => trivial
  | o :: os, true :: s, L, B, h => ⟨⟨by omega, h.1.2.1, h.1.2.2⟩, feas_any wo os s _ _ h.2⟩
  | _ :: os, false :: s, L, B, h => feas_any wo os s L B h
  | [], _ :: _, _, _, h => h.elim
  | _ :: _, [], _, _, h => h.elim
instance feasDec (wo : Int) : ∀ (os : List Of) (s : List Bool) (L B : Nat), Decidable (feas wo os s L B)
  | [], [], _, _ => isTrue trivial
  | o :: os, true :: s, L, B => @instDecidableAnd _ _ _ (feasDec wo os s (L ||| o.l) (B ||| 2 ^ o.b))
  | _ :: os, false :: s, L, B => feasDec wo os s L B
  | [], _ :: _, _, _ => isFalse id
  | _ :: _, [], _, _ => isFalse id
/-- One round of Choice: where the index is in order. -/
theorem choice_round (l : List S50) (hv : bValid l) (i : Nat) (hi : i < l.length) (pre rest : List Int) (hpre : ∀ x, pre.getLast? = some x → x < (i : Int)) (hpl : pre.length ≤ i) (L B : Nat) (hL : L < 4096) (hB : B < 256) (sum : Nat) (hs : sum ≤ 1073741824 * i) (k : Nat) :
    kimberliteref05_Choice.l0 (k + 2) l (pre ++ (i : Int) :: rest) sum L B (pre.length : Int) =
      if nok (-1) L B (toOf l[i]) then kimberliteref05_Choice.l0 k l (pre ++ (i : Int) :: rest) ((sum + (toOf l[i]).p : Nat) : Int) ((L ||| (toOf l[i]).l : Nat) : Int) ((B ||| 2 ^ (toOf l[i]).b : Nat) : Int) ((pre.length + 1 : Nat) : Int) else some (0, false) := by
  have ho := hv.2 l[i] (List.getElem_mem hi)
  have hl16 := hv.1
  have e0 : rd (pre ++ (i : Int) :: rest) (pre.length : Int) = (i : Int) := by rw [rd_app _ _ _ rfl]; rfl
  obtain ⟨k1, k2, k3, k4, k5⟩ := bOk_nok (-1) L B l[i] hL hB ho
  have hlast : pre.length > 0 → rd (pre ++ (i : Int) :: rest) (wrap64 ((pre.length : Int) - 1)) < (i : Int) := by
    intro h0
    obtain ⟨p, x, rfl⟩ : ∃ p x, pre = p ++ [x] := by
      rcases List.eq_nil_or_concat pre with rfl | ⟨p, x, rfl⟩
      · simp at h0
      · exact ⟨p, x, by simp⟩
    have hx := hpre x (by simp)
    have : wrap64 (((p ++ [x]).length : Int) - 1) = (p.length : Int) := by have hq := hpl; simp only [List.length_append, List.length_cons, List.length_nil] at hq ⊢; unfold wrap64; omega
    rw [this, rd_last p x _ _ rfl]; exact hx
  have hj1 : kimberliteref05_Choice.j1 (k + 1) l (pre ++ (i : Int) :: rest) sum L B (pre.length : Int) false =
      if nok (-1) L B (toOf l[i]) then kimberliteref05_Choice.l0 k l (pre ++ (i : Int) :: rest) ((sum + (toOf l[i]).p : Nat) : Int) ((L ||| (toOf l[i]).l : Nat) : Int) ((B ||| 2 ^ (toOf l[i]).b : Nat) : Int) ((pre.length + 1 : Nat) : Int) else some (0, false) := by
    simp only [kimberliteref05_Choice.j1, e0, rd_get l i hi]
    rw [if_neg (by simp), if_pos (by omega), if_pos (by simp; omega), if_pos (by omega), if_pos (by omega)]
    have ef0 : l[i].f0 = ((l[i].f0.toNat : Nat) : Int) := by omega
    have esh : shl .i64 1 l[i].f0 = ((2 ^ l[i].f0.toNat : Nat) : Int) := by rw [ef0, shl_pow _ (by omega)]; rfl
    have esr : Int.tmod (shr .i64 (B : Int) l[i].f0) 2 = ((B / 2 ^ l[i].f0.toNat % 2 : Nat) : Int) := by
      conv => lhs; rw [ef0]
      rw [shr_pow _ _ (by omega), tmod2]
    rw [esh, esr, bit_mod, k2]
    have k3' : bits .or .i64 (B : Int) ((2 ^ l[i].f0.toNat : Nat) : Int) = ((B ||| 2 ^ (toOf l[i]).b : Nat) : Int) := by rw [← k3, pow8 _ (by omega)]
    rw [k3']
    have e1 : bits .and .i64 (L : Int) l[i].f1 = ((L &&& (toOf l[i]).l : Nat) : Int) := by
      have : l[i].f1 = ((l[i].f1.toNat : Nat) : Int) := by omega
      conv => lhs; rw [this]
      rw [(bits63 L l[i].f1.toNat (by omega) (by omega)).1]; rfl
    rw [e1]
    have ew : wrap64 ((sum : Int) + l[i].f2) = ((sum + (toOf l[i]).p : Nat) : Int) := by
      show wrap64 ((sum : Int) + l[i].f2) = ((sum + l[i].f2.toNat : Nat) : Int)
      unfold wrap64; omega
    rw [ew, w64 _ (by omega)]
    by_cases c1 : L &&& (toOf l[i]).l = 0
    · rw [if_pos (by rw [c1]; rfl), if_pos ho.1]
      by_cases c2 : B.testBit l[i].f0.toNat = true
      · rw [if_pos c2, if_pos (by rfl), if_neg (fun h => by have := h.2.2; simp only [toOf] at this; rw [c2] at this; cases this)]
      · rw [if_neg c2, if_neg (by decide), if_pos ⟨by simp only [toOf]; omega, c1, by simp only [toOf]; simpa using c2⟩]
    · rw [if_neg (by omega), if_neg (fun h => c1 h.2.1)]
  simp only [kimberliteref05_Choice.l0, e0]
  rw [if_pos (by simp; omega), if_pos (by omega), if_neg (by omega), if_neg (by omega)]
  by_cases hp : pre.length > 0
  · rw [if_pos (by omega), if_pos (by unfold wrap64; omega), if_pos (by simp only [List.length_append, List.length_cons]; unfold wrap64; omega), decide_eq_false (by have := hlast hp; omega)]
    exact hj1
  · rw [if_neg (by omega)]; exact hj1
theorem ev_Choice_l (l : List S50) (hv : bValid l) : ∀ (s : List Bool) (i : Nat) (pre : List Int) (L B sum : Nat), i + s.length = l.length → (∀ x, pre.getLast? = some x → x < (i : Int)) → pre.length ≤ i → L < 4096 → B < 256 → sum ≤ 1073741824 * i →
    Ev (fun k => kimberliteref05_Choice.l0 k l (pre ++ idx i s) sum L B (pre.length : Int)) (if feas (-1) ((l.drop i).map toOf) s L B then (((sum + val ((l.drop i).map toOf) s : Nat) : Int), true) else (0, false))
  | [], i, pre, L, B, sum, hi, _, _, _, _, _ => by
    have hd : l.drop i = [] := List.drop_of_length_le (by simp at hi; omega)
    rw [hd]
    refine Ev.here fun k => ?_
    simp only [kimberliteref05_Choice.l0, idx, List.append_nil]
    rw [if_neg (by omega), List.map_nil, if_pos (by trivial)]; simp [val]
  | b :: s, i, pre, L, B, sum, hi, hpre, hpl, hL, hB, hs => by
    have hlt : i < l.length := by simp at hi; omega
    have hd : l.drop i = l[i] :: l.drop (i + 1) := List.drop_eq_getElem_cons hlt
    have ho := hv.2 l[i] (List.getElem_mem hlt)
    rw [hd, List.map_cons]
    cases b with
    | false =>
      have ih := ev_Choice_l l hv s (i + 1) pre L B sum (by simp at hi; omega) (fun x hx => by have := hpre x hx; omega) (by omega) hL hB (by omega)
      simp only [idx]
      rw [show ((i + 1 : Nat) : Int) = (i : Int) + 1 from by omega] at ih
      exact ih
    | true =>
      obtain ⟨k1, k2, k3, k4, k5⟩ := bOk_nok (-1) L B l[i] hL hB ho
      have ih := ev_Choice_l l hv s (i + 1) (pre ++ [(i : Int)]) (L ||| (toOf l[i]).l) (B ||| 2 ^ (toOf l[i]).b) (sum + (toOf l[i]).p) (by simp at hi; omega) (fun x hx => by simp at hx; omega) (by simp; omega) k4 k5 (by show sum + l[i].f2.toNat ≤ _; omega)
      simp only [idx]
      have hr := fun k => choice_round l hv i hlt pre (idx ((i : Int) + 1) s) hpre hpl L B hL hB sum hs k
      by_cases hk : nok (-1) L B (toOf l[i])
      · refine Ev.step (f := fun k => kimberliteref05_Choice.l0 (k + 1) l (pre ++ (i : Int) :: idx ((i : Int) + 1) s) sum L B (pre.length : Int)) (fun k => rfl) ?_
        refine Ev.step (f := fun k => kimberliteref05_Choice.l0 k l (pre ++ (i : Int) :: idx ((i : Int) + 1) s) ((sum + (toOf l[i]).p : Nat) : Int) ((L ||| (toOf l[i]).l : Nat) : Int) ((B ||| 2 ^ (toOf l[i]).b : Nat) : Int) ((pre.length + 1 : Nat) : Int)) (fun k => by rw [hr k, if_pos hk]) ?_
        have e : pre ++ (i : Int) :: idx ((i : Int) + 1) s = pre ++ [(i : Int)] ++ idx ((i + 1 : Nat) : Int) s := by simp
        have e2 : (pre ++ [(i : Int)]).length = pre.length + 1 := by simp
        rw [e2, ← e] at ih
        have hf : feas (-1) (toOf l[i] :: List.map toOf (List.drop (i + 1) l)) (true :: s) L B ↔ feas (-1) (List.map toOf (List.drop (i + 1) l)) s (L ||| (toOf l[i]).l) (B ||| 2 ^ (toOf l[i]).b) := ⟨fun h => h.2, fun h => ⟨hk, h⟩⟩
        have hval : val (toOf l[i] :: List.map toOf (List.drop (i + 1) l)) (true :: s) = (toOf l[i]).p + val (List.map toOf (List.drop (i + 1) l)) s := rfl
        rw [hval, ← Nat.add_assoc]
        by_cases hff : feas (-1) (List.map toOf (List.drop (i + 1) l)) s (L ||| (toOf l[i]).l) (B ||| 2 ^ (toOf l[i]).b)
        · rw [if_pos (hf.2 hff)]; rw [if_pos hff] at ih; exact ih
        · rw [if_neg (fun h => hff (hf.1 h))]; rw [if_neg hff] at ih; exact ih
      · rw [if_neg (fun h => hk h.1)]
        refine Ev.step (f := fun k => kimberliteref05_Choice.l0 (k + 1) l (pre ++ (i : Int) :: idx ((i : Int) + 1) s) sum L B (pre.length : Int)) (fun k => rfl) ?_
        exact Ev.step (f := fun _ => some (0, false)) (fun k => by rw [hr k, if_neg hk]) (Ev.now _)
theorem ev_Choice (l : List S50) (hv : bValid l) (s : List Bool) (hs : s.length = l.length) : Ev (fun k => kimberliteref05_Choice.f k l (idx 0 s)) (if feas (-1) (l.map toOf) s 0 0 then ((val (l.map toOf) s : Nat) : Int) else 0, decide (feas (-1) (l.map toOf) s 0 0)) := by
  have h := ev_Choice_l l hv s 0 [] 0 0 0 (by omega) (by simp) (by simp) (by decide) (by decide) (by omega)
  by_cases c : feas (-1) (l.map toOf) s 0 0
  · simpa [kimberliteref05_Choice.f, c] using h
  · simpa [kimberliteref05_Choice.f, c] using h
theorem idx_app : ∀ (s t : List Bool) (i : Int), idx i (s ++ t) = idx i s ++ idx (i + s.length) t
  | [], t, i => by simp [idx]
  | true :: s, t, i => by simp only [List.cons_append, idx, idx_app s t (i + 1), List.length_cons]; rw [show i + 1 + (s.length : Int) = i + ((s.length + 1 : Nat) : Int) from by omega]
  | false :: s, t, i => by simp only [List.cons_append, idx, idx_app s t (i + 1), List.length_cons]; rw [show i + 1 + (s.length : Int) = i + ((s.length + 1 : Nat) : Int) from by omega]
theorem idx_len : ∀ (s : List Bool) (i : Int), (idx i s).length ≤ s.length
  | [], _ => by simp [idx]
  | true :: s, i => by have := idx_len s (i + 1); simp only [idx, List.length_cons]; omega
  | false :: s, i => by have := idx_len s (i + 1); simp only [idx, List.length_cons]; omega
/-- The bit of a number that stands for a choice. -/
theorem num_bit : ∀ (s : List Bool) (b : Bool) (r : List Bool), num (s ++ b :: r) / 2 ^ r.length % 2 = if b = true then 1 else 0
  | [], b, r => by
    have := num_lt r
    have h0 : 0 < 2 ^ r.length := Nat.pos_of_ne_zero (by intro h; omega)
    cases b with
    | true => simp only [List.nil_append, num, if_true]; rw [Nat.add_div_left _ h0, Nat.div_eq_of_lt this]
    | false => simp only [List.nil_append, num]; rw [Nat.div_eq_of_lt this]; rfl
  | c :: s, b, r => by
    have ih := num_bit s b r
    cases c with
    | true =>
      simp only [List.cons_append, num]
      have e : (s ++ b :: r).length = r.length + (s.length + 1) := by simp; omega
      rw [e, Nat.pow_add, Nat.mul_comm, Nat.add_comm, Nat.add_mul_div_right _ _ (Nat.pos_of_ne_zero (by have := num_lt r; intro h; omega)), Nat.pow_succ, Nat.add_mul_mod_self_right]
      exact ih
    | false => simpa only [List.cons_append, num] using ih
def ofNum : Nat → Nat → List Bool
  | 0, _ => []
  | n + 1, m => if 2 ^ n ≤ m then true :: ofNum n (m - 2 ^ n) else false :: ofNum n m
theorem ofNum_len : ∀ n m, (ofNum n m).length = n
  | 0, _ => rfl
  | n + 1, m => by simp only [ofNum]; split <;> simp [ofNum_len]
theorem num_ofNum : ∀ n m, m < 2 ^ n → num (ofNum n m) = m
  | 0, m, h => by simp at h; subst h; rfl
  | n + 1, m, h => by
    rw [Nat.pow_succ] at h
    simp only [ofNum]
    split
    · simp only [num, ofNum_len]; rw [num_ofNum n _ (by omega)]; omega
    · simp only [num]; exact num_ofNum n m (by omega)
/-- One round of the reference's inner loop. -/
theorem best_round (l : List S50) (hv : bValid l) (wo : Int) (best : List Int) (most : Int) (pre : List Bool) (b : Bool) (r : List Bool) (hn : (pre ++ b :: r).length = l.length) (i : Nat) (hi : pre.length = i) (tk : List Int) (htk : tk.length ≤ i) (L B : Nat) (hL : L < 4096) (hB : B < 256) (hlt : i < l.length) (k : Nat) :
    ∃ L' B' : Int, kimberliteref05_Best.l1 (k + 2) l wo best most (num (pre ++ b :: r) : Int) tk true L B (i : Int) =
      if b = false then kimberliteref05_Best.l1 k l wo best most (num (pre ++ b :: r) : Int) tk true L B ((i + 1 : Nat) : Int)
      else if nok wo L B (toOf l[i]) then kimberliteref05_Best.l1 k l wo best most (num (pre ++ b :: r) : Int) (tk ++ [(i : Int)]) true ((L ||| (toOf l[i]).l : Nat) : Int) ((B ||| 2 ^ (toOf l[i]).b : Nat) : Int) ((i + 1 : Nat) : Int)
      else kimberliteref05_Best.l1 k l wo best most (num (pre ++ b :: r) : Int) (tk ++ [(i : Int)]) false L' B' ((i + 1 : Nat) : Int) := by
  have ho := hv.2 l[i] (List.getElem_mem hlt)
  have hl16 := hv.1
  obtain ⟨k1, k2, k3, k4, k5⟩ := bOk_nok wo L B l[i] hL hB ho
  have hnl : num (pre ++ b :: r) < 2 ^ 16 := by have := num_lt (pre ++ b :: r); have h2 : 2 ^ (pre ++ b :: r).length ≤ 2 ^ 16 := Nat.pow_le_pow_right (by decide) (by omega); omega
  have ef0 : l[i].f0 = ((l[i].f0.toNat : Nat) : Int) := by omega
  have esh : shl .i64 1 l[i].f0 = ((2 ^ l[i].f0.toNat : Nat) : Int) := by rw [ef0, shl_pow _ (by omega)]; rfl
  have esr : Int.tmod (shr .i64 (B : Int) l[i].f0) 2 = ((B / 2 ^ l[i].f0.toNat % 2 : Nat) : Int) := by
    conv => lhs; rw [ef0]
    rw [shr_pow _ _ (by omega), tmod2]
  have k3' : bits .or .i64 (B : Int) ((2 ^ l[i].f0.toNat : Nat) : Int) = ((B ||| 2 ^ (toOf l[i]).b : Nat) : Int) := by rw [← k3, pow8 _ (by omega)]
  have e1 : bits .and .i64 (L : Int) l[i].f1 = ((L &&& (toOf l[i]).l : Nat) : Int) := by
    have : l[i].f1 = ((l[i].f1.toNat : Nat) : Int) := by omega
    conv => lhs; rw [this]
    rw [(bits63 L l[i].f1.toNat (by omega) (by omega)).1]; rfl
  have hrl : (r.length : Int) = (l.length : Int) - 1 - (i : Int) := by simp at hn; omega
  have ew : wrap64 (wrap64 ((l.length : Int) - 1) - (i : Int)) = (r.length : Int) := by unfold wrap64; omega
  have hr15 : r.length ≤ 62 := by simp at hn; omega
  have eb : Int.tmod (shr .i64 (num (pre ++ b :: r) : Int) (r.length : Int)) 2 = if b = true then 1 else 0 := by
    rw [shr_pow _ _ hr15, tmod2, num_bit pre b r]; split <;> rfl
  refine ⟨((L ||| (toOf l[i]).l : Nat) : Int), ((B ||| 2 ^ (toOf l[i]).b : Nat) : Int), ?_⟩
  simp only [kimberliteref05_Best.l1, kimberliteref05_Best.j2]
  rw [if_pos (by omega), if_pos trivial, ew, if_pos (by omega), eb, w64 i (by omega)]
  cases b with
  | false => simp
  | true =>
    rw [if_neg (show ¬ ((if true = true then (1 : Int) else 0) = 0) by decide), if_neg (show ¬ (true = false) by decide), if_pos (by omega), if_pos (by omega), rd_get l i hlt, esh, esr, bit_mod, k2, k3', e1]
    by_cases c0 : l[i].f0 = wo
    · rw [if_pos c0, if_pos ho.1, if_pos (by omega), if_neg (fun h => h.1 (by simp only [toOf]; omega))]
    · rw [if_neg c0]
      by_cases c1 : L &&& (toOf l[i]).l = 0
      · rw [if_pos (by rw [c1]; rfl), if_pos ho.1, if_pos (by omega)]
        by_cases c2 : B.testBit l[i].f0.toNat = true
        · rw [if_pos c2, if_neg (fun h => by have := h.2.2; simp only [toOf] at this; rw [c2] at this; cases this)]; rfl
        · rw [if_neg c2, if_pos ⟨by simp only [toOf]; omega, c1, by simp only [toOf]; simpa using c2⟩]; rfl
      · rw [if_neg (by omega), if_pos ho.1, if_pos (by omega), if_neg (fun h => c1 h.2.1)]
theorem Ev.step2 {α : Type} {g f : Nat → Option α} {r : α} (h : ∀ k, g (k + 2) = f k) (k : Ev f r) : Ev g r := by
  refine Ev.step (f := fun k => g (k + 1)) (fun _ => rfl) (Ev.step (f := f) (fun k => h k) k)
/-- From an offer on: where the choice stands to the end, it is looked at; else the next set comes. -/
theorem ev_l1 (l : List S50) (hv : bValid l) (wo : Int) (best : List Int) (most : Int) (a : List Int × Int) : ∀ (s pre : List Bool) (i L B : Nat), (pre ++ s).length = l.length → pre.length = i → L < 4096 → B < 256 →
    (feas wo ((l.drop i).map toOf) s L B → feas (-1) (l.map toOf) (pre ++ s) 0 0) →
    (if feas wo ((l.drop i).map toOf) s L B then Ev (fun k => if ((val (l.map toOf) (pre ++ s) : Nat) : Int) > most then kimberliteref05_Best.l0 k l wo (idx 0 (pre ++ s)) ((val (l.map toOf) (pre ++ s) : Nat) : Int) (wrap64 ((num (pre ++ s) : Int) - 1)) else kimberliteref05_Best.l0 k l wo best most (wrap64 ((num (pre ++ s) : Int) - 1))) a
      else Ev (fun k => kimberliteref05_Best.l0 k l wo best most (wrap64 ((num (pre ++ s) : Int) - 1))) a) →
    Ev (fun k => kimberliteref05_Best.l1 k l wo best most (num (pre ++ s) : Int) (idx 0 pre) true L B (i : Int)) a
  | [], pre, i, L, B, hn, hi, hL, hB, hf, hr => by
    have hd : l.drop i = [] := List.drop_of_length_le (by simp at hn; omega)
    rw [hd] at hr hf
    rw [if_pos (by trivial)] at hr
    have hfe := hf (by trivial)
    rw [List.append_nil] at hr hn hfe ⊢
    have hc := ev_Choice l hv pre hn
    refine Ev.step2 (f := fun k => (kimberliteref05_Choice.f k l (idx 0 pre)).bind fun bt186 => (if bt186.1 > most then (kimberliteref05_Best.l0 k l wo (idx 0 pre) bt186.1 (wrap64 ((num pre : Int) - 1))) else (kimberliteref05_Best.l0 k l wo best most (wrap64 ((num pre : Int) - 1))))) (fun k => ?_) (Ev.bind hc ?_)
    · simp only [kimberliteref05_Best.l1, kimberliteref05_Best.j2]
      rw [if_neg (by omega), if_neg (by simp)]; simp
    · simp only [if_pos hfe]; exact hr
  | b :: r, pre, i, L, B, hn, hi, hL, hB, hf, hr => by
    have hlt : i < l.length := by simp at hn; omega
    have hd : l.drop i = l[i] :: l.drop (i + 1) := List.drop_eq_getElem_cons hlt
    have ho := hv.2 l[i] (List.getElem_mem hlt)
    obtain ⟨k1, k2, k3, k4, k5⟩ := bOk_nok wo L B l[i] hL hB ho
    have htk : (idx 0 pre).length ≤ i := by rw [← hi]; exact idx_len pre 0
    have hrd := fun k => best_round l hv wo best most pre b r hn i hi (idx 0 pre) htk L B hL hB hlt k
    rw [hd, List.map_cons] at hf hr
    have hpe : pre ++ b :: r = (pre ++ [b]) ++ r := by simp
    cases b with
    | false =>
      have ih := ev_l1 l hv wo best most a r (pre ++ [false]) (i + 1) L B (by rw [← hpe]; exact hn) (by simp; omega) hL hB (fun h => by rw [← hpe]; exact hf h) (by rw [← hpe]; exact hr)
      rw [← hpe] at ih
      have hx : idx 0 (pre ++ [false]) = idx 0 pre := by rw [idx_app]; simp [idx]
      rw [hx] at ih
      refine Ev.step2 (fun k => ?_) ih
      obtain ⟨L', B', e⟩ := hrd k
      rw [e, if_pos rfl]
    | true =>
      have hx : idx 0 (pre ++ [true]) = idx 0 pre ++ [(i : Int)] := by rw [idx_app]; simp [idx, hi]
      by_cases hk : nok wo L B (toOf l[i])
      · have hff : feas wo (toOf l[i] :: List.map toOf (List.drop (i + 1) l)) (true :: r) L B ↔ feas wo (List.map toOf (List.drop (i + 1) l)) r (L ||| (toOf l[i]).l) (B ||| 2 ^ (toOf l[i]).b) := ⟨fun h => h.2, fun h => ⟨hk, h⟩⟩
        have ih := ev_l1 l hv wo best most a r (pre ++ [true]) (i + 1) (L ||| (toOf l[i]).l) (B ||| 2 ^ (toOf l[i]).b) (by rw [← hpe]; exact hn) (by simp; omega) k4 k5 (fun h => by rw [← hpe]; exact hf (hff.2 h)) (by
          rw [← hpe]
          by_cases c : feas wo (List.map toOf (List.drop (i + 1) l)) r (L ||| (toOf l[i]).l) (B ||| 2 ^ (toOf l[i]).b)
          · rw [if_pos c]; rw [if_pos (hff.2 c)] at hr; exact hr
          · rw [if_neg c]; rw [if_neg (fun h => c (hff.1 h))] at hr; exact hr)
        rw [← hpe, hx] at ih
        refine Ev.step2 (fun k => ?_) ih
        obtain ⟨L', B', e⟩ := hrd k
        rw [e, if_neg (by decide), if_pos hk]
      · rw [if_neg (fun h => hk h.1)] at hr
        have hst : ∀ L' B' : Int, ∀ k, kimberliteref05_Best.l1 (k + 2) l wo best most (num (pre ++ true :: r) : Int) (idx 0 pre ++ [(i : Int)]) false L' B' ((i + 1 : Nat) : Int) = kimberliteref05_Best.l0 k l wo best most (wrap64 ((num (pre ++ true :: r) : Int) - 1)) := fun L' B' k => by
          simp only [kimberliteref05_Best.l1, kimberliteref05_Best.j2]
          by_cases c : ((i + 1 : Nat) : Int) < (l.length : Int)
          · rw [if_pos c]; simp
          · rw [if_neg c]; simp
        obtain ⟨K, hK⟩ := hr
        refine ⟨K + 4, fun k hk4 => ?_⟩
        obtain ⟨m, rfl⟩ : ∃ m, k = m + 2 + 2 := ⟨k - 4, by omega⟩
        obtain ⟨L', B', e⟩ := hrd (m + 2)
        dsimp only
        rw [e, if_neg (by decide), if_neg hk, hst]
        exact hK m (by omega)
end Go.Proofs.Ythfdjccdelbeeaa.PT
end
section
namespace Go.Proofs.Ythfdjccdelbeeaa.PT
open Go.RowKit Go.Proofs.YthfdjccdelbeeaaW.PrintWords Go.Proofs.YthfdjccdelbeeaaW.PrintLast Go.Proofs.YthfdjccdelbeeaaW.PrintMore
attribute [local go_sem] max2_int min2_int max_two min_two max_three min_three max_four min_four   -- for this text's walks alone
set_option linter.unusedVariables false
set_option linter.unusedSimpArgs false
def kimberlitelaw05_award.f (k : Nat) (l0_0 : List Int) (l0_1 : List Int) (a0_2 : Int) (l1_0 : List Int) (l1_1 : List Int) (a1_2 : Int) : Option (Bool) := (kimberlitelaw05_same.f k l0_0 l1_0).bind fun t242 => (if t242 = true then ((kimberlitelaw05_same.f k l0_1 l1_1).bind fun t243 => (if t243 = true then (some (a0_2 == a1_2)) else (some false))) else (some false))
theorem kimberlitelaw05_award.mono : ∀ a0 a1 a2 a3 a4 a5 k, LeO (kimberlitelaw05_award.f k a0 a1 a2 a3 a4 a5) (kimberlitelaw05_award.f (k + 1) a0 a1 a2 a3 a4 a5) := by
  intro a0 a1 a2 a3 a4 a5 k
  unfold kimberlitelaw05_award.f
  repeat' first
      | (with_reducible exact kimberlitelaw05_same.mono _ _ _)
      | (with_reducible exact LeO.refl _)
      | (with_reducible exact LeO.none _)
      | (with_reducible refine LeO.ite ?_ ?_)
      | (with_reducible refine LeO.bind ?_ (fun _ => ?_))
      | exact kimberlitelaw05_same.mono _ _ _
      | exact LeO.none _
      | refine LeO.ite ?_ ?_
      | refine LeO.bind ?_ (fun _ => ?_)
set_option maxHeartbeats 8000000 in
set_option maxRecDepth 100000 in
theorem kimberlitelaw05_award.calls (k : Nat) (A0_0 : Option Addr) (c0_0 : Nat) (l0_0 : List Int) (A0_1 : Option Addr) (c0_1 : Nat) (l0_1 : List Int) (a0_2 : Int) (A1_0 : Option Addr) (c1_0 : Nat) (l1_0 : List Int) (A1_1 : Option Addr) (c1_1 : Nat) (l1_1 : List Int) (a1_2 : Int) (r : Bool) (w : World) (hr0_0 : Kd.C (Kd.int .i64) w A0_0 l0_0.length l0_0) (hc0_0 : l0_0.length ≤ c0_0) (hr0_1 : Kd.C (Kd.int .i64) w A0_1 l0_1.length l0_1) (hc0_1 : l0_1.length ≤ c0_1) (hr1_0 : Kd.C (Kd.int .i64) w A1_0 l1_0.length l1_0) (hc1_0 : l1_0.length ≤ c1_0) (hr1_1 : Kd.C (Kd.int .i64) w A1_1 l1_1.length l1_1) (hc1_1 : l1_1.length ≤ c1_1) (h : kimberlitelaw05_award.f k l0_0 l0_1 a0_2 l1_0 l1_1 a1_2 = some r) :
    Calls Try.prog 27 #[.agg #[.slice A0_0 l0_0.length c0_0, .slice A0_1 l0_1.length c0_1, .int .i64 a0_2], .agg #[.slice A1_0 l1_0.length c1_0, .slice A1_1 l1_1.length c1_1, .int .i64 a1_2]] w fun e w' => e = .returned (.bool r) ∧ Below w.heap.size w w' := by
  have hu44 := Try.underlying44
  have HR0_0 := Aside0.mk hr0_0
  have HC0_0 := Aside0.mk hc0_0
  clear hr0_0 hc0_0
  have HR0_1 := Aside0.mk hr0_1
  have HC0_1 := Aside0.mk hc0_1
  clear hr0_1 hc0_1
  have HR1_0 := Aside0.mk hr1_0
  have HC1_0 := Aside0.mk hc1_0
  clear hr1_0 hc1_0
  have HR1_1 := Aside0.mk hr1_1
  have HC1_1 := Aside0.mk hc1_1
  clear hr1_1 hc1_1
  have HB := Aside0.mk (Below.refl w.heap.size w)
  have H : ((kimberlitelaw05_same.f k l0_0 l1_0).bind fun t242 => (if t242 = true then ((kimberlitelaw05_same.f k l0_1 l1_1).bind fun t243 => (if t243 = true then (some (a0_2 == a1_2)) else (some false))) else (some false))) = some r := h
  clear h
  replace H := Option.bind_eq_some_iff.mp H
  obtain ⟨t242, A30, H⟩ := H
  replace H : (if t242 = true then ((kimberlitelaw05_same.f k l0_1 l1_1).bind fun t243 => (if t243 = true then (some (a0_2 == a1_2)) else (some false))) else (some false)) = some r := H
  have A3 := Aside0.mk A30
  clear A30
  by_cases c4 : t242 = true
  · subst c4
    have H1 : ((kimberlitelaw05_same.f k l0_1 l1_1).bind fun t243 => (if t243 = true then (some (a0_2 == a1_2)) else (some false))) = some r := by rw [if_pos rfl] at H; exact H
    clear H
    have H := H1
    clear H1
    replace H := Option.bind_eq_some_iff.mp H
    obtain ⟨t243, A50, H⟩ := H
    replace H : (if t243 = true then (some (a0_2 == a1_2)) else (some false)) = some r := H
    have A5 := Aside0.mk A50
    clear A50
    by_cases c6 : t243 = true
    · subst c6
      have H1 : (some (a0_2 == a1_2)) = some r := by rw [if_pos rfl] at H; exact H
      clear H
      have H := H1
      clear H1
      obtain rfl := Option.some.inj H
      go_enter Try.func27, Try.ntmps27
      go_wp2_with (first | ((with_reducible refine gate_dst (N := 2) rfl ?_); refine box_event ?hg (N := 2) ?hd (cs := #[.slice A0_0 l0_0.length c0_0, .slice A0_1 l0_1.length c0_1, .int .i64 a0_2]) (t := 44) ?hr ?_; (case hd => rfl); (case hg => rfl); (case hr => first | (go_simp; done) | (go_simp; rfl)); intro gb240 hg w7 hbox hb; have n0_ := Aside0.mk (below_step (by repeat (first | (with_reducible first | exact HB.out | apply below_alloc | apply pw_below_drewN | apply below_drew1) | exact HB.out)) hb); have n1_ := Aside0.mk (hbox); have n2_ := Aside0.mk ((by rw [hg]; exact (below_size (by repeat (first | (with_reducible first | exact HB.out | apply below_alloc | apply pw_below_drewN | apply below_drew1) | exact HB.out))) : w.heap.size ≤ gb240)); have n3_ := Aside0.mk ((by rw [hg]; exact (below_size (by repeat (first | (with_reducible first | exact HB.out | apply below_alloc | apply pw_below_drewN | apply below_drew1) | exact HB.out))) : w.heap.size ≤ gb240)); clear HB; have HB := n0_; have BK240 := n1_; have GW240 := n2_; have GE240 := n3_; clear n0_ n1_ n2_ n3_; clear hb hbox hg) | ((with_reducible refine gate_dst (N := 3) rfl ?_); refine box_event ?hg (N := 3) ?hd (cs := #[.slice A1_0 l1_0.length c1_0, .slice A1_1 l1_1.length c1_1, .int .i64 a1_2]) (t := 44) ?hr ?_; (case hd => rfl); (case hg => rfl); (case hr => first | (go_simp; done) | (go_simp; rfl)); intro gb241 hg w8 hbox hb; have n0_ := Aside0.mk (blk_below (g := gb240) (o := .cells #[.slice A0_0 l0_0.length c0_0, .slice A0_1 l0_1.length c0_1, .int .i64 a0_2] 44 (0, 0)) (by (with_reducible repeat (first | refine blk_drewN ?_ _ | refine blk_drew ?_ | refine blk_alloc ?_ _)); exact BK240.out) hb); have n1_ := Aside0.mk (below_step (by repeat (first | (with_reducible first | exact HB.out | apply below_alloc | apply pw_below_drewN | apply below_drew1 | refine below_set ?_ GE240.out) | exact HB.out)) hb); have n2_ := Aside0.mk (hbox); have n3_ := Aside0.mk ((by rw [hg]; exact (below_size (by repeat (first | (with_reducible first | exact HB.out | apply below_alloc | apply pw_below_drewN | apply below_drew1 | refine below_set ?_ GE240.out) | exact HB.out))) : w.heap.size ≤ gb241)); have n4_ := Aside0.mk ((by rw [hg]; exact (below_size (by repeat (first | (with_reducible first | exact HB.out | apply below_alloc | apply pw_below_drewN | apply below_drew1 | refine below_set ?_ GE240.out) | exact HB.out))) : w.heap.size ≤ gb241)); have n5_ := Aside0.mk ((by rw [hg]; exact Nat.ne_of_lt (blk_lt (g := gb240) (o := .cells #[.slice A0_0 l0_0.length c0_0, .slice A0_1 l0_1.length c0_1, .int .i64 a0_2] 44 (0, 0)) (by (with_reducible repeat (first | refine blk_drewN ?_ _ | refine blk_drew ?_ | refine blk_alloc ?_ _)); exact BK240.out)) : gb240 ≠ gb241)); have n6_ := Aside0.mk ((by rw [hg]; exact Nat.ne_of_gt (blk_lt (g := gb240) (o := .cells #[.slice A0_0 l0_0.length c0_0, .slice A0_1 l0_1.length c0_1, .int .i64 a0_2] 44 (0, 0)) (by (with_reducible repeat (first | refine blk_drewN ?_ _ | refine blk_drew ?_ | refine blk_alloc ?_ _)); exact BK240.out)) : gb241 ≠ gb240)); clear BK240; clear HB; have BK240 := n0_; have HB := n1_; have BK241 := n2_; have GW241 := n3_; have GE241 := n4_; have NB240_241 := n5_; have NB241_240 := n6_; clear n0_ n1_ n2_ n3_ n4_ n5_ n6_; clear hb hbox hg; have hnb9 := NB240_241.out; have hnc9 := NB241_240.out; have hcz10_0 : w8.cell? ⟨gb240, 0, none⟩ = some (.slice A0_0 l0_0.length c0_0) := (blk_cell BK240.out 0).trans rfl; have hcz10_1 : w8.cell? ⟨gb240, 1, none⟩ = some (.slice A0_1 l0_1.length c0_1) := (blk_cell BK240.out 1).trans rfl; have hcz10_2 : w8.cell? ⟨gb240, 2, none⟩ = some (.int .i64 a0_2) := (blk_cell BK240.out 2).trans rfl; have hfz10_0 := blk_frozen BK240.out 0; have hfz10_1 := blk_frozen BK240.out 1; have hfz10_2 := blk_frozen BK240.out 2; have hcz11_0 : w8.cell? ⟨gb241, 0, none⟩ = some (.slice A1_0 l1_0.length c1_0) := (blk_cell BK241.out 0).trans rfl; have hcz11_1 : w8.cell? ⟨gb241, 1, none⟩ = some (.slice A1_1 l1_1.length c1_1) := (blk_cell BK241.out 1).trans rfl; have hcz11_2 : w8.cell? ⟨gb241, 2, none⟩ = some (.int .i64 a1_2) := (blk_cell BK241.out 2).trans rfl; have hfz11_0 := blk_frozen BK241.out 0; have hfz11_1 := blk_frozen BK241.out 1; have hfz11_2 := blk_frozen BK241.out 2) | ((with_reducible refine gate_callee (f := 22) rfl ?_); refine goesL_ (some 9) rfl rfl Try.func22 (by kernel_rfl) rfl #[.slice A0_0 l0_0.length c0_0, .slice A1_0 l1_0.length c1_0] rfl (by (try simp only [List.map_toArray, List.map_cons, List.map_nil]); first | done | rfl | (simp only [List.length_drop, List.length_take]; rfl)) ?_; (with_reducible refine (kimberlitelaw05_same.calls k _ _ l0_0 _ _ l1_0 true _ ?side1 ?side2 ?side3 ?side4 A3.out).mono ?_); (case side1 => repeat (first | exact (Kd.C_below HR0_0.out HB.out) | (with_reducible refine Kd.C_alloc ?_ _) | (with_reducible refine Kd.C_drewN ?_ _) | (with_reducible refine Kd.C_drew ?_))); (case side2 => exact HC0_0.out); (case side3 => repeat (first | exact (Kd.C_below HR1_0.out HB.out) | (with_reducible refine Kd.C_alloc ?_ _) | (with_reducible refine Kd.C_drewN ?_ _) | (with_reducible refine Kd.C_drew ?_))); (case side4 => exact HC1_0.out); rintro e w' ⟨rfl, ⟨nd, rfl⟩⟩; refine ⟨_, rfl, ?_⟩) | (go_at_call 22; (with_reducible refine (kimberlitelaw05_same.calls k _ _ l0_1 _ _ l1_1 true _ ?side1 ?side2 ?side3 ?side4 A5.out).mono ?_); (case side1 => repeat (first | exact (Kd.C_below HR0_1.out (by repeat (first | (with_reducible first | exact HB.out | apply below_alloc | apply pw_below_drewN | apply below_drew1 | refine below_set ?_ GE240.out | refine below_set ?_ GE241.out) | exact HB.out))) | (with_reducible refine Kd.C_alloc ?_ _) | (with_reducible refine Kd.C_drewN ?_ _) | (with_reducible refine Kd.C_drew ?_))); (case side2 => exact HC0_1.out); (case side3 => repeat (first | exact (Kd.C_below HR1_1.out (by repeat (first | (with_reducible first | exact HB.out | apply below_alloc | apply pw_below_drewN | apply below_drew1 | refine below_set ?_ GE240.out | refine below_set ?_ GE241.out) | exact HB.out))) | (with_reducible refine Kd.C_alloc ?_ _) | (with_reducible refine Kd.C_drewN ?_ _) | (with_reducible refine Kd.C_drew ?_))); (case side4 => exact HC1_1.out); rintro e w' ⟨rfl, ⟨nd, rfl⟩⟩))
      go_ret
      exact ⟨by first | rfl | (simp [errW_none, errW_some] <;> rfl) | (simp [*, errW_none, errW_some] <;> rfl), by repeat (first | (with_reducible first | exact HB.out | apply below_alloc | apply pw_below_drewN | apply below_drew1 | refine below_set ?_ GE240.out | refine below_set ?_ GE241.out) | exact HB.out)⟩
    · replace c6 := Bool.eq_false_iff.mpr c6
      subst c6
      have H1 : (some false) = some r := by rw [if_neg (show ¬ (false = true) by decide)] at H; exact H
      clear H
      have H := H1
      clear H1
      obtain rfl := Option.some.inj H
      go_enter Try.func27, Try.ntmps27
      go_wp2_with (first | ((with_reducible refine gate_dst (N := 2) rfl ?_); refine box_event ?hg (N := 2) ?hd (cs := #[.slice A0_0 l0_0.length c0_0, .slice A0_1 l0_1.length c0_1, .int .i64 a0_2]) (t := 44) ?hr ?_; (case hd => rfl); (case hg => rfl); (case hr => first | (go_simp; done) | (go_simp; rfl)); intro gb240 hg w12 hbox hb; have n0_ := Aside0.mk (below_step (by repeat (first | (with_reducible first | exact HB.out | apply below_alloc | apply pw_below_drewN | apply below_drew1) | exact HB.out)) hb); have n1_ := Aside0.mk (hbox); have n2_ := Aside0.mk ((by rw [hg]; exact (below_size (by repeat (first | (with_reducible first | exact HB.out | apply below_alloc | apply pw_below_drewN | apply below_drew1) | exact HB.out))) : w.heap.size ≤ gb240)); have n3_ := Aside0.mk ((by rw [hg]; exact (below_size (by repeat (first | (with_reducible first | exact HB.out | apply below_alloc | apply pw_below_drewN | apply below_drew1) | exact HB.out))) : w.heap.size ≤ gb240)); clear HB; have HB := n0_; have BK240 := n1_; have GW240 := n2_; have GE240 := n3_; clear n0_ n1_ n2_ n3_; clear hb hbox hg) | ((with_reducible refine gate_dst (N := 3) rfl ?_); refine box_event ?hg (N := 3) ?hd (cs := #[.slice A1_0 l1_0.length c1_0, .slice A1_1 l1_1.length c1_1, .int .i64 a1_2]) (t := 44) ?hr ?_; (case hd => rfl); (case hg => rfl); (case hr => first | (go_simp; done) | (go_simp; rfl)); intro gb241 hg w13 hbox hb; have n0_ := Aside0.mk (blk_below (g := gb240) (o := .cells #[.slice A0_0 l0_0.length c0_0, .slice A0_1 l0_1.length c0_1, .int .i64 a0_2] 44 (0, 0)) (by (with_reducible repeat (first | refine blk_drewN ?_ _ | refine blk_drew ?_ | refine blk_alloc ?_ _)); exact BK240.out) hb); have n1_ := Aside0.mk (below_step (by repeat (first | (with_reducible first | exact HB.out | apply below_alloc | apply pw_below_drewN | apply below_drew1 | refine below_set ?_ GE240.out) | exact HB.out)) hb); have n2_ := Aside0.mk (hbox); have n3_ := Aside0.mk ((by rw [hg]; exact (below_size (by repeat (first | (with_reducible first | exact HB.out | apply below_alloc | apply pw_below_drewN | apply below_drew1 | refine below_set ?_ GE240.out) | exact HB.out))) : w.heap.size ≤ gb241)); have n4_ := Aside0.mk ((by rw [hg]; exact (below_size (by repeat (first | (with_reducible first | exact HB.out | apply below_alloc | apply pw_below_drewN | apply below_drew1 | refine below_set ?_ GE240.out) | exact HB.out))) : w.heap.size ≤ gb241)); have n5_ := Aside0.mk ((by rw [hg]; exact Nat.ne_of_lt (blk_lt (g := gb240) (o := .cells #[.slice A0_0 l0_0.length c0_0, .slice A0_1 l0_1.length c0_1, .int .i64 a0_2] 44 (0, 0)) (by (with_reducible repeat (first | refine blk_drewN ?_ _ | refine blk_drew ?_ | refine blk_alloc ?_ _)); exact BK240.out)) : gb240 ≠ gb241)); have n6_ := Aside0.mk ((by rw [hg]; exact Nat.ne_of_gt (blk_lt (g := gb240) (o := .cells #[.slice A0_0 l0_0.length c0_0, .slice A0_1 l0_1.length c0_1, .int .i64 a0_2] 44 (0, 0)) (by (with_reducible repeat (first | refine blk_drewN ?_ _ | refine blk_drew ?_ | refine blk_alloc ?_ _)); exact BK240.out)) : gb241 ≠ gb240)); clear BK240; clear HB; have BK240 := n0_; have HB := n1_; have BK241 := n2_; have GW241 := n3_; have GE241 := n4_; have NB240_241 := n5_; have NB241_240 := n6_; clear n0_ n1_ n2_ n3_ n4_ n5_ n6_; clear hb hbox hg; have hnb14 := NB240_241.out; have hnc14 := NB241_240.out; have hcz15_0 : w13.cell? ⟨gb240, 0, none⟩ = some (.slice A0_0 l0_0.length c0_0) := (blk_cell BK240.out 0).trans rfl; have hcz15_1 : w13.cell? ⟨gb240, 1, none⟩ = some (.slice A0_1 l0_1.length c0_1) := (blk_cell BK240.out 1).trans rfl; have hcz15_2 : w13.cell? ⟨gb240, 2, none⟩ = some (.int .i64 a0_2) := (blk_cell BK240.out 2).trans rfl; have hfz15_0 := blk_frozen BK240.out 0; have hfz15_1 := blk_frozen BK240.out 1; have hfz15_2 := blk_frozen BK240.out 2; have hcz16_0 : w13.cell? ⟨gb241, 0, none⟩ = some (.slice A1_0 l1_0.length c1_0) := (blk_cell BK241.out 0).trans rfl; have hcz16_1 : w13.cell? ⟨gb241, 1, none⟩ = some (.slice A1_1 l1_1.length c1_1) := (blk_cell BK241.out 1).trans rfl; have hcz16_2 : w13.cell? ⟨gb241, 2, none⟩ = some (.int .i64 a1_2) := (blk_cell BK241.out 2).trans rfl; have hfz16_0 := blk_frozen BK241.out 0; have hfz16_1 := blk_frozen BK241.out 1; have hfz16_2 := blk_frozen BK241.out 2) | ((with_reducible refine gate_callee (f := 22) rfl ?_); refine goesL_ (some 9) rfl rfl Try.func22 (by kernel_rfl) rfl #[.slice A0_0 l0_0.length c0_0, .slice A1_0 l1_0.length c1_0] rfl (by (try simp only [List.map_toArray, List.map_cons, List.map_nil]); first | done | rfl | (simp only [List.length_drop, List.length_take]; rfl)) ?_; (with_reducible refine (kimberlitelaw05_same.calls k _ _ l0_0 _ _ l1_0 true _ ?side1 ?side2 ?side3 ?side4 A3.out).mono ?_); (case side1 => repeat (first | exact (Kd.C_below HR0_0.out HB.out) | (with_reducible refine Kd.C_alloc ?_ _) | (with_reducible refine Kd.C_drewN ?_ _) | (with_reducible refine Kd.C_drew ?_))); (case side2 => exact HC0_0.out); (case side3 => repeat (first | exact (Kd.C_below HR1_0.out HB.out) | (with_reducible refine Kd.C_alloc ?_ _) | (with_reducible refine Kd.C_drewN ?_ _) | (with_reducible refine Kd.C_drew ?_))); (case side4 => exact HC1_0.out); rintro e w' ⟨rfl, ⟨nd, rfl⟩⟩; refine ⟨_, rfl, ?_⟩) | (go_at_call 22; (with_reducible refine (kimberlitelaw05_same.calls k _ _ l0_1 _ _ l1_1 false _ ?side1 ?side2 ?side3 ?side4 A5.out).mono ?_); (case side1 => repeat (first | exact (Kd.C_below HR0_1.out (by repeat (first | (with_reducible first | exact HB.out | apply below_alloc | apply pw_below_drewN | apply below_drew1 | refine below_set ?_ GE240.out | refine below_set ?_ GE241.out) | exact HB.out))) | (with_reducible refine Kd.C_alloc ?_ _) | (with_reducible refine Kd.C_drewN ?_ _) | (with_reducible refine Kd.C_drew ?_))); (case side2 => exact HC0_1.out); (case side3 => repeat (first | exact (Kd.C_below HR1_1.out (by repeat (first | (with_reducible first | exact HB.out | apply below_alloc | apply pw_below_drewN | apply below_drew1 | refine below_set ?_ GE240.out | refine below_set ?_ GE241.out) | exact HB.out))) | (with_reducible refine Kd.C_alloc ?_ _) | (with_reducible refine Kd.C_drewN ?_ _) | (with_reducible refine Kd.C_drew ?_))); (case side4 => exact HC1_1.out); rintro e w' ⟨rfl, ⟨nd, rfl⟩⟩))
      go_ret
      exact ⟨by first | rfl | (simp [errW_none, errW_some] <;> rfl) | (simp [*, errW_none, errW_some] <;> rfl), by repeat (first | (with_reducible first | exact HB.out | apply below_alloc | apply pw_below_drewN | apply below_drew1 | refine below_set ?_ GE240.out | refine below_set ?_ GE241.out) | exact HB.out)⟩
  · replace c4 := Bool.eq_false_iff.mpr c4
    subst c4
    have H1 : (some false) = some r := by rw [if_neg (show ¬ (false = true) by decide)] at H; exact H
    clear H
    have H := H1
    clear H1
    obtain rfl := Option.some.inj H
    go_enter Try.func27, Try.ntmps27
    go_wp2_with (first | ((with_reducible refine gate_dst (N := 2) rfl ?_); refine box_event ?hg (N := 2) ?hd (cs := #[.slice A0_0 l0_0.length c0_0, .slice A0_1 l0_1.length c0_1, .int .i64 a0_2]) (t := 44) ?hr ?_; (case hd => rfl); (case hg => rfl); (case hr => first | (go_simp; done) | (go_simp; rfl)); intro gb240 hg w17 hbox hb; have n0_ := Aside0.mk (below_step (by repeat (first | (with_reducible first | exact HB.out | apply below_alloc | apply pw_below_drewN | apply below_drew1) | exact HB.out)) hb); have n1_ := Aside0.mk (hbox); have n2_ := Aside0.mk ((by rw [hg]; exact (below_size (by repeat (first | (with_reducible first | exact HB.out | apply below_alloc | apply pw_below_drewN | apply below_drew1) | exact HB.out))) : w.heap.size ≤ gb240)); have n3_ := Aside0.mk ((by rw [hg]; exact (below_size (by repeat (first | (with_reducible first | exact HB.out | apply below_alloc | apply pw_below_drewN | apply below_drew1) | exact HB.out))) : w.heap.size ≤ gb240)); clear HB; have HB := n0_; have BK240 := n1_; have GW240 := n2_; have GE240 := n3_; clear n0_ n1_ n2_ n3_; clear hb hbox hg) | ((with_reducible refine gate_dst (N := 3) rfl ?_); refine box_event ?hg (N := 3) ?hd (cs := #[.slice A1_0 l1_0.length c1_0, .slice A1_1 l1_1.length c1_1, .int .i64 a1_2]) (t := 44) ?hr ?_; (case hd => rfl); (case hg => rfl); (case hr => first | (go_simp; done) | (go_simp; rfl)); intro gb241 hg w18 hbox hb; have n0_ := Aside0.mk (blk_below (g := gb240) (o := .cells #[.slice A0_0 l0_0.length c0_0, .slice A0_1 l0_1.length c0_1, .int .i64 a0_2] 44 (0, 0)) (by (with_reducible repeat (first | refine blk_drewN ?_ _ | refine blk_drew ?_ | refine blk_alloc ?_ _)); exact BK240.out) hb); have n1_ := Aside0.mk (below_step (by repeat (first | (with_reducible first | exact HB.out | apply below_alloc | apply pw_below_drewN | apply below_drew1 | refine below_set ?_ GE240.out) | exact HB.out)) hb); have n2_ := Aside0.mk (hbox); have n3_ := Aside0.mk ((by rw [hg]; exact (below_size (by repeat (first | (with_reducible first | exact HB.out | apply below_alloc | apply pw_below_drewN | apply below_drew1 | refine below_set ?_ GE240.out) | exact HB.out))) : w.heap.size ≤ gb241)); have n4_ := Aside0.mk ((by rw [hg]; exact (below_size (by repeat (first | (with_reducible first | exact HB.out | apply below_alloc | apply pw_below_drewN | apply below_drew1 | refine below_set ?_ GE240.out) | exact HB.out))) : w.heap.size ≤ gb241)); have n5_ := Aside0.mk ((by rw [hg]; exact Nat.ne_of_lt (blk_lt (g := gb240) (o := .cells #[.slice A0_0 l0_0.length c0_0, .slice A0_1 l0_1.length c0_1, .int .i64 a0_2] 44 (0, 0)) (by (with_reducible repeat (first | refine blk_drewN ?_ _ | refine blk_drew ?_ | refine blk_alloc ?_ _)); exact BK240.out)) : gb240 ≠ gb241)); have n6_ := Aside0.mk ((by rw [hg]; exact Nat.ne_of_gt (blk_lt (g := gb240) (o := .cells #[.slice A0_0 l0_0.length c0_0, .slice A0_1 l0_1.length c0_1, .int .i64 a0_2] 44 (0, 0)) (by (with_reducible repeat (first | refine blk_drewN ?_ _ | refine blk_drew ?_ | refine blk_alloc ?_ _)); exact BK240.out)) : gb241 ≠ gb240)); clear BK240; clear HB; have BK240 := n0_; have HB := n1_; have BK241 := n2_; have GW241 := n3_; have GE241 := n4_; have NB240_241 := n5_; have NB241_240 := n6_; clear n0_ n1_ n2_ n3_ n4_ n5_ n6_; clear hb hbox hg; have hnb19 := NB240_241.out; have hnc19 := NB241_240.out; have hcz20_0 : w18.cell? ⟨gb240, 0, none⟩ = some (.slice A0_0 l0_0.length c0_0) := (blk_cell BK240.out 0).trans rfl; have hcz20_1 : w18.cell? ⟨gb240, 1, none⟩ = some (.slice A0_1 l0_1.length c0_1) := (blk_cell BK240.out 1).trans rfl; have hcz20_2 : w18.cell? ⟨gb240, 2, none⟩ = some (.int .i64 a0_2) := (blk_cell BK240.out 2).trans rfl; have hfz20_0 := blk_frozen BK240.out 0; have hfz20_1 := blk_frozen BK240.out 1; have hfz20_2 := blk_frozen BK240.out 2; have hcz21_0 : w18.cell? ⟨gb241, 0, none⟩ = some (.slice A1_0 l1_0.length c1_0) := (blk_cell BK241.out 0).trans rfl; have hcz21_1 : w18.cell? ⟨gb241, 1, none⟩ = some (.slice A1_1 l1_1.length c1_1) := (blk_cell BK241.out 1).trans rfl; have hcz21_2 : w18.cell? ⟨gb241, 2, none⟩ = some (.int .i64 a1_2) := (blk_cell BK241.out 2).trans rfl; have hfz21_0 := blk_frozen BK241.out 0; have hfz21_1 := blk_frozen BK241.out 1; have hfz21_2 := blk_frozen BK241.out 2) | ((with_reducible refine gate_callee (f := 22) rfl ?_); refine goesL_ (some 9) rfl rfl Try.func22 (by kernel_rfl) rfl #[.slice A0_0 l0_0.length c0_0, .slice A1_0 l1_0.length c1_0] rfl (by (try simp only [List.map_toArray, List.map_cons, List.map_nil]); first | done | rfl | (simp only [List.length_drop, List.length_take]; rfl)) ?_; (with_reducible refine (kimberlitelaw05_same.calls k _ _ l0_0 _ _ l1_0 false _ ?side1 ?side2 ?side3 ?side4 A3.out).mono ?_); (case side1 => repeat (first | exact (Kd.C_below HR0_0.out HB.out) | (with_reducible refine Kd.C_alloc ?_ _) | (with_reducible refine Kd.C_drewN ?_ _) | (with_reducible refine Kd.C_drew ?_))); (case side2 => exact HC0_0.out); (case side3 => repeat (first | exact (Kd.C_below HR1_0.out HB.out) | (with_reducible refine Kd.C_alloc ?_ _) | (with_reducible refine Kd.C_drewN ?_ _) | (with_reducible refine Kd.C_drew ?_))); (case side4 => exact HC1_0.out); rintro e w' ⟨rfl, ⟨nd, rfl⟩⟩; refine ⟨_, rfl, ?_⟩))
    go_ret
    exact ⟨by first | rfl | (simp [errW_none, errW_some] <;> rfl) | (simp [*, errW_none, errW_some] <;> rfl), by repeat (first | (with_reducible first | exact HB.out | apply below_alloc | apply pw_below_drewN | apply below_drew1 | refine below_set ?_ GE240.out | refine below_set ?_ GE241.out) | exact HB.out)⟩
def kimberlitelaw05_without.l0 : Nat → List (S50) → Int → List (S50) → Int → Option ((List (S50)))
  | 0, _, _, _, _ => none
  | k + 1, x0, x1, x5, x6 => if x6 < (x0.length : Int) then (if 0 ≤ x6 then (if ((rd_T50 x0 x6).f0) = x1 then (kimberlitelaw05_without.l0 k x0 x1 x5 (wrap64 (x6 + 1))) else (if x5.length < 5864062014805 then (kimberlitelaw05_without.l0 k x0 x1 (x5 ++ [(⟨(rd_T50 x0 x6).f0, (rd_T50 x0 x6).f1, (rd_T50 x0 x6).f2⟩ : S50)]) (wrap64 (x6 + 1))) else (none))) else (none)) else (some x5)
def kimberlitelaw05_without.f (k : Nat) (l0 : List (S50)) (a1 : Int) : Option ((List (S50))) := kimberlitelaw05_without.l0 k l0 a1 ([] : List (S50)) 0
theorem kimberlitelaw05_without.mono_l : ∀ k, (∀ y0 y1 y2 y3, LeO (kimberlitelaw05_without.l0 k y0 y1 y2 y3) (kimberlitelaw05_without.l0 (k + 1) y0 y1 y2 y3))
  | 0 => fun _ _ _ _ r h => by simp [kimberlitelaw05_without.l0] at h
  | k + 1 => by
    have ih0 := kimberlitelaw05_without.mono_l k
    · intro y0 y1 y2 y3
      unfold kimberlitelaw05_without.l0
      repeat' first
      | (with_reducible exact ih0 _ _ _ _)
      | (with_reducible exact LeO.refl _)
      | (with_reducible exact LeO.none _)
      | (with_reducible refine LeO.ite ?_ ?_)
      | (with_reducible refine LeO.bind ?_ (fun _ => ?_))
      | exact ih0 _ _ _ _
      | exact LeO.none _
      | refine LeO.ite ?_ ?_
      | refine LeO.bind ?_ (fun _ => ?_)
theorem kimberlitelaw05_without.mono : ∀ a0 a1 k, LeO (kimberlitelaw05_without.f k a0 a1) (kimberlitelaw05_without.f (k + 1) a0 a1) := by
  intro a0 a1 k
  have ih0 := kimberlitelaw05_without.mono_l k
  unfold kimberlitelaw05_without.f
  repeat' first
      | (with_reducible exact ih0 _ _ _ _)
      | (with_reducible exact LeO.refl _)
      | (with_reducible exact LeO.none _)
      | (with_reducible refine LeO.ite ?_ ?_)
      | (with_reducible refine LeO.bind ?_ (fun _ => ?_))
      | exact ih0 _ _ _ _
      | exact LeO.none _
      | refine LeO.ite ?_ ?_
      | refine LeO.bind ?_ (fun _ => ?_)
set_option maxHeartbeats 8000000 in
set_option maxRecDepth 100000 in
theorem kimberlitelaw05_without.calls (k : Nat) (A0 : Option Addr) (c0 : Nat) (l0 : List (S50)) (a1 : Int) (r : List (S50)) (w : World) (hr0 : Kd.C k50 w A0 l0.length l0) (hc0 : l0.length ≤ c0) (h : kimberlitelaw05_without.f k l0 a1 = some r) :
    Calls Try.prog 28 #[.slice A0 l0.length c0, .int .i64 a1] w fun e w' => ∃ v0_ : Value, e = .returned (v0_) ∧ Kd.R k50 50 w' w.heap.size (fun _ => True) v0_ r ∧ Below w.heap.size w w' := by
  have hu50 := Try.underlying50
  have HR0 := Aside0.mk hr0
  have HC0 := Aside0.mk hc0
  clear hr0 hc0
  have HB := Aside0.mk (Below.refl w.heap.size w)
  have H : (kimberlitelaw05_without.l0 k l0 a1 ([] : List (S50)) 0) = some r := h
  clear h
  have H' := Aside0.mk H
  clear H
  go_enter Try.func28, Try.ntmps28
  go_wp2
  go_loopg [5, 6] k (fun kq v5 v6 w' => ∃ (x5_1 : List (S50)) (x6_1 : Int), v6 = .int .i64 x6_1 ∧ Aside0 (kimberlitelaw05_without.l0 kq l0 a1 x5_1 x6_1 = some r) ∧ Aside0 (kq ≤ k) ∧ Aside0 (Kd.R k50 50 w' w.heap.size (fun _ => True) v5 x5_1) ∧ Aside0 (Below w.heap.size w w'))
  case atStart => exact ⟨(([] : List (S50))), (0), (by first | rfl | (simp; done) | (simp [*]; done)), H', ⟨Nat.le_refl _⟩, ⟨by first | exact Kd.R_nil _ _ _ _ _ | exact Kd.N_nil _ _ _ _ _ | exact Kd.V_nil _ _ _ _ _ | exact Kd.Q_nil _ _ _ _ _ | exact Kd.S_nil _ _ _ _ _⟩, ⟨by repeat (first | (with_reducible first | exact HB.out | apply below_alloc | apply pw_below_drewN | apply below_drew1) | exact HB.out)⟩⟩
  case round =>
    clear H'
    try clear c2
    try clear p2
    obtain ⟨x5_1, x6_1, rfl, HA, HK1, HO_5, HB⟩ := hrel
    cases gk with
    | zero => exact absurd HA.out (by simp [kimberlitelaw05_without.l0])
    | succ k1 =>
      have H := HA.out
      clear HA
      simp only [kimberlitelaw05_without.l0] at H
      by_cases c3 : x6_1 < (l0.length : Int)
      · rw [if_pos c3] at H
        have c3b0 : decide (x6_1 < (l0.length : Int)) = true := decide_eq_true c3
        clear c3
        by_cases c4 : 0 ≤ x6_1
        · rw [if_pos c4] at H
          have c4b0 : decide (0 ≤ x6_1) = true := decide_eq_true c4
          clear c4
          by_cases c5 : ((rd_T50 l0 x6_1).f0) = a1
          · rw [if_pos c5] at H
            have c5b0 : (((rd_T50 l0 x6_1).f0) == a1) = true := beq_iff_eq.mpr c5
            have c5b1 : (((rd_T50 l0 x6_1).f0) != a1) = false := bne_eq_false_iff_eq.mpr c5
            clear c5
            have H' := Aside0.mk H
            clear H
            have p244 : 0 ≤ (x6_1 : Int) := of_decide_eq_true (by first | (with_reducible assumption) | assumption)
            have q244 : x6_1 < (l0.length : Int) := of_decide_eq_true (by first | (with_reducible assumption) | assumption)
            obtain ⟨ad244, e244, hx244_0, hx244_1, hx244_2⟩ := at_T50 HR0.out x6_1 p244 q244
            cases e244
            replace hx244_0 := (HB.out.cell (World.block_lt_of_cell? w _ hx244_0)).trans hx244_0
            replace hx244_1 := (HB.out.cell (World.block_lt_of_cell? w _ hx244_1)).trans hx244_1
            replace hx244_2 := (HB.out.cell (World.block_lt_of_cell? w _ hx244_2)).trans hx244_2
            replace p244 := eq_true p244
            replace q244 := eq_true q244
            go_wp2
            go_roundg k1
            case measure => have := HK1.out; omega
            case rel => exact ⟨(x5_1), (wrap64 (x6_1 + 1)), (by first | rfl | (simp; done) | (simp [*]; done)), H', ⟨by have := HK1.out; omega⟩, ⟨by (with_reducible repeat (first | apply Kd.R_alloc | apply Kd.R_drewN | apply Kd.R_drew)); exact HO_5.out⟩, ⟨by repeat (first | (with_reducible first | exact HB.out | apply below_alloc | apply pw_below_drewN | apply below_drew1) | exact HB.out)⟩⟩
          · rw [if_neg c5] at H
            have c5b0 : (((rd_T50 l0 x6_1).f0) == a1) = false := beq_eq_false_iff_ne.mpr c5
            have c5b1 : (((rd_T50 l0 x6_1).f0) != a1) = true := bne_iff_ne.mpr c5
            by_cases c6 : x5_1.length < 5864062014805
            · rw [if_pos c6] at H
              have LMc6 := Aside0.mk c6
              clear c6
              obtain ⟨y246, hy246⟩ : ∃ y_ : List (S50), y_ = (x5_1 ++ [(⟨(rd_T50 l0 x6_1).f0, (rd_T50 l0 x6_1).f1, (rd_T50 l0 x6_1).f2⟩ : S50)]) := ⟨_, rfl⟩
              replace H : (kimberlitelaw05_without.l0 k1 l0 a1 y246 (wrap64 (x6_1 + 1))) = some r := by first | (rw [hy246]; with_reducible exact H) | (have H2_ := (Option.bind_some _ _).symm.trans H; rw [hy246]; with_reducible exact H2_) | (have H2_ := (Option.bind_some _ _).symm.trans H; with_reducible exact H2_) | with_reducible exact H | (rw [hy246]; exact H) | exact H
              have Ny246 := Aside0.mk hy246
              clear hy246
              have H' := Aside0.mk H
              clear H
              have p244 : 0 ≤ (x6_1 : Int) := of_decide_eq_true (by first | (with_reducible assumption) | assumption)
              have q244 : x6_1 < (l0.length : Int) := of_decide_eq_true (by first | (with_reducible assumption) | assumption)
              obtain ⟨ad244, e244, hx244_0, hx244_1, hx244_2⟩ := at_T50 HR0.out x6_1 p244 q244
              cases e244
              replace hx244_0 := (HB.out.cell (World.block_lt_of_cell? w _ hx244_0)).trans hx244_0
              replace hx244_1 := (HB.out.cell (World.block_lt_of_cell? w _ hx244_1)).trans hx244_1
              replace hx244_2 := (HB.out.cell (World.block_lt_of_cell? w _ hx244_2)).trans hx244_2
              replace p244 := eq_true p244
              replace q244 := eq_true q244
              have p245 : 0 ≤ (x6_1 : Int) := of_decide_eq_true (by first | (with_reducible assumption) | assumption)
              have q245 : x6_1 < (l0.length : Int) := of_decide_eq_true (by first | (with_reducible assumption) | assumption)
              obtain ⟨ad245, e245, hx245_0, hx245_1, hx245_2⟩ := at_T50 HR0.out x6_1 p245 q245
              obtain rfl : ad244 = ad245 := (by injection e245)
              replace hx245_0 := (HB.out.cell (World.block_lt_of_cell? w _ hx245_0)).trans hx245_0
              replace hx245_1 := (HB.out.cell (World.block_lt_of_cell? w _ hx245_1)).trans hx245_1
              replace hx245_2 := (HB.out.cell (World.block_lt_of_cell? w _ hx245_2)).trans hx245_2
              replace p245 := eq_true p245
              replace q245 := eq_true q245
              go_wp2_with (first | ((with_reducible refine gate_builtin (b := .append) (xs := #[.tmp 20, .tmp 25]) rfl ?_); at_builtin; refine Kd.R_append k50 (w0 := w) w.heap.size rfl (.tmp 20) (.tmp 25) 22 50 (.agg #[(.int .i64 0), (.int .i64 0), (.int .i64 0)]) 24 rfl Try.underlying22 info50 rfl (by decide) (by omega) u5 x5_1 (⟨(rd_T50 l0 x6_1).f0, (rd_T50 l0 x6_1).f1, (rd_T50 l0 x6_1).f2⟩ : S50) [.int .i64 ((rd_T50 l0 x6_1).f0), .int .i64 ((rd_T50 l0 x6_1).f1), .int .i64 ((rd_T50 l0 x6_1).f2)] (fun _ => True) (fun _ => False) rfl rfl ?aP (fun _ hk => hk.elim) ?aF ?aO ?aB ?aS ?aL ?_; (case aP => exact k50_mkM _ _ _ (⟨(rd_T50 l0 x6_1).f0, (rd_T50 l0 x6_1).f1, (rd_T50 l0 x6_1).f2⟩ : S50)); (case aB => exact (by repeat (first | (with_reducible first | exact HB.out | apply below_alloc | apply pw_below_drewN | apply below_drew1) | exact HB.out))); (case aF => exact (fun _ _ => trivial)); (case aO => exact (by (with_reducible repeat (first | apply Kd.R_alloc | apply Kd.R_drewN | apply Kd.R_drew)); exact HO_5.out)); (case aS => exact (below_size (by repeat (first | (with_reducible first | exact HB.out | apply below_alloc | apply pw_below_drewN | apply below_drew1) | exact HB.out)))); (case aL => have := LMc6.out; omega); intro v247 w7 ho hb hg hat; rw [← Ny246.out] at ho; have n0_ := Aside0.mk (hb); have n1_ := Aside0.mk (ho); clear HB; clear HO_5; have HB := n0_; have HO248 := n1_; clear n0_ n1_; clear ho hb hg hat))
              go_roundg k1
              case measure => have := HK1.out; omega
              case rel => exact ⟨(y246), (wrap64 (x6_1 + 1)), (by first | rfl | (simp; done) | (simp [*]; done)), H', ⟨by have := HK1.out; omega⟩, ⟨by (with_reducible repeat (first | apply Kd.R_alloc | apply Kd.R_drewN | apply Kd.R_drew)); exact HO248.out⟩, ⟨by repeat (first | (with_reducible first | exact HB.out | apply below_alloc | apply pw_below_drewN | apply below_drew1) | exact HB.out)⟩⟩
            · rw [if_neg c6] at H
              exact absurd H (by simp)
        · rw [if_neg c4] at H
          exact absurd H (by simp)
      · rw [if_neg c3] at H
        have c3b0 : decide (x6_1 < (l0.length : Int)) = false := decide_eq_false c3
        clear c3
        obtain rfl := Option.some.inj H
        go_wp2
        go_ret
        exact ⟨_, by first | rfl | (simp [errW_none, errW_some] <;> rfl) | (simp [*, errW_none, errW_some] <;> rfl), by (with_reducible repeat (first | apply Kd.R_alloc | apply Kd.R_drewN | apply Kd.R_drew)); exact HO_5.out, by repeat (first | (with_reducible first | exact HB.out | apply below_alloc | apply pw_below_drewN | apply below_drew1) | exact HB.out)⟩
end Go.Proofs.Ythfdjccdelbeeaa.PT
end
section
namespace Go.Proofs.Ythfdjccdelbeeaa.PT
open Go.RowKit Go.Proofs.YthfdjccdelbeeaaW.PrintWords Go.Proofs.YthfdjccdelbeeaaW.PrintLast Go.Proofs.YthfdjccdelbeeaaW.PrintMore Go.Proofs.Ythfdjccdelbeeaa.TPl
set_option linter.unusedVariables false
def BInvP (wo : Int) (os : List Of) (m : Nat) (best : List Int) (most : Int) : Prop :=
  (best = [] ∧ most = -1 ∧ ∀ t, feas wo os t 0 0 → num t < m) ∨ ∃ s, feas wo os s 0 0 ∧ m ≤ num s ∧ best = idx 0 s ∧ most = ((val os s : Nat) : Int) ∧ ∀ t, feas wo os t 0 0 → m ≤ num t → val os t < val os s ∨ (val os t = val os s ∧ num t ≤ num s)
theorem ev_l0 (l : List S50) (hv : bValid l) (wo : Int) (sb : List Bool) (hb : IsBest wo (l.map toOf) 0 0 sb) : ∀ (m : Nat) (best : List Int) (most : Int), m ≤ 2 ^ l.length → BInvP wo (l.map toOf) m best most →
    Ev (fun k => kimberliteref05_Best.l0 k l wo best most ((m : Int) - 1)) (idx 0 sb, ((val (l.map toOf) sb : Nat) : Int))
  | 0, best, most, _, hI => by
    rcases hI with ⟨_, _, h⟩ | ⟨s, hs, _, rfl, rfl, h⟩
    · exact absurd (h _ (feas_none wo (l.map toOf) 0 0)) (by omega)
    · have : s = sb := IsBest.uniq ⟨hs, fun t ht => h t ht (Nat.zero_le _)⟩ hb
      subst this
      refine Ev.here fun k => ?_
      simp only [kimberliteref05_Best.l0]
      rw [if_neg (by omega)]
  | m + 1, best, most, hm, hI => by
    have hl16 := hv.1
    have h16 : 2 ^ l.length ≤ 2 ^ 16 := Nat.pow_le_pow_right (by decide) hl16
    have hsl := ofNum_len l.length m
    have hsn := num_ofNum l.length m (by omega)
    generalize hS : ofNum l.length m = s at hsl hsn
    have hw : wrap64 ((num ([] ++ s) : Int) - 1) = (m : Int) - 1 := by rw [List.nil_append, hsn]; unfold wrap64; omega
    refine Ev.step (f := fun k => kimberliteref05_Best.l1 k l wo best most (num ([] ++ s) : Int) (idx 0 []) true 0 0 ((0 : Nat) : Int)) (fun k => ?_) ?_
    · simp only [kimberliteref05_Best.l0]
      rw [if_pos (by omega), List.nil_append, hsn, show ((m + 1 : Nat) : Int) - 1 = (m : Int) from by omega]; rfl
    · refine ev_l1 l hv wo best most _ s [] 0 0 0 (by simpa using hsl) rfl (by decide) (by decide) (fun h => by simpa using feas_any wo _ _ _ _ h) ?_
      rw [hw]
      simp only [List.drop_zero, List.nil_append]
      have uniq : ∀ t, feas wo (l.map toOf) t 0 0 → num t = m → t = s := fun t ht he => num_inj _ _ (by rw [feas_len _ _ _ _ _ ht, hsl]; simp) (by rw [he, hsn])
      by_cases c : feas wo (l.map toOf) s 0 0
      · rw [if_pos c]
        have hyes : ∀ most', BInvP wo (l.map toOf) m (idx 0 s) most' → most' = ((val (l.map toOf) s : Nat) : Int) → Ev (fun k => kimberliteref05_Best.l0 k l wo (idx 0 s) ((val (l.map toOf) s : Nat) : Int) ((m : Int) - 1)) (idx 0 sb, ((val (l.map toOf) sb : Nat) : Int)) := fun most' h e => by
          subst e; exact ev_l0 l hv wo sb hb m _ _ (by omega) h
        by_cases g : ((val (l.map toOf) s : Nat) : Int) > most
        · simp only [if_pos g]
          refine hyes _ (Or.inr ⟨s, c, by omega, rfl, rfl, fun t ht hmt => ?_⟩) rfl
          by_cases e : num t = m
          · rw [uniq t ht e]; right; exact ⟨rfl, Nat.le_refl _⟩
          · rcases hI with ⟨_, _, h⟩ | ⟨s', hs', _, _, rfl, h⟩
            · have := h t ht; omega
            · have := h t ht (by omega); omega
        · simp only [if_neg g]
          refine ev_l0 l hv wo sb hb m _ _ (by omega) ?_
          rcases hI with ⟨_, rfl, h⟩ | ⟨s', hs', hn', rfl, rfl, h⟩
          · exact absurd g (by omega)
          · refine Or.inr ⟨s', hs', by omega, rfl, rfl, fun t ht hmt => ?_⟩
            by_cases e : num t = m
            · rw [uniq t ht e, hsn]; omega
            · exact h t ht (by omega)
      · rw [if_neg c]
        refine ev_l0 l hv wo sb hb m _ _ (by omega) ?_
        rcases hI with ⟨e1, e2, h⟩ | ⟨s', hs', hn', e1, e2, h⟩
        · refine Or.inl ⟨e1, e2, fun t ht => ?_⟩
          have := h t ht
          by_cases e : num t = m
          · exact absurd (uniq t ht e ▸ ht) c
          · omega
        · refine Or.inr ⟨s', hs', by omega, e1, e2, fun t ht hmt => ?_⟩
          by_cases e : num t = m
          · exact absurd (uniq t ht e ▸ ht) c
          · exact h t ht (by omega)
/-- The best choice, for the program and for the specification. -/
theorem best_both (l : List S50) (hv : bValid l) (wo : Int) : ∃ s, IsBest wo (l.map toOf) 0 0 s ∧ tender_best.f l wo = some (idx 0 s, ((val (l.map toOf) s : Nat) : Int)) ∧ Ev (fun k => kimberliteref05_Best.f k l wo) (idx 0 s, ((val (l.map toOf) s : Nat) : Int)) := by
  obtain ⟨s, hs, e⟩ := best_spec l wo hv
  refine ⟨s, hs, e, ?_⟩
  have hl16 := hv.1
  have h16 : 2 ^ l.length ≤ 2 ^ 16 := Nat.pow_le_pow_right (by decide) hl16
  have h0 : 0 < 2 ^ l.length := Nat.pow_pos (by decide)
  have h := ev_l0 l hv wo s hs (2 ^ l.length) [] (-1) (Nat.le_refl _) (Or.inl ⟨rfl, rfl, fun t ht => by have := num_lt t; rw [feas_len _ _ _ _ _ ht] at this; simpa using this⟩)
  refine Ev.congr (fun k => ?_) h
  simp only [kimberliteref05_Best.f]
  rw [shl_pow _ (by omega)]
  congr 1
  generalize 2 ^ l.length = M at *
  unfold wrap64; omega
theorem ev_same_l (a b : List Int) (hab : a.length = b.length) (hb : a.length < 1000000) : ∀ (d i : Nat), i + d = a.length → Ev (fun k => kimberlitelaw05_same.l0 k a b (i : Int)) (a.drop i == b.drop i)
  | 0, i, h => Ev.here fun k => by
      simp only [kimberlitelaw05_same.l0]
      rw [if_neg (by omega), List.drop_of_length_le (by omega), List.drop_of_length_le (by omega)]; rfl
  | d + 1, i, h => by
      have hi : i < a.length := by omega
      have hi' : i < b.length := by omega
      have ih := ev_same_l a b hab hb d (i + 1) (by omega)
      have hst : ∀ k, kimberlitelaw05_same.l0 (k + 1) a b (i : Int) = if a[i] = b[i] then kimberlitelaw05_same.l0 k a b ((i + 1 : Nat) : Int) else some false := fun k => by
        simp only [kimberlitelaw05_same.l0]
        rw [if_pos (by omega), if_pos (by omega), if_pos (by omega), w64 i (by omega)]
        simp [rd, hi, hi']
      have hc : (a.drop i == b.drop i) = (a[i] == b[i] && a.drop (i + 1) == b.drop (i + 1)) := by rw [List.drop_eq_getElem_cons hi, List.drop_eq_getElem_cons hi']; rfl
      rw [hc]
      by_cases c : a[i] = b[i]
      · refine Ev.step (fun k => by rw [hst k, if_pos c]) ?_
        rw [c, beq_self_eq_true, Bool.true_and]; exact ih
      · rw [beq_eq_false_iff_ne.2 c, Bool.false_and]
        exact Ev.here fun k => by rw [hst k, if_neg c]
theorem ev_same (a b : List Int) (h : a.length < 1000000) : Ev (fun k => kimberlitelaw05_same.f k a b) (a == b) := by
  by_cases hl : a.length = b.length
  · have := ev_same_l a b hl h a.length 0 (by omega)
    simp only [List.drop_zero] at this
    exact Ev.congr (fun k => by simp only [kimberlitelaw05_same.f]; rw [if_pos (by omega)]; rfl) this
  · have : (a == b) = false := by rw [beq_eq_false_iff_ne]; intro e; exact hl (by rw [e])
    rw [this]
    exact ⟨0, fun k _ => by simp only [kimberlitelaw05_same.f]; rw [if_neg (by omega)]⟩
/-- What Best answers. -/
theorem ev_BestOk (lots : Int) (l : List S50) (hv : Vld lots l) : ∃ s, IsBest (-1) (l.map toOf) 0 0 s ∧ tender_best.f l (-1) = some (idx 0 s, ((val (l.map toOf) s : Nat) : Int)) ∧ Ev (fun k => tender_Best.f k lots l) (idx 0 s, ((val (l.map toOf) s : Nat) : Int), 0) := by
  obtain ⟨s, hs, e, _⟩ := best_both l hv.bv (-1)
  refine ⟨s, hs, e, ?_⟩
  unfold tender_Best.f
  have hc := ev_checked lots l
  rw [errS_zero.2 hv] at hc
  refine Ev.bind hc ?_
  simp only [if_true, e]
  exact Ev.now _
theorem idx_mem : ∀ (s : List Bool) (i : Nat) (x : Int), x ∈ idx (i : Int) s → ∃ j : Nat, x = (j : Int) ∧ i ≤ j ∧ j < i + s.length ∧ s[j - i]? = some true
  | [], i, x, h => by simp [idx] at h
  | true :: s, i, x, h => by
    simp only [idx, List.mem_cons] at h
    rcases h with rfl | h
    · exact ⟨i, rfl, Nat.le_refl _, by simp, by simp⟩
    · rw [show (i : Int) + 1 = ((i + 1 : Nat) : Int) from by omega] at h
      obtain ⟨j, e, h1, h2, h3⟩ := idx_mem s (i + 1) x h
      refine ⟨j, e, by omega, by simp; omega, ?_⟩
      rw [show j - i = (j - (i + 1)) + 1 from by omega]; simpa using h3
  | false :: s, i, x, h => by
    simp only [idx] at h
    rw [show (i : Int) + 1 = ((i + 1 : Nat) : Int) from by omega] at h
    obtain ⟨j, e, h1, h2, h3⟩ := idx_mem s (i + 1) x h
    refine ⟨j, e, by omega, by simp; omega, ?_⟩
    rw [show j - i = (j - (i + 1)) + 1 from by omega]; simpa using h3
/-- The worth without a buyer. -/
def worthWo (l : List S50) (wo : Int) : Int := ((tender_best.f l wo).getD ([], 0)).2
/-- What is paid for an offer that is taken. -/
def payS (l : List S50) (v : Int) (i : Int) : Int := worthWo l (rd_T50 l i).f0 - (v - (rd_T50 l i).f2)
theorem tot_bd (l : List S50) (hv : bValid l) : (tot (l.map toOf) : Int) ≤ 17179869184 := by
  have := bSum_bd l (fun o ho => by have := hv.2 o ho; omega)
  have e := bSum_tot l (fun o ho => (hv.2 o ho).2.2.2.2.1)
  have := hv.1
  omega
theorem worthWo_bd (l : List S50) (hv : bValid l) (wo : Int) : 0 ≤ worthWo l wo ∧ worthWo l wo ≤ 17179869184 := by
  obtain ⟨s, hs, e, _⟩ := best_both l hv wo
  have := val_le (l.map toOf) s
  have := tot_bd l hv
  simp only [worthWo, e, Option.getD_some]
  omega
theorem ev_Decide_l (l : List S50) (hv : bValid l) (v : Int) (hv0 : 0 ≤ v) (hv1 : v ≤ 17179869184) (T : List Int) (hT : ∀ x ∈ T, ∃ j : Nat, x = (j : Int) ∧ j < l.length) (hTl : T.length ≤ 16) (t0 : List Int) (w0 : Int) : ∀ (d i : Nat) (pays : List Int), i + d = T.length → pays.length = i →
    Ev (fun k => tender_Decide.l0 k l v T (T.length : Int) (i : Int) t0 pays w0) (t0, pays ++ (T.drop i).map (payS l v), w0, 0)
  | 0, i, pays, h, hp => Ev.here fun k => by
      simp only [tender_Decide.l0]
      rw [if_neg (by omega), List.drop_of_length_le (by omega)]; simp
  | d + 1, i, pays, h, hp => by
      have hi : i < T.length := by omega
      obtain ⟨j, ej, hj⟩ := hT T[i] (List.getElem_mem hi)
      have erd : rd T (i : Int) = (j : Int) := by simp [rd, hi, ej]
      have ho := hv.2 l[j] (List.getElem_mem hj)
      obtain ⟨s, hs, e, _⟩ := best_both l hv l[j].f0
      have hb := worthWo_bd l hv l[j].f0
      have hw : worthWo l l[j].f0 = ((val (l.map toOf) s : Nat) : Int) := by simp only [worthWo, e, Option.getD_some]
      have ih := ev_Decide_l l hv v hv0 hv1 T hT hTl t0 w0 d (i + 1) (pays ++ [payS l v T[i]]) (by omega) (by simp [hp])
      rw [List.drop_eq_getElem_cons hi, List.map_cons]
      rw [List.append_assoc] at ih
      refine Ev.step (fun k => ?_) ih
      simp only [tender_Decide.l0, erd]
      rw [if_pos (by omega), if_pos (by omega), if_pos (by omega), if_pos (by omega), if_pos (by omega), rd_get l j hj, e]
      simp only [Option.bind_some]
      rw [if_pos (by omega), w64 i (by omega)]
      have : wrap64 (((val (l.map toOf) s : Nat) : Int) - wrap64 (v - l[j].f2)) = payS l v T[i] := by
        simp only [payS, ej, rd_get l j hj, hw]
        rw [hw] at hb
        unfold wrap64; omega
      rw [this]
theorem ev_DecideOk (lots : Int) (l : List S50) (hv : Vld lots l) : ∃ s, IsBest (-1) (l.map toOf) 0 0 s ∧ tender_best.f l (-1) = some (idx 0 s, ((val (l.map toOf) s : Nat) : Int)) ∧
    Ev (fun k => tender_Decide.f k lots l) (idx 0 s, (idx 0 s).map (payS l ((val (l.map toOf) s : Nat) : Int)), ((val (l.map toOf) s : Nat) : Int), 0) := by
  obtain ⟨s, hs, e, hB⟩ := ev_BestOk lots l hv
  refine ⟨s, hs, e, ?_⟩
  unfold tender_Decide.f
  refine Ev.bind hB ?_
  simp only [if_true]
  have hsl := feas_len _ _ _ _ _ hs.1
  simp only [List.length_map] at hsl
  have hl16 := hv.bv.1
  have := val_le (l.map toOf) s
  have := tot_bd l hv.bv
  have hil := idx_len s 0
  have := ev_Decide_l l hv.bv ((val (l.map toOf) s : Nat) : Int) (by omega) (by omega) (idx 0 s) (fun x hx => by obtain ⟨j, e, _, h2, _⟩ := idx_mem s 0 x hx; exact ⟨j, e, by omega⟩) (by omega) (idx 0 s) ((val (l.map toOf) s : Nat) : Int) (idx 0 s).length 0 [] (by omega) rfl
  simpa using this
end Go.Proofs.Ythfdjccdelbeeaa.PT
end
section
namespace Go.Proofs.Ythfdjccdelbeeaa.PT
open Go.RowKit Go.Proofs.YthfdjccdelbeeaaW.PrintWords Go.Proofs.YthfdjccdelbeeaaW.PrintLast Go.Proofs.YthfdjccdelbeeaaW.PrintMore Go.Proofs.Ythfdjccdelbeeaa.TPl
set_option linter.unusedVariables false
theorem eta50 (o : S50) : (⟨o.f0, o.f1, o.f2⟩ : S50) = o := rfl
theorem ev_own_l (l : List S50) (hl : l.length < 1000000) : ∀ (d i : Nat) (x : List S50), i + d = l.length → x.length = l.length → x.take i = l.take i → Ev (fun k => kimberlitelaw05_own.l0 k l x (i : Int)) l
  | 0, i, x, h, hx, ht => Ev.here fun k => by
      simp only [kimberlitelaw05_own.l0]
      rw [if_neg (by omega)]
      rw [List.take_of_length_le (by omega), List.take_of_length_le (by omega)] at ht
      rw [ht]
  | d + 1, i, x, h, hx, ht => by
      have hi : i < l.length := by omega
      have hi' : i < x.length := by omega
      have ih := ev_own_l l hl d (i + 1) (x.set i l[i]) (by omega) (by simpa using hx) (by
        rw [List.take_succ_eq_append_getElem (by simpa using hi'), List.take_succ_eq_append_getElem hi]
        rw [List.take_set_of_le (Nat.le_refl _), ht]; simp)
      refine Ev.step (fun k => ?_) ih
      simp only [kimberlitelaw05_own.l0]
      rw [if_pos (by omega), if_pos (by omega), if_pos (by omega), rd_get l i hi, w64 i (by omega), eta50, Int.toNat_natCast]
theorem ev_own (l : List S50) (hl : l.length < 1000000) : Ev (fun k => kimberlitelaw05_own.f k l) l := by
  have := ev_own_l l hl l.length 0 (List.replicate l.length z50) (by omega) (by simp) (by simp)
  refine Ev.congr (fun k => ?_) this
  simp only [kimberlitelaw05_own.f]
  rw [if_pos (by omega), Int.toNat_natCast, if_pos (by omega)]; rfl
theorem ev_offers_l (l : List S50) (hl : l.length < 1000000) : ∀ (d i : Nat), i + d = l.length → Ev (fun k => kimberlitelaw05_offers.l0 k l l (i : Int)) true
  | 0, i, h => Ev.here fun k => by
      simp only [kimberlitelaw05_offers.l0]
      rw [if_neg (by omega)]
  | d + 1, i, h => by
      have ih := ev_offers_l l hl d (i + 1) (by omega)
      refine Ev.step (fun k => ?_) ih
      simp only [kimberlitelaw05_offers.l0]
      rw [if_pos (by omega), if_pos (by omega), if_pos (by omega), w64 i (by omega)]
      simp
theorem ev_offers (l : List S50) (hl : l.length < 1000000) : Ev (fun k => kimberlitelaw05_offers.f k l l) true :=
  Ev.congr (fun k => by simp only [kimberlitelaw05_offers.f]; rw [if_pos trivial]; rfl) (ev_offers_l l hl l.length 0 (by omega))
end Go.Proofs.Ythfdjccdelbeeaa.PT
end
section
namespace Go.Proofs.Ythfdjccdelbeeaa.PT
open Go.RowKit Go.Proofs.YthfdjccdelbeeaaW.PrintWords Go.Proofs.YthfdjccdelbeeaaW.PrintLast Go.Proofs.YthfdjccdelbeeaaW.PrintMore
set_option linter.unusedVariables false
set_option linter.unusedSimpArgs false
/-- Offer number i. -/
def ofI (P : List Int) (i : Nat) : S50 := ⟨((i / 4 : Nat) : Int), ((2 ^ (i % 12) : Nat) : Int), 1 + P.getD i 0⟩
/-- The rows behind i offers: the sets 0 to 5, and all (6). -/
def rowsI (P : List Int) : Nat → Nat → List S50
  | 0 => fun _ => []
  | i + 1 => if i / 4 < 4 then upd (upd (rowsI P i) (i / 4) (rowsI P i (i / 4) ++ [ofI P i])) 6 (rowsI P i 6 ++ [ofI P i]) else upd (rowsI P i) (i / 4) (rowsI P i (i / 4) ++ [ofI P i])
theorem rows_len (P : List Int) : ∀ i j, (rowsI P i j).length ≤ i
  | 0, j => Nat.le_refl _
  | i + 1, j => by
    have h1 := rows_len P i
    unfold rowsI
    split
    · unfold upd
      split
      · have := h1 6; simp; omega
      · split
        · have := h1 (i / 4); simp; omega
        · have := h1 j; omega
    · unfold upd
      split
      · have := h1 (i / 4); simp; omega
      · have := h1 j; omega
theorem pc_get {W : World} {P : List Int} {xb n : Nat} {pr : Int} (h : W.heap[xb]? = some (.cells (P.map (Value.int .u16)).toArray 75)) (hl : P.length = 17) (hn : n < 17) (hp : pr = P.getD n 0) : W.cell? ⟨xb, n, none⟩ = some (.int .u16 pr) := by
  rw [blk_cell h, List.getElem?_toArray, List.getElem?_map, hp, List.getD_eq_getElem?_getD, List.getElem?_eq_getElem (by omega)]; rfl
theorem two_r {r : Nat} (h : r < 12) : wrap64 ((2 : Int) ^ r) = ((2 ^ r : Nat) : Int) := by
  have : r = 0 ∨ r = 1 ∨ r = 2 ∨ r = 3 ∨ r = 4 ∨ r = 5 ∨ r = 6 ∨ r = 7 ∨ r = 8 ∨ r = 9 ∨ r = 10 ∨ r = 11 := by omega
  rcases this with rfl | rfl | rfl | rfl | rfl | rfl | rfl | rfl | rfl | rfl | rfl | rfl <;> decide +kernel
theorem own_lt {w : World} {base : Nat} {ok : Nat → Prop} {v : Value} {xs : List S50} (h : Kd.R k50 50 w base ok v xs) : ∀ k, v.ownBlock = some k → k < w.heap.size := fun k e => by
  obtain ⟨inner, ho⟩ := Kd.R_own h
  rcases ho.2 with ⟨hv, h0⟩ | ⟨b', cap, cur, hv, _, hh, _⟩
  · rw [hv] at e; cases e
  · rw [hv] at e
    have e2 : b' = k := by simpa [Value.ownBlock] using e
    rw [← e2]; exact blk_lt hh
theorem rows_lo {P : List Int} {n : Nat} (h : n / 4 < 4) : rowsI P (n + 1) = upd (upd (rowsI P n) (n / 4) (rowsI P n (n / 4) ++ [ofI P n])) 6 (rowsI P n 6 ++ [ofI P n]) := by
  show (if n / 4 < 4 then _ else _) = _
  rw [if_pos h]
theorem rows_hi {P : List Int} {n : Nat} (h : ¬ n / 4 < 4) : rowsI P (n + 1) = upd (rowsI P n) (n / 4) (rowsI P n (n / 4) ++ [ofI P n]) := by
  show (if n / 4 < 4 then _ else _) = _
  rw [if_neg h]
def VB (V : Nat → Value) : Array Value := #[V 0, V 1, V 2, V 3, V 4, V 5]
theorem VB_get (V : Nat → Value) (j : Nat) (h : j < 6) : (VB V)[j]? = some (V j) := by
  have : j = 0 ∨ j = 1 ∨ j = 2 ∨ j = 3 ∨ j = 4 ∨ j = 5 := by omega
  rcases this with rfl | rfl | rfl | rfl | rfl | rfl <;> rfl
theorem VB_set (V : Nat → Value) (j : Nat) (h : j < 6) (v : Value) : (VB V).setIfInBounds j v = VB (upd V j v) := by
  have : j = 0 ∨ j = 1 ∨ j = 2 ∨ j = 3 ∨ j = 4 ∨ j = 5 := by omega
  rcases this with rfl | rfl | rfl | rfl | rfl | rfl <;> rfl
theorem VB_six (V : Nat → Value) (v : Value) : VB (upd V 6 v) = VB V := rfl
section
variable (P : List Int) (s : Int)
theorem rows0 : rowsI P 17 0 = [ofI P 0, ofI P 1, ofI P 2, ofI P 3] := rfl
theorem rows1 : rowsI P 17 1 = [ofI P 4, ofI P 5, ofI P 6, ofI P 7] := rfl
theorem rows2 : rowsI P 17 2 = [ofI P 8, ofI P 9, ofI P 10, ofI P 11] := rfl
theorem rows3 : rowsI P 17 3 = [ofI P 12, ofI P 13, ofI P 14, ofI P 15] := rfl
theorem rows4 : rowsI P 17 4 = [ofI P 16] := rfl
theorem rows5 : rowsI P 17 5 = [] := rfl
theorem rows6 : rowsI P 17 6 = [ofI P 0, ofI P 1, ofI P 2, ofI P 3, ofI P 4, ofI P 5, ofI P 6, ofI P 7, ofI P 8, ofI P 9, ofI P 10, ofI P 11, ofI P 12, ofI P 13, ofI P 14, ofI P 15] := rfl
variable (R : Nat → List S50)
/-- The hands behind b seals. -/
def hs6 : Nat → List Hd
  | 0 => List.replicate 8 hd0
  | b + 1 => (hs6 b).set b ⟨true, false, sealAll (R b) s, .slice none 0 0, []⟩
/-- The hands behind b shows. -/
def hsh (vs : Nat → Value) : Nat → List Hd
  | 0 => hs6 s R 6
  | b + 1 => (hsh vs b).set b ⟨true, true, sealAll (R b) s, vs b, R b⟩
def h5 (vs : Nat → Value) (v : Value) : List Hd := (hsh s R vs 4).set 5 ⟨true, true, sealAll (R 5) s, v, R 5⟩
variable {P} {s} {R}
theorem good_of (hl : P.length = 17) (hp : ∀ x ∈ P, 0 ≤ x ∧ x < 65536) {i : Nat} (hi : i < 17) : good 12 (ofI P i) = true := by
  have hpr : 0 ≤ P.getD i 0 ∧ P.getD i 0 < 65536 := by
    rw [List.getD_eq_getElem?_getD, List.getElem?_eq_getElem (by omega)]; exact hp _ (List.getElem_mem _)
  unfold good ofI
  have h1 : 1 ≤ 2 ^ (i % 12) := Nat.one_le_two_pow
  have h2 : 2 ^ (i % 12) < 2 ^ 12 := Nat.pow_lt_pow_right (by omega) (by omega)
  have h3 : (2 : Nat) ^ 12 = 4096 := rfl
  generalize 2 ^ (i % 12) = M at h1 h2
  apply decide_eq_true
  show 0 ≤ ((i / 4 : Nat) : Int) ∧ ((i / 4 : Nat) : Int) ≤ 7 ∧ 1 ≤ (M : Int) ∧ (M : Int) < ((2 ^ 12 : Nat) : Int) ∧ 1 ≤ 1 + P.getD i 0 ∧ 1 + P.getD i 0 ≤ 1073741824
  rw [h3]
  omega
theorem bad_of (hl : P.length = 17) (hp : ∀ x ∈ P, 0 ≤ x ∧ x < 65536) {i b : Nat} (hi : i < 17) (hb : i / 4 = b) : badO 12 (b : Int) (ofI P i) = false := by
  unfold badO
  rw [good_of hl hp hi, ← hb]
  show (!true || ((i / 4 : Nat) : Int) != ((i / 4 : Nat) : Int)) = false
  simp
theorem any_of (hl : P.length = 17) (hp : ∀ x ∈ P, 0 ≤ x ∧ x < 65536) {b : Nat} (hb : b < 5) : (rowsI P 17 b).any (badO 12 (b : Int)) = false := by
  have B := fun i h1 h2 => bad_of (b := b) hl hp (i := i) h1 h2
  have : b = 0 ∨ b = 1 ∨ b = 2 ∨ b = 3 ∨ b = 4 := by omega
  rcases this with rfl | rfl | rfl | rfl | rfl
  · rw [rows0]; simp only [List.any_cons, List.any_nil, B 0 (by omega) rfl, B 1 (by omega) rfl, B 2 (by omega) rfl, B 3 (by omega) rfl]; rfl
  · rw [rows1]; simp only [List.any_cons, List.any_nil, B 4 (by omega) rfl, B 5 (by omega) rfl, B 6 (by omega) rfl, B 7 (by omega) rfl]; rfl
  · rw [rows2]; simp only [List.any_cons, List.any_nil, B 8 (by omega) rfl, B 9 (by omega) rfl, B 10 (by omega) rfl, B 11 (by omega) rfl]; rfl
  · rw [rows3]; simp only [List.any_cons, List.any_nil, B 12 (by omega) rfl, B 13 (by omega) rfl, B 14 (by omega) rfl, B 15 (by omega) rfl]; rfl
  · rw [rows4]; simp only [List.any_cons, List.any_nil, B 16 (by omega) rfl]; rfl
theorem sub_ok {st : Int} {b : Nat} (hb : b < 8) : subC 12 0 (b : Int) = 0 := by
  have : b = 0 ∨ b = 1 ∨ b = 2 ∨ b = 3 ∨ b = 4 ∨ b = 5 ∨ b = 6 ∨ b = 7 := by omega
  rcases this with rfl | rfl | rfl | rfl | rfl | rfl | rfl | rfl <;> decide
theorem sub_at {b : Nat} (hb : b < 8) : subH 12 0 (hs6 s R b) (b : Int) (sealAll (R b) s) = hs6 s R (b + 1) := by
  unfold subH
  rw [if_pos (sub_ok (st := 0) hb), Int.toNat_natCast]; rfl
/-- Show, decided: the hand is sealed, not shown, of these offers' seal. -/
theorem show_dec {H : List Hd} {b : Nat} {l : List S50} {v : Value} {o : List S50} (hb : b < 8) (hh : H.getD b hd0 = ⟨true, false, sealAll l s, v, o⟩) (hl : l.length ≤ 4) (ha : l.any (badO 12 (b : Int)) = false) : showC 12 1 H (b : Int) l s = if 16 < (H.flatMap (·.off)).length + l.length then 8 else 0 := by
  have hbb : buyB (b : Int) = true := by unfold buyB; rw [decide_eq_true (by omega : (0 : Int) ≤ (b : Int)), decide_eq_true (by omega : (b : Int) ≤ 7)]; rfl
  unfold showC
  rw [Int.toNat_natCast, hh, if_neg (by decide), if_neg (by rw [hbb]; decide), if_neg (by intro q; cases q), if_neg (by intro q; cases q), if_neg (by simp), if_neg (by omega), if_neg (by rw [ha]; decide)]
theorem showH_at {H : List Hd} {b : Nat} {l : List S50} {v v' : Value} {o : List S50} {k : Int} (h : showC 12 1 H (b : Int) l s = 0) (hh : H.getD b hd0 = ⟨true, false, k, v, o⟩) : showH 12 1 H (b : Int) l s v' = H.set b ⟨true, true, k, v', l⟩ := by
  rw [showH_yes h, Int.toNat_natCast, hh]
theorem hsh_at (vs : Nat → Value) {b : Nat} (hb : b < 4) : (hsh s R vs b).getD b hd0 = ⟨true, false, sealAll (R b) s, .slice none 0 0, []⟩ := by
  have : b = 0 ∨ b = 1 ∨ b = 2 ∨ b = 3 := by omega
  rcases this with rfl | rfl | rfl | rfl <;> rfl
theorem hsh_4 (vs : Nat → Value) : (hsh s R vs 4).getD 4 hd0 = ⟨true, false, sealAll (R 4) s, .slice none 0 0, []⟩ := rfl
theorem hsh_5 (vs : Nat → Value) : (hsh s R vs 4).getD 5 hd0 = ⟨true, false, sealAll (R 5) s, .slice none 0 0, []⟩ := rfl
theorem h5_4 (vs : Nat → Value) (v : Value) : (h5 s R vs v).getD 4 hd0 = ⟨true, false, sealAll (R 4) s, .slice none 0 0, []⟩ := rfl
theorem flat_b (vs : Nat → Value) (hR : ∀ b, b < 4 → (R b).length = 4) {b : Nat} (hb : b ≤ 4) : ((hsh s R vs b).flatMap (·.off)).length = 4 * b := by
  have h0 := hR 0 (by omega)
  have h1 := hR 1 (by omega)
  have h2 := hR 2 (by omega)
  have h3 := hR 3 (by omega)
  have : b = 0 ∨ b = 1 ∨ b = 2 ∨ b = 3 ∨ b = 4 := by omega
  rcases this with rfl | rfl | rfl | rfl | rfl <;> simp [hsh, hs6, List.replicate, List.set, hd0, h0, h1, h2, h3]
theorem flat5 (vs : Nat → Value) (v : Value) : (h5 s R vs v).flatMap (·.off) = R 0 ++ (R 1 ++ (R 2 ++ (R 3 ++ R 5))) := by
  simp [h5, hsh, hs6, List.replicate, List.set, hd0]
theorem mis4 (vs : Nat → Value) : misN (hsh s R vs 4) 8 = [4, 5] := rfl
theorem mis5 (vs : Nat → Value) (v : Value) : misN (h5 s R vs v) 8 = [4] := rfl
theorem rows_all : rowsI P 17 0 ++ (rowsI P 17 1 ++ (rowsI P 17 2 ++ (rowsI P 17 3 ++ rowsI P 17 5))) = rowsI P 17 6 := by rw [rows0, rows1, rows2, rows3, rows5, rows6]; rfl
theorem rows_4 : ∀ b, b < 4 → (rowsI P 17 b).length = 4 := fun b hb => by
  have : b = 0 ∨ b = 1 ∨ b = 2 ∨ b = 3 := by omega
  rcases this with rfl | rfl | rfl | rfl
  · rw [rows0]; rfl
  · rw [rows1]; rfl
  · rw [rows2]; rfl
  · rw [rows3]; rfl
theorem len4 {b : Nat} (hb : b < 6) : (rowsI P 17 b).length ≤ 4 := by
  have : b = 0 ∨ b = 1 ∨ b = 2 ∨ b = 3 ∨ b = 4 ∨ b = 5 := by omega
  rcases this with rfl | rfl | rfl | rfl | rfl | rfl <;> (first | rw [rows0] | rw [rows1] | rw [rows2] | rw [rows3] | rw [rows4] | rw [rows5]) <;> simp
theorem few_set {H : List Hd} (h : Few H) (i : Nat) {x : Hd} (hx : x.off.length ≤ 4) : Few (H.set i x) := fun y hy => by
  rcases List.mem_or_eq_of_mem_set hy with q | q
  · exact h y q
  · rw [q]; exact hx
theorem few_zero : Few (List.replicate 8 hd0) := fun x hx => by
  obtain rfl := List.eq_of_mem_replicate hx
  decide
theorem few_6 : ∀ b, Few (hs6 s R b)
  | 0 => few_zero
  | b + 1 => few_set (few_6 b) b (Nat.zero_le 4)
theorem few_h (vs : Nat → Value) (hR : ∀ b, b < 6 → (R b).length ≤ 4) : ∀ b, b ≤ 6 → Few (hsh s R vs b)
  | 0, _ => few_6 6
  | b + 1, h => few_set (few_h vs hR b (by omega)) b (hR b (by omega))
theorem few_5 (vs : Nat → Value) (v : Value) (hR : ∀ b, b < 6 → (R b).length ≤ 4) : Few (h5 s R vs v) := few_set (few_h vs hR 4 (by omega)) 5 (hR 5 (by omega))
theorem show_lo (vs : Nat → Value) {b : Nat} (hb : b < 4) (hR : ∀ b, b < 4 → (R b).length = 4) (ha : (R b).any (badO 12 (b : Int)) = false) : showC 12 1 (hsh s R vs b) (b : Int) (R b) s = 0 := by
  rw [show_dec (by omega) (hsh_at vs hb) (by rw [hR b hb]; exact Nat.le_refl _) ha, flat_b vs hR (by omega), hR b hb, if_neg (by omega)]
theorem show_f4 (vs : Nat → Value) (hR : ∀ b, b < 4 → (R b).length = 4) (h4 : (R 4).length = 1) (ha : (R 4).any (badO 12 ((4 : Nat) : Int)) = false) : showC 12 1 (hsh s R vs 4) 4 (R 4) s = 8 := by
  have h := show_dec (H := hsh s R vs 4) (b := 4) (l := R 4) (s := s) (by omega) (hsh_4 vs) (by rw [h4]; decide) ha
  rw [flat_b vs hR (by omega), h4, if_pos (by omega)] at h
  exact h
theorem show_5 (vs : Nat → Value) (hR : ∀ b, b < 4 → (R b).length = 4) (h5_ : R 5 = []) : showC 12 1 (hsh s R vs 4) 5 (R 5) s = 0 := by
  have h := show_dec (H := hsh s R vs 4) (b := 5) (l := R 5) (s := s) (by omega) (hsh_5 vs) (by rw [h5_]; decide) (by rw [h5_]; rfl)
  rw [flat_b vs hR (by omega), h5_, if_neg (by simp)] at h
  rw [h5_]
  exact h
theorem show_f5 (vs : Nat → Value) (v : Value) (hR : ∀ b, b < 4 → (R b).length = 4) (h4 : (R 4).length = 1) (ha : (R 4).any (badO 12 ((4 : Nat) : Int)) = false) : showC 12 1 (h5 s R vs v) 4 (R 4) s = 8 := by
  have h := show_dec (H := h5 s R vs v) (b := 4) (l := R 4) (s := s) (by omega) (h5_4 vs v) (by rw [h4]; decide) ha
  rw [flat5, h4, if_pos (by simp only [List.length_append, hR 0 (by omega), hR 1 (by omega), hR 2 (by omega), hR 3 (by omega)]; omega)] at h
  exact h
theorem hsh_upd (vs : Nat → Value) (b : Nat) (v : Value) : ∀ j, j ≤ b → hsh s R (upd vs b v) j = hsh s R vs j
  | 0, _ => rfl
  | j + 1, h => by
    show (hsh s R (upd vs b v) j).set j _ = (hsh s R vs j).set j _
    rw [hsh_upd vs b v j (by omega), upd_ne _ _ (by omega)]
theorem hsh_next (vs : Nat → Value) (b : Nat) (v : Value) : (hsh s R vs b).set b ⟨true, true, sealAll (R b) s, v, R b⟩ = hsh s R (upd vs b v) (b + 1) := by
  show _ = (hsh s R (upd vs b v) b).set b _
  rw [hsh_upd vs b v b (Nat.le_refl _), upd_at]
theorem h5_set (vs : Nat → Value) (v : Value) (h : showC 12 1 (hsh s R vs 4) 5 (R 5) s = 0) : showH 12 1 (hsh s R vs 4) 5 (R 5) s v = h5 s R vs v := by
  have := showH_at (H := hsh s R vs 4) (b := 5) (l := R 5) (v' := v) h (hsh_5 vs)
  exact this
theorem lo_set (vs : Nat → Value) {b : Nat} (hb : b < 4) (v : Value) (h : showC 12 1 (hsh s R vs b) (b : Int) (R b) s = 0) : showH 12 1 (hsh s R vs b) (b : Int) (R b) s v = hsh s R (upd vs b v) (b + 1) := by
  rw [showH_at h (hsh_at vs hb), hsh_next]
theorem same_eq (w : World) (A B : Option Addr) (ca cb : Nat) (xs : List Int) (hl : xs.length < 1000000) (hA : Kd.C (Kd.int .i64) w A xs.length xs) (ha : xs.length ≤ ca) (hB : Kd.C (Kd.int .i64) w B xs.length xs) (hb : xs.length ≤ cb) : Calls Try.prog 22 #[.slice A xs.length ca, .slice B xs.length cb] w fun e w' => e = .returned (.bool true) ∧ Below w.heap.size w w' := by
  obtain ⟨k, hk⟩ := ev_same xs xs hl
  have h := hk k (Nat.le_refl _)
  rw [beq_self_eq_true] at h
  refine (kimberlitelaw05_same.calls k A ca xs B cb xs true w hA ha hB hb h).mono ?_
  rintro e w' ⟨rfl, nd, hq⟩
  have hb' := pw_below_drewN (Below.refl w.heap.size w) nd
  rw [← hq] at hb'
  exact ⟨rfl, hb'⟩
theorem offers_eq (w : World) (A B : Option Addr) (ca cb : Nat) (xs : List S50) (hl : xs.length < 1000000) (hA : Kd.C k50 w A xs.length xs) (ha : xs.length ≤ ca) (hB : Kd.C k50 w B xs.length xs) (hb : xs.length ≤ cb) : Calls Try.prog 20 #[.slice A xs.length ca, .slice B xs.length cb] w fun e w' => e = .returned (.bool true) ∧ Below w.heap.size w w' := by
  obtain ⟨k, hk⟩ := ev_offers xs hl
  refine (kimberlitelaw05_offers.calls k A ca xs B cb xs true w hA ha hB hb (hk k (Nat.le_refl _))).mono ?_
  rintro e w' ⟨rfl, nd, hq⟩
  have hb' := pw_below_drewN (Below.refl w.heap.size w) nd
  rw [← hq] at hb'
  exact ⟨rfl, hb'⟩
theorem R_Ci {w : World} {base : Nat} {F : Nat → Prop} {A : Option Addr} {n c : Nat} {xs : List Int} (h : Kd.R (Kd.int .i64) 3 w base F (.slice A n c) xs) : Kd.C (Kd.int .i64) w A xs.length xs := (Kd.R_reads' h).2.2
theorem wf_u16 {n : Int} (h : (Lit.int .u16 n).wf = true) : 0 ≤ n ∧ n < 65536 := by
  have : 0 ≤ n ∧ n ≤ 65535 := by simpa [Lit.wf, IntKind.min, IntKind.max, IntKind.signed, IntKind.bits] using h
  omega
theorem dec_ok {lots : Int} {l : List S50} (h : Vld lots l) : ∃ k r1 r2 r3 r4, tender_Decide.f k lots l = some (r1, r2, r3, r4) := by
  obtain ⟨s, _, _, hk⟩ := ev_DecideOk lots l h
  obtain ⟨k, hk⟩ := hk
  exact ⟨k, _, _, _, _, hk k (Nat.le_refl _)⟩
theorem vld_all (hl : P.length = 17) (hp : ∀ x ∈ P, 0 ≤ x ∧ x < 65536) : Vld 12 (rowsI P 17 6) := by
  refine errS_zero.1 ?_
  have G := fun i h1 => good_of hl hp (i := i) h1
  unfold errS
  rw [if_neg (by omega), rows6, if_neg (by simp), if_pos]
  simp only [List.all_cons, List.all_nil, G 0 (by omega), G 1 (by omega), G 2 (by omega), G 3 (by omega), G 4 (by omega), G 5 (by omega), G 6 (by omega), G 7 (by omega), G 8 (by omega), G 9 (by omega), G 10 (by omega), G 11 (by omega), G 12 (by omega), G 13 (by omega), G 14 (by omega), G 15 (by omega)]; rfl
end
end Go.Proofs.Ythfdjccdelbeeaa.PT
end
