/-
  Could, by its bits: which two grants open a vault.
-/
import Derived.Test.YtfnlghjkjmppdaaCNa
namespace Go.Proofs.Ytfnlghjkjmppdaa.PC
open Go.RowKit Go.Proofs.YtfnlghjkjmppdaaW.PrintWords Go.Proofs.YtfnlghjkjmppdaaW.PrintLast Go.Proofs.YtfnlghjkjmppdaaW.PrintMore
set_option linter.unusedVariables false
set_option linter.unusedSimpArgs false
/-- Bit v of a number. -/
def tb (x : Int) (v : Nat) : Bool := x.toNat.testBit v
def Sm (x : Int) : Prop := 0 ≤ x ∧ x < 65536
theorem sm_and {a b : Int} (ha : Sm a) (hb : Sm b) : Sm (bits .and .i64 a b) := by
  rw [and_i ha.1 ha.2 hb.1 hb.2]
  have : a.toNat &&& b.toNat < 2 ^ 16 := Nat.and_lt_two_pow _ (by have := hb.1; have := hb.2; omega)
  exact ⟨by omega, by omega⟩
theorem sm_or {a b : Int} (ha : Sm a) (hb : Sm b) : Sm (bits .or .i64 a b) := by
  rw [or_i ha.1 ha.2 hb.1 hb.2]
  have : a.toNat ||| b.toNat < 2 ^ 16 := Nat.or_lt_two_pow (by have := ha.1; have := ha.2; omega) (by have := hb.1; have := hb.2; omega)
  exact ⟨by omega, by omega⟩
theorem tb_and {a b : Int} (ha : Sm a) (hb : Sm b) (v : Nat) : tb (bits .and .i64 a b) v = (tb a v && tb b v) := by
  unfold tb
  rw [and_i ha.1 ha.2 hb.1 hb.2, Int.toNat_natCast, Nat.testBit_and]
theorem tb_or {a b : Int} (ha : Sm a) (hb : Sm b) (v : Nat) : tb (bits .or .i64 a b) v = (tb a v || tb b v) := by
  unfold tb
  rw [or_i ha.1 ha.2 hb.1 hb.2, Int.toNat_natCast, Nat.testBit_or]
theorem tb_ext {a b : Int} (ha : Sm a) (hb : Sm b) (h : ∀ v, tb a v = tb b v) : a = b := by
  have : a.toNat = b.toNat := Nat.eq_of_testBit_eq h
  have := ha.1; have := hb.1; omega
theorem ne_zero_bit (x : Nat) : x ≠ 0 ↔ ∃ i, x.testBit i = true := by
  constructor
  · intro h
    exact Classical.byContradiction fun q => h (Nat.eq_of_testBit_eq fun i => by
      rw [Nat.zero_testBit]
      exact Bool.eq_false_iff.2 fun e => q ⟨i, e⟩)
  · rintro ⟨i, hi⟩ rfl
    simp at hi
theorem pw {f : Int} (h0 : 0 ≤ f) (h1 : f ≤ 15) : wrap64 ((2 : Int) ^ f.toNat) = ((2 ^ f.toNat : Nat) : Int) ∧ 2 ^ f.toNat < 65536 := by
  have hlt : 2 ^ f.toNat < 65536 := Nat.pow_lt_pow_right (by omega) (show f.toNat < 16 by omega)
  refine ⟨?_, hlt⟩
  have : ((2 : Int) ^ f.toNat) = ((2 ^ f.toNat : Nat) : Int) := by simp
  rw [this]
  generalize 2 ^ f.toNat = M at hlt
  unfold wrap64; omega
theorem serv_bit {p f : Int} (hp : Sm p) (h0 : 0 ≤ f) (h1 : f ≤ 15) : (bits .and .i64 p (wrap64 ((2 : Int) ^ f.toNat)) != 0) = tb p f.toNat := by
  obtain ⟨e, hlt⟩ := pw h0 h1
  rw [e, and_i hp.1 hp.2 (Int.natCast_nonneg _) (Int.ofNat_lt.2 hlt), Int.toNat_natCast]
  unfold tb
  by_cases c : p.toNat.testBit f.toNat = true
  · rw [c]
    apply bne_iff_ne.2
    have : p.toNat &&& 2 ^ f.toNat ≠ 0 := (ne_zero_bit _).2 ⟨f.toNat, by rw [Nat.testBit_and, c, Nat.testBit_two_pow_self]; rfl⟩
    omega
  · have c' := Bool.eq_false_iff.2 c
    rw [c']
    have : p.toNat &&& 2 ^ f.toNat = 0 := Classical.byContradiction fun q => by
      obtain ⟨i, hi⟩ := (ne_zero_bit _).1 q
      rw [Nat.testBit_and, Bool.and_eq_true, Nat.testBit_two_pow] at hi
      have : f.toNat = i := of_decide_eq_true hi.2
      subst this
      rw [c'] at hi; simp at hi
    rw [this]; rfl
/-- Someone else of the group. -/
def Else (p : Int) (f : Nat) : Prop := ∃ i, i ≠ f ∧ tb p i = true
theorem else_bit {p f : Int} (hp : Sm p) (h0 : 0 ≤ f) (h1 : f ≤ 15) : (bits .andNot .i64 p (wrap64 ((2 : Int) ^ f.toNat)) != 0) = true ↔ Else p f.toNat := by
  obtain ⟨e, hlt⟩ := pw h0 h1
  obtain ⟨A, rfl⟩ := Int.eq_ofNat_of_zero_le hp.1
  have hA := hp.2
  rw [e, andNot_n A _ (by omega) (by omega)]
  rw [bne_iff_ne]
  have key : (A &&& (18446744073709551615 - 2 ^ f.toNat) ≠ 0) ↔ Else (A : Int) f.toNat := by
    rw [ne_zero_bit]
    constructor
    · rintro ⟨i, hi⟩
      rw [andNot_bit A _ i (by omega) (by omega), Bool.and_eq_true, Nat.testBit_two_pow] at hi
      refine ⟨i, fun q => ?_, by unfold tb; rw [Int.toNat_natCast]; exact hi.1⟩
      rw [q] at hi; simp at hi
    · rintro ⟨i, hne, hi⟩
      unfold tb at hi
      rw [Int.toNat_natCast] at hi
      refine ⟨i, ?_⟩
      rw [andNot_bit A _ i (by omega) (by omega), hi, Nat.testBit_two_pow, decide_eq_false (fun q => hne q.symm)]; rfl
  rw [← key]
  omega
theorem two_bit {a : Int} (ha : 0 ≤ a) (hb : a ≤ 3) : (bits .and .i64 a 2 != 0) = tb a 1 := by
  have : a = 0 ∨ a = 1 ∨ a = 2 ∨ a = 3 := by omega
  rcases this with rfl | rfl | rfl | rfl <;> decide +kernel
theorem one_bit {a : Int} (ha : 0 ≤ a) (hb : a ≤ 3) : (bits .and .i64 a 1 != 0) = tb a 0 := by
  have : a = 0 ∨ a = 1 ∨ a = 2 ∨ a = 3 := by omega
  rcases this with rfl | rfl | rfl | rfl <;> decide +kernel
/-- Can two grants be in two hands? -/
def Two (p : Int) (x y : S39) : Prop := x.f2 ≠ y.f2 ∧ (x.f3 ≠ y.f3 ∨ ((tb x.f5 1 = true ∨ tb y.f5 1 = true) ∧ Else p x.f3.toNat))
theorem pair_two {p : Int} {x y : S39} (hp : Sm p) (hx : Ok1 x) (hy : Ok1 y) : pairB p x y = true ↔ Two p x y := by
  obtain ⟨a1, a2, a3, a4, a5, a6, _⟩ := hx
  obtain ⟨b1, b2, b3, b4, b5, b6, _⟩ := hy
  have s1 : Sm x.f5 := ⟨by omega, by omega⟩
  have s2 : Sm y.f5 := ⟨by omega, by omega⟩
  have hor : 0 ≤ bits .or .i64 x.f5 y.f5 ∧ bits .or .i64 x.f5 y.f5 ≤ 3 := by
    rw [or_i s1.1 s1.2 s2.1 s2.2]
    have : x.f5.toNat ||| y.f5.toNat < 2 ^ 2 := Nat.or_lt_two_pow (by omega) (by omega)
    omega
  unfold pairB Two
  rw [two_bit hor.1 hor.2, tb_or s1 s2, Bool.and_eq_true, Bool.or_eq_true, Bool.and_eq_true, Bool.or_eq_true, bne_iff_ne, bne_iff_ne, else_bit hp a1 a2]
theorem inn_tb {p : Int} {x : S39} (hx : Sm x.f4) : ∀ (ys : List S39) (a : Int), (∀ y ∈ ys, Sm y.f4) → Sm a → Sm (innS p x a ys) ∧ ∀ v, tb (innS p x a ys) v = true ↔ tb a v = true ∨ ∃ y ∈ ys, pairB p x y = true ∧ tb x.f4 v = true ∧ tb y.f4 v = true
  | [], a, _, ha => ⟨ha, fun v => by simp [innS]⟩
  | y :: ys, a, hy, ha => by
    have h1 := hy y (by simp)
    have step : innS p x a (y :: ys) = innS p x (if pairB p x y then bits .or .i64 a (bits .and .i64 x.f4 y.f4) else a) ys := rfl
    rw [step]
    by_cases c : pairB p x y = true
    · rw [if_pos c]
      obtain ⟨k1, k2⟩ := inn_tb (p := p) hx ys (bits .or .i64 a (bits .and .i64 x.f4 y.f4)) (fun q hq => hy q (by simp [hq])) (sm_or ha (sm_and hx h1))
      refine ⟨k1, fun v => ?_⟩
      rw [k2 v, tb_or ha (sm_and hx h1), tb_and hx h1]
      simp only [Bool.or_eq_true, Bool.and_eq_true, List.mem_cons, exists_eq_or_imp]
      constructor
      · rintro ((h | h) | h)
        · exact Or.inl h
        · exact Or.inr (Or.inl ⟨c, h⟩)
        · exact Or.inr (Or.inr h)
      · rintro (h | h | h)
        · exact Or.inl (Or.inl h)
        · exact Or.inl (Or.inr h.2)
        · exact Or.inr h
    · rw [if_neg c]
      obtain ⟨k1, k2⟩ := inn_tb (p := p) hx ys a (fun q hq => hy q (by simp [hq])) ha
      refine ⟨k1, fun v => ?_⟩
      rw [k2 v]
      simp only [List.mem_cons, exists_eq_or_imp]
      constructor
      · rintro (h | h)
        · exact Or.inl h
        · exact Or.inr (Or.inr h)
      · rintro (h | h | h)
        · exact Or.inl h
        · exact absurd h.1 c
        · exact Or.inr h
theorem out_tb {p : Int} {ks : List S39} (hk : ∀ x ∈ ks, Sm x.f4) : ∀ i, i ≤ ks.length → Sm (outS p ks i) ∧ ∀ v, tb (outS p ks i) v = true ↔ ∃ m j, j < m ∧ m < i ∧ pairB p (ks.getD m z39) (ks.getD j z39) = true ∧ tb (ks.getD m z39).f4 v = true ∧ tb (ks.getD j z39).f4 v = true
  | 0, _ => ⟨⟨Int.le_refl _, by show (0 : Int) < 65536; omega⟩, fun v => by
      constructor
      · intro h; simp [outS, tb] at h
      · rintro ⟨m, j, _, h, _⟩; omega⟩
  | i + 1, hi => by
    obtain ⟨k1, k2⟩ := out_tb hk i (by omega)
    have hm := getD_mem (show i < ks.length by omega)
    obtain ⟨n1, n2⟩ := inn_tb (p := p) (hk _ hm) (ks.take i) (outS p ks i) (fun y hy => hk y (List.mem_of_mem_take hy)) k1
    refine ⟨n1, fun v => ?_⟩
    show tb (innS p (ks.getD i z39) (outS p ks i) (ks.take i)) v = true ↔ _
    rw [n2 v, k2 v]
    constructor
    · rintro (⟨m, j, q1, q2, q3⟩ | ⟨y, hy, q1, q2, q3⟩)
      · exact ⟨m, j, q1, by omega, q3⟩
      · obtain ⟨j, hj, e⟩ := List.getElem_of_mem hy
        rw [List.length_take] at hj
        have hjl : j < ks.length := by omega
        have e2 : ks.getD j z39 = y := by
          rw [List.getElem_take] at e
          rw [List.getD_eq_getElem?_getD, List.getElem?_eq_getElem hjl, ← e]; rfl
        exact ⟨i, j, by omega, by omega, by rw [e2]; exact q1, q2, by rw [e2]; exact q3⟩
    · rintro ⟨m, j, q1, q2, q3, q4, q5⟩
      by_cases c : m < i
      · exact Or.inl ⟨m, j, q1, c, q3, q4, q5⟩
      · have : m = i := by omega
        subst this
        refine Or.inr ⟨ks.getD j z39, ?_, q3, q4, q5⟩
        rw [List.getD_eq_getElem?_getD, List.getElem?_eq_getElem (by omega)]
        exact List.mem_take_iff_getElem.2 ⟨j, by omega, rfl⟩
/-- The numbers of the keys. -/
def keysN (day : Int) (G : List S39) (p : Int) : Nat → List Nat
  | 0 => []
  | k + 1 => if servB day G p (k + 1) then keysN day G p k ++ [k + 1] else keysN day G p k
theorem keysS_map (day : Int) (G : List S39) (p : Int) : ∀ k, keysS day G p k = (keysN day G p k).map (gr G)
  | 0 => rfl
  | k + 1 => by
    have ih := keysS_map day G p k
    unfold keysS keysN
    by_cases c : servB day G p (k + 1) = true
    · rw [if_pos c, if_pos c, List.map_append, ih]; rfl
    · rw [if_neg c, if_neg c, ih]
theorem keysN_mem (day : Int) (G : List S39) (p : Int) (n : Nat) : ∀ k, n ∈ keysN day G p k ↔ 1 ≤ n ∧ n ≤ k ∧ servB day G p n = true
  | 0 => by simp [keysN]; omega
  | k + 1 => by
    have ih := keysN_mem day G p n k
    unfold keysN
    by_cases c : servB day G p (k + 1) = true
    · rw [if_pos c, List.mem_append, ih, List.mem_singleton]
      constructor
      · rintro (h | rfl)
        · exact ⟨h.1, by omega, h.2.2⟩
        · exact ⟨by omega, by omega, c⟩
      · rintro ⟨h1, h2, h3⟩
        by_cases e : n = k + 1
        · exact Or.inr e
        · exact Or.inl ⟨h1, by omega, h3⟩
    · rw [if_neg c, ih]
      constructor
      · rintro ⟨h1, h2, h3⟩; exact ⟨h1, by omega, h3⟩
      · rintro ⟨h1, h2, h3⟩
        refine ⟨h1, ?_, h3⟩
        by_cases e : n = k + 1
        · subst e; exact absurd h3 c
        · omega
theorem keysN_sorted (day : Int) (G : List S39) (p : Int) : ∀ k, (keysN day G p k).Pairwise (· < ·)
  | 0 => List.Pairwise.nil
  | k + 1 => by
    have ih := keysN_sorted day G p k
    unfold keysN
    by_cases c : servB day G p (k + 1) = true
    · rw [if_pos c, List.pairwise_append]
      refine ⟨ih, by simp, fun a ha b hb => ?_⟩
      have h1 := (keysN_mem day G p a k).1 ha
      simp only [List.mem_singleton] at hb
      omega
    · rw [if_neg c]; exact ih
/-- COULD, BY ITS BITS. -/
theorem could_tb {day : Int} {G : List S39} {p : Int} (hI : Inv G) : Sm (couldS day G p) ∧ ∀ v, tb (couldS day G p) v = true ↔ ∃ a b, 1 ≤ b ∧ b < a ∧ a ≤ G.length ∧ servB day G p a = true ∧ servB day G p b = true ∧ pairB p (gr G a) (gr G b) = true ∧ tb (gr G a).f4 v = true ∧ tb (gr G b).f4 v = true := by
  have hk : ∀ x ∈ keysS day G p G.length, Sm x.f4 := fun x hx => by
    obtain ⟨n, q1, q2, rfl⟩ := keysS_mem hx
    obtain ⟨_, _, o3, o4, _⟩ := hI.2 n q1 q2
    exact ⟨by omega, o4⟩
  obtain ⟨k1, k2⟩ := out_tb (p := p) hk _ (Nat.le_refl _)
  refine ⟨k1, fun v => (k2 v).trans ?_⟩
  have hlen : (keysS day G p G.length).length = (keysN day G p G.length).length := by rw [keysS_map, List.length_map]
  have hget : ∀ m, (h : m < (keysN day G p G.length).length) → (keysS day G p G.length).getD m z39 = gr G ((keysN day G p G.length)[m]) := fun m h => by
    rw [List.getD_eq_getElem?_getD, keysS_map, List.getElem?_map, List.getElem?_eq_getElem h]; rfl
  constructor
  · rintro ⟨m, j, q1, q2, q3, q4, q5⟩
    rw [hlen] at q2
    have hj : j < (keysN day G p G.length).length := by omega
    rw [hget m q2] at q3 q4
    rw [hget j hj] at q3 q5
    have m1 := (keysN_mem day G p _ G.length).1 (List.getElem_mem q2)
    have m2 := (keysN_mem day G p _ G.length).1 (List.getElem_mem hj)
    have hs := List.pairwise_iff_getElem.1 (keysN_sorted day G p G.length) j m hj q2 q1
    exact ⟨_, _, m2.1, hs, m1.2.1, m1.2.2, m2.2.2, q3, q4, q5⟩
  · rintro ⟨a, b, q1, q2, q3, q4, q5, q6, q7, q8⟩
    obtain ⟨m, hm, em⟩ := List.getElem_of_mem ((keysN_mem day G p a G.length).2 ⟨by omega, q3, q4⟩)
    obtain ⟨j, hj, ej⟩ := List.getElem_of_mem ((keysN_mem day G p b G.length).2 ⟨q1, by omega, q5⟩)
    have hjm : j < m := Classical.byContradiction fun h => by
      by_cases e : m = j
      · subst e; rw [em] at ej; omega
      · have hs := List.pairwise_iff_getElem.1 (keysN_sorted day G p G.length) m j hm hj (by omega)
        rw [em, ej] at hs; omega
    refine ⟨m, j, hjm, by rw [hlen]; exact hm, ?_, ?_, ?_⟩
    · rw [hget m hm, hget j hj, em, ej]; exact q6
    · rw [hget m hm, em]; exact q7
    · rw [hget j hj, ej]; exact q8
end Go.Proofs.Ytfnlghjkjmppdaa.PC
