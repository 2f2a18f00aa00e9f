/-
  The tender's printed functions come to the plain words: the checks, the search, the seal, the comparisons.
-/
import Derived.Test.YthfdjccdelbeeaaTPl
import Derived.Test.YthfdjccdelbeeaaPTx4
import Derived.Test.YthfdjccdelbeeaaPTx5
import Derived.Test.YthfdjccdelbeeaaPTx6
import Derived.Test.YthfdjccdelbeeaaPTxOk
import Derived.Laws.BitsAllLaws
namespace Go.Proofs.Ythfdjccdelbeeaa.PT
open Go.RowKit Go.Proofs.YthfdjccdelbeeaaW.PrintWords Go.Proofs.YthfdjccdelbeeaaW.PrintLast Go.Proofs.YthfdjccdelbeeaaW.PrintMore Go.Proofs.Ythfdjccdelbeeaa.TPl
set_option linter.unusedVariables false
theorem w64 (i : Nat) (h : i < 4611686018427387904) : wrap64 ((i : Int) + 1) = ((i + 1 : Nat) : Int) := by unfold wrap64; omega
theorem wf_i64 {n : Int} (h : (Lit.int .i64 n).wf = true) : -9223372036854775808 ≤ n ∧ n ≤ 9223372036854775807 := by simpa [Lit.wf, IntKind.min, IntKind.max, IntKind.signed, IntKind.bits] using h
theorem wf_u64 {n : Int} (h : (Lit.int .u64 n).wf = true) : 0 ≤ n ∧ n < 18446744073709551616 := by
  have : 0 ≤ n ∧ n ≤ 18446744073709551615 := by simpa [Lit.wf, IntKind.min, IntKind.max, IntKind.signed, IntKind.bits] using h
  omega
theorem wf_u8 {n : Int} (h : (Lit.int .u8 n).wf = true) : 0 ≤ n ∧ n ≤ 255 := by simpa [Lit.wf, IntKind.min, IntKind.max, IntKind.signed, IntKind.bits] using h
theorem Ev.here {α : Type} {g : Nat → Option α} {r : α} (h : ∀ k, g (k + 1) = some r) : Ev g r := Ev.step h (Ev.now r)
theorem Ev.const {α : Type} {x : Option α} {r : α} (h : x = some r) : Ev (fun _ => x) r := ⟨0, fun _ _ => h⟩
theorem bits63 (a b : Nat) (ha : a < 9223372036854775808) (hb : b < 9223372036854775808) : bits .and .i64 (a : Int) (b : Int) = ((a &&& b : Nat) : Int) ∧ bits .or .i64 (a : Int) (b : Int) = ((a ||| b : Nat) : Int) :=
  bits_nat .i64 63 (by decide) (fun n h0 h1 => by rw [IntKind.wrap_i64]; omega) a b ha hb
theorem shl_lots (a : Int) (h0 : 0 ≤ a) (h1 : a ≤ 12) : shl .i64 1 a = ((2 ^ a.toNat : Nat) : Int) := by
  obtain ⟨n, rfl⟩ := Int.eq_ofNat_of_zero_le h0
  have hn : n ≤ 12 := by omega
  match n, hn with
  | 0, _ | 1, _ | 2, _ | 3, _ | 4, _ | 5, _ | 6, _ | 7, _ | 8, _ | 9, _ | 10, _ | 11, _ | 12, _ => decide
  | n + 13, h => omega
def good (lots : Int) (o : S50) : Bool := decide (0 ≤ o.f0 ∧ o.f0 ≤ 7 ∧ 1 ≤ o.f1 ∧ o.f1 < ((2 ^ lots.toNat : Nat) : Int) ∧ 1 ≤ o.f2 ∧ o.f2 ≤ 1073741824)
theorem valid_good (lots : Int) (o : S50) (h0 : 1 ≤ lots) (h1 : lots ≤ 12) : tender_valid.f o.f0 o.f1 o.f2 lots = some (good lots o) := by
  unfold tender_valid.f good
  rw [shl_lots lots (by omega) h1]
  generalize ((2 ^ lots.toNat : Nat) : Int) = M
  by_cases c1 : o.f0 ≥ 0 <;> by_cases c2 : o.f0 ≤ 7 <;> by_cases c3 : o.f1 ≥ 1 <;> by_cases c4 : o.f1 < M <;> by_cases c5 : o.f2 ≥ 1 <;> by_cases c6 : o.f2 ≤ 1073741824 <;>
    simp [c1, c2, c3, c4, c5, c6, show 0 ≤ lots by omega] <;> omega
theorem Good_good (lots : Int) (o : S50) (h0 : 1 ≤ lots) (h1 : lots ≤ 12) : kimberliteref05_Good.f lots o.f0 o.f1 o.f2 = some (good lots o) := by
  unfold kimberliteref05_Good.f good
  rw [shl_lots lots (by omega) h1]
  generalize ((2 ^ lots.toNat : Nat) : Int) = M
  by_cases c1 : o.f0 ≥ 0 <;> by_cases c2 : o.f0 ≤ 7 <;> by_cases c3 : o.f1 ≥ 1 <;> by_cases c4 : o.f1 < M <;> by_cases c5 : o.f2 ≥ 1 <;> by_cases c6 : o.f2 ≤ 1073741824 <;>
    simp [c1, c2, c3, c4, c5, c6, show 0 ≤ lots by omega] <;> omega
theorem rd_get (l : List S50) (i : Nat) (h : i < l.length) : rd_T50 l (i : Int) = l[i] := by simp [rd_T50, h]
def errS (lots : Int) (l : List S50) : Int := if lots < 1 ∨ 12 < lots then 2 else if 16 < l.length then 3 else if l.all (good lots) = true then 0 else 2
theorem ev_checked_l (lots : Int) (l : List S50) (h0 : 1 ≤ lots) (h1 : lots ≤ 12) (hl : l.length ≤ 16) : ∀ (d i : Nat), i + d = l.length → Ev (fun k => tender_checked.l0 k lots l (l.length : Int) (i : Int)) (if (l.drop i).all (good lots) = true then 0 else 2)
  | 0, i, h => Ev.here fun k => by
      simp only [tender_checked.l0]
      rw [if_neg (by omega), List.drop_of_length_le (by omega)]; rfl
  | d + 1, i, h => by
      have hi : i < l.length := by omega
      have ih := ev_checked_l lots l h0 h1 hl d (i + 1) (by omega)
      rw [List.drop_eq_getElem_cons hi, List.all_cons]
      have hst : ∀ k, tender_checked.l0 (k + 1) lots l (l.length : Int) (i : Int) = if good lots l[i] = true then tender_checked.l0 k lots l (l.length : Int) ((i + 1 : Nat) : Int) else some 2 := fun k => by
        simp only [tender_checked.l0]
        rw [if_pos (by omega), if_pos (by omega), if_pos (by omega), rd_get l i hi, valid_good lots _ h0 h1, w64 i (by omega)]; rfl
      cases hg : good lots l[i] with
      | true =>
        refine Ev.step (fun k => by rw [hst k, hg, if_pos rfl]) ?_
        simpa using ih
      | false => exact Ev.here fun k => by rw [hst k, hg]; rfl
theorem ev_checked (lots : Int) (l : List S50) : Ev (fun k => tender_checked.f k lots l) (errS lots l) := by
  unfold errS
  by_cases c : lots < 1 ∨ 12 < lots
  · rw [if_pos c]
    refine Ev.here fun k => ?_
    simp only [tender_checked.f]
    by_cases c1 : lots < 1
    · rw [if_pos c1]; simp [tender_checked.j0]
    · rw [if_neg c1, decide_eq_true (by omega)]; simp [tender_checked.j0]
  · rw [if_neg c]
    have hf : ∀ k, tender_checked.f (k + 1) lots l = if (l.length : Int) > 16 then some 3 else tender_checked.l0 k lots l (l.length : Int) ((0 : Nat) : Int) := fun k => by
      simp only [tender_checked.f]
      rw [if_neg (by omega), decide_eq_false (by omega)]
      simp [tender_checked.j0]
    by_cases c2 : 16 < l.length
    · rw [if_pos c2]; exact Ev.here fun k => by rw [hf k, if_pos (by omega)]
    · rw [if_neg c2]
      refine Ev.step (fun k => by rw [hf k, if_neg (by omega)]) ?_
      simpa using ev_checked_l lots l (by omega) (by omega) (by omega) l.length 0 (by omega)
theorem ev_Offers_l (lots : Int) (l : List S50) (h0 : 1 ≤ lots) (h1 : lots ≤ 12) (hl : l.length ≤ 16) : ∀ (d i : Nat), i + d = l.length → Ev (fun k => kimberliteref05_Offers.l0 k lots l (i : Int)) (if (l.drop i).all (good lots) = true then 0 else 2)
  | 0, i, h => Ev.here fun k => by
      simp only [kimberliteref05_Offers.l0]
      rw [if_neg (by omega), List.drop_of_length_le (by omega)]; rfl
  | d + 1, i, h => by
      have hi : i < l.length := by omega
      have ih := ev_Offers_l lots l h0 h1 hl d (i + 1) (by omega)
      rw [List.drop_eq_getElem_cons hi, List.all_cons]
      have hst : ∀ k, kimberliteref05_Offers.l0 (k + 1) lots l (i : Int) = if good lots l[i] = true then kimberliteref05_Offers.l0 k lots l ((i + 1 : Nat) : Int) else some 2 := fun k => by
        simp only [kimberliteref05_Offers.l0]
        rw [if_pos (by omega), if_pos (by omega), rd_get l i hi, Good_good lots _ h0 h1, w64 i (by omega)]; rfl
      cases hg : good lots l[i] with
      | true =>
        refine Ev.step (fun k => by rw [hst k, hg, if_pos rfl]) ?_
        simpa using ih
      | false => exact Ev.here fun k => by rw [hst k, hg]; rfl
theorem ev_Offers (lots : Int) (l : List S50) : Ev (fun k => kimberliteref05_Offers.f k lots l) (errS lots l) := by
  unfold errS
  by_cases c : lots < 1 ∨ 12 < lots
  · rw [if_pos c]
    refine Ev.here fun k => ?_
    simp only [kimberliteref05_Offers.f]
    by_cases c1 : lots < 1
    · rw [if_pos c1]; simp [kimberliteref05_Offers.j0]
    · rw [if_neg c1, decide_eq_true (by omega)]; simp [kimberliteref05_Offers.j0]
  · rw [if_neg c]
    have hf : ∀ k, kimberliteref05_Offers.f (k + 1) lots l = if (l.length : Int) > 16 then some 3 else kimberliteref05_Offers.l0 k lots l ((0 : Nat) : Int) := fun k => by
      simp only [kimberliteref05_Offers.f]
      rw [if_neg (by omega), decide_eq_false (by omega)]
      simp [kimberliteref05_Offers.j0]
    by_cases c2 : 16 < l.length
    · rw [if_pos c2]; exact Ev.here fun k => by rw [hf k, if_pos (by omega)]
    · rw [if_neg c2]
      refine Ev.step (fun k => by rw [hf k, if_neg (by omega)]) ?_
      simpa using ev_Offers_l lots l (by omega) (by omega) (by omega) l.length 0 (by omega)
/-- What the checks let by. -/
structure Vld (lots : Int) (l : List S50) : Prop where
  lo : 1 ≤ lots
  hi : lots ≤ 12
  len : l.length ≤ 16
  all : ∀ o ∈ l, 0 ≤ o.f0 ∧ o.f0 ≤ 7 ∧ 1 ≤ o.f1 ∧ o.f1 < ((2 ^ lots.toNat : Nat) : Int) ∧ 1 ≤ o.f2 ∧ o.f2 ≤ 1073741824
theorem errS_zero {lots : Int} {l : List S50} : errS lots l = 0 ↔ Vld lots l := by
  unfold errS
  constructor
  · intro h
    split at h
    · omega
    · split at h
      · omega
      · split at h
        · rename_i h1 h2 h3
          exact ⟨by omega, by omega, by omega, fun o ho => by have := List.all_eq_true.1 h3 o ho; simpa [good] using this⟩
        · omega
  · rintro ⟨h0, h1, h2, h3⟩
    rw [if_neg (by omega), if_neg (by omega), if_pos (List.all_eq_true.2 fun o ho => by simpa [good] using h3 o ho)]
theorem Vld.bv {lots : Int} {l : List S50} (h : Vld lots l) : bValid l := by
  refine ⟨h.len, fun o ho => ?_⟩
  obtain ⟨a, b, c, d, e, f⟩ := h.all o ho
  have : 2 ^ lots.toNat ≤ 2 ^ 12 := Nat.pow_le_pow_right (by decide) (by have := h.hi; omega)
  exact ⟨a, b, c, by omega, e, f⟩
def toOf (o : S50) : Of := ⟨o.f0.toNat, o.f1.toNat, o.f2.toNat⟩
theorem bSum_tot : ∀ (l : List S50), (∀ o ∈ l, 1 ≤ o.f2) → bSum l = ((tot (l.map toOf) : Nat) : Int)
  | [], _ => rfl
  | o :: os, h => by
    have := h o List.mem_cons_self
    simp only [bSum, List.map_cons, tot, toOf, bSum_tot os (fun x hx => h x (List.mem_cons_of_mem _ hx))]
    omega
theorem pow8 (b : Nat) (h : b ≤ 7) : wrap64 (2 ^ b) = ((2 ^ b : Nat) : Int) := by
  match b, h with
  | 0, _ | 1, _ | 2, _ | 3, _ | 4, _ | 5, _ | 6, _ | 7, _ => simp [wrap64]
  | b + 8, h => omega
theorem and_pow_zero (B b : Nat) : B &&& 2 ^ b = 0 ↔ B.testBit b = false := by
  constructor
  · intro h
    have := congrArg (fun x => x.testBit b) h
    simpa [Nat.testBit_and, Nat.testBit_two_pow_self] using this
  · intro h
    apply Nat.eq_of_testBit_eq
    intro i
    rw [Nat.testBit_and, Nat.zero_testBit, Nat.testBit_two_pow]
    by_cases e : b = i
    · subst e; simp [h]
    · simp [e]
theorem bOk_nok (wo : Int) (L B : Nat) (o : S50) (hL : L < 4096) (hB : B < 256) (h : 0 ≤ o.f0 ∧ o.f0 ≤ 7 ∧ 1 ≤ o.f1 ∧ o.f1 < 4096 ∧ 1 ≤ o.f2 ∧ o.f2 ≤ 1073741824) :
    (bOk wo L B o ↔ nok wo L B (toOf o)) ∧ bits .or .i64 (L : Int) o.f1 = ((L ||| (toOf o).l : Nat) : Int) ∧ bits .or .i64 (B : Int) (wrap64 (2 ^ o.f0.toNat)) = ((B ||| 2 ^ (toOf o).b : Nat) : Int) ∧ (L ||| (toOf o).l) < 4096 ∧ (B ||| 2 ^ (toOf o).b) < 256 := by
  obtain ⟨h1, h2, h3, h4, h5, h6⟩ := h
  have e1 : o.f1 = ((o.f1.toNat : Nat) : Int) := by omega
  have hb : o.f0.toNat ≤ 7 := by omega
  have hp : 2 ^ o.f0.toNat ≤ 2 ^ 7 := Nat.pow_le_pow_right (by decide) hb
  have hl : o.f1.toNat < 4096 := by omega
  refine ⟨?_, ?_, ?_, ?_, ?_⟩
  · unfold bOk nok toOf
    rw [pow8 _ hb, e1, (bits63 L o.f1.toNat (by omega) (by omega)).1, (bits63 B (2 ^ o.f0.toNat) (by omega) (by omega)).1]
    simp only [Int.natCast_eq_zero, Int.toNat_natCast, and_pow_zero]
    have : (o.f0.toNat : Int) = o.f0 := by omega
    rw [this]
  · conv => lhs; rw [e1]
    rw [(bits63 L o.f1.toNat (by omega) (by omega)).2]; rfl
  · rw [pow8 _ hb, (bits63 B (2 ^ o.f0.toNat) (by omega) (by omega)).2]; rfl
  · exact Nat.or_lt_two_pow (n := 12) hL hl
  · exact Nat.or_lt_two_pow (n := 8) hB (by show 2 ^ o.f0.toNat < _; omega)
theorem bGo_nGo (wo : Int) : ∀ (os : List S50) (i : Int) (L B : Nat) (sum : Nat) (now : List Int) (tw : List Int × Int), (∀ o ∈ os, 0 ≤ o.f0 ∧ o.f0 ≤ 7 ∧ 1 ≤ o.f1 ∧ o.f1 < 4096 ∧ 1 ≤ o.f2 ∧ o.f2 ≤ 1073741824) → L < 4096 → B < 256 →
    bGo wo os i L B sum now tw = nGo wo (os.map toOf) i L B sum now tw
  | [], i, L, B, sum, now, tw, _, _, _ => rfl
  | o :: os, i, L, B, sum, now, tw, h, hL, hB => by
    have ho := h o List.mem_cons_self
    have hos := fun x hx => h x (List.mem_cons_of_mem o hx)
    obtain ⟨k1, k2, k3, k4, k5⟩ := bOk_nok wo L B o hL hB ho
    have hs : (sum : Int) + bSum (o :: os) = ((sum + tot ((o :: os).map toOf) : Nat) : Int) := by
      rw [bSum_tot (o :: os) (fun x hx => (h x hx).2.2.2.2.1)]; omega
    have hp : (sum : Int) + o.f2 = ((sum + (toOf o).p : Nat) : Int) := by show _ = ((sum + o.f2.toNat : Nat) : Int); omega
    rw [bGo, hs, k2, k3, hp, bGo_nGo wo os _ _ _ _ _ _ hos k4 k5]
    simp only [List.map_cons]
    rw [nGo, bGo_nGo wo os _ _ _ _ _ _ hos hL hB]
    simp only [k1]
theorem best_spec (l : List S50) (wo : Int) (h : bValid l) : ∃ s, IsBest wo (l.map toOf) 0 0 s ∧ tender_best.f l wo = some (idx 0 s, ((val (l.map toOf) s : Nat) : Int)) := by
  obtain ⟨s, hs, e⟩ := nGo_best wo (l.map toOf) 0 0
  refine ⟨s, hs, ?_⟩
  unfold tender_best.f
  rw [if_pos h]
  have e1 := bGo_nGo wo l 0 0 0 0 [] ([], -1) h.2 (by decide) (by decide)
  simp only [Int.ofNat_zero] at e1
  have e2 := e 0 0 [] ([], -1)
  rw [if_neg (by dsimp only; omega)] at e2
  rw [e1, e2]; simp
theorem ev_alive : Ev (fun k => kimberlitelaw05_alive.f k) true := Ev.of (fun k => kimberlitelaw05_alive.mono k) (k := 20) (by kernel_rfl)
end Go.Proofs.Ythfdjccdelbeeaa.PT
