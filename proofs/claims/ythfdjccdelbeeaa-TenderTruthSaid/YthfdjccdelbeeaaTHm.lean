/-
  Payments: between nothing and the price; the margin is what the buyer adds to the worth.
-/
import Derived.Test.YthfdjccdelbeeaaTLw
import Derived.Test.YthfdjccdelbeeaaTVc
namespace Go.Proofs.Ythfdjccdelbeeaa.PT
open Go.RowKit Go.Proofs.YthfdjccdelbeeaaW.PrintWords Go.Proofs.YthfdjccdelbeeaaW.PrintLast Go.Proofs.YthfdjccdelbeeaaW.PrintMore Go.Proofs.Ythfdjccdelbeeaa.TPl
set_option linter.unusedVariables false
theorem mem_idx : ∀ (s : List Bool) (i j : Nat), s[j]? = some true → ((i + j : Nat) : Int) ∈ idx (i : Int) s
  | [], i, j, h => by simp at h
  | true :: s, i, 0, h => by simp [idx]
  | true :: s, i, j + 1, h => by
    have := mem_idx s (i + 1) j (by simpa using h)
    simp only [idx, List.mem_cons]
    right
    rw [show (i : Int) + 1 = ((i + 1 : Nat) : Int) from by omega, show i + (j + 1) = i + 1 + j from by omega]; exact this
  | false :: s, i, 0, h => by simp at h
  | false :: s, i, j + 1, h => by
    have := mem_idx s (i + 1) j (by simpa using h)
    simp only [idx]
    rw [show (i : Int) + 1 = ((i + 1 : Nat) : Int) from by omega, show i + (j + 1) = i + 1 + j from by omega]; exact this
/-- A taken offer: the buyer's worth to the others, and the bounds of the payment. -/
theorem pay_bd (l : List S50) (hv : bValid l) (s : List Bool) (hs : IsBest (-1) (l.map toOf) 0 0 s) (j : Nat) (hj : j < l.length) (hsj : s[j]? = some true) :
    0 ≤ payS l ((val (l.map toOf) s : Nat) : Int) (j : Int) ∧ payS l ((val (l.map toOf) s : Nat) : Int) (j : Int) ≤ l[j].f2 := by
  have ho := hv.2 l[j] (List.getElem_mem hj)
  obtain ⟨t, ht, e, _⟩ := best_both l hv l[j].f0
  have hw : worthWo l l[j].f0 = ((val (l.map toOf) t : Nat) : Int) := by simp only [worthWo, e, Option.getD_some]
  have hb : ((toOf l[j]).b : Int) = l[j].f0 := by show ((l[j].f0.toNat : Nat) : Int) = _; omega
  have hp : ((toOf l[j]).p : Int) = l[j].f2 := by show ((l[j].f2.toNat : Nat) : Int) = _; omega
  rw [← hb] at ht
  have h1 := worth_without hs ht
  rw [tk_at (l.map toOf) s 0 0 j (toOf l[j]) hs.1 hsj (by simp [hj])] at h1
  simp only [payS, rd_get l j hj, hw]
  omega
theorem filt_of (l : List S50) (hv : bValid l) (a : Int) : (l.filter (fun o => o.f0 != a)).map toOf = (l.map toOf).filter (fun o => (o.b : Int) != a) := by
  rw [List.filter_map]
  congr 1
  apply List.filter_congr
  intro o ho
  have := hv.2 o ho
  have hb : ((toOf o).b : Int) = o.f0 := by show ((o.f0.toNat : Nat) : Int) = _; omega
  simp [Function.comp, hb]
theorem Vld.sub {lots : Int} {l m : List S50} (h : Vld lots l) (hl : m.length ≤ 16) (hm : ∀ o ∈ m, o ∈ l) : Vld lots m := ⟨h.lo, h.hi, hl, fun o ho => h.all o (hm o ho)⟩
theorem filt_vld {lots : Int} {l : List S50} (h : Vld lots l) (a : Int) : Vld lots (l.filter (fun o => o.f0 != a)) :=
  h.sub (Nat.le_trans (List.length_filter_le _ _) h.len) (fun o ho => (List.mem_filter.1 ho).1)
/-- The worth without a buyer, by the list that lacks them. -/
theorem rest_eq {lots : Int} {l : List S50} (hv : Vld lots l) (a : Int) (ha : 0 ≤ a) {t : List Bool} (ht : IsBest (-1) ((l.filter (fun o => o.f0 != a)).map toOf) 0 0 t) :
    ((val ((l.filter (fun o => o.f0 != a)).map toOf) t : Nat) : Int) = worthWo l a := by
  obtain ⟨s, hs, e, _⟩ := best_both l hv.bv a
  have hw : worthWo l a = ((val (l.map toOf) s : Nat) : Int) := by simp only [worthWo, e, Option.getD_some]
  rw [hw, filt_of l hv.bv]
  rw [filt_of l hv.bv] at ht
  rw [val_filter ha hs ht]
/-- A buyer without a taken offer is worth nothing. -/
theorem rest_same {lots : Int} {l : List S50} (hv : Vld lots l) (a : Int) {s t : List Bool} (hs : IsBest (-1) (l.map toOf) 0 0 s) (ht : IsBest (-1) ((l.filter (fun o => o.f0 != a)).map toOf) 0 0 t)
    (hno : ∀ x ∈ idx 0 s, (rd_T50 l x).f0 ≠ a) : val ((l.filter (fun o => o.f0 != a)).map toOf) t = val (l.map toOf) s := by
  by_cases ha : 0 ≤ a
  · have h1 := rest_eq hv a ha ht
    obtain ⟨u, hu, e, _⟩ := best_both l hv.bv a
    have hw : worthWo l a = ((val (l.map toOf) u : Nat) : Int) := by simp only [worthWo, e, Option.getD_some]
    rw [show a = ((a.toNat : Nat) : Int) by omega] at hu
    have h2 := worth_without hs hu
    have h3 : tk a.toNat (l.map toOf) s = 0 := by
      refine tk_zero _ _ _ fun j _ hj ho => ?_
      have hm := mem_idx s 0 j hj
      rw [Nat.zero_add] at hm
      rw [List.getElem?_map, Option.map_eq_some_iff] at ho
      obtain ⟨o', ho', rfl⟩ := ho
      obtain ⟨hlt, hoe⟩ := List.getElem?_eq_some_iff.1 ho'
      have := hno _ hm
      rw [rd_get l j hlt, hoe] at this
      have hb := hv.bv.2 o' (List.mem_of_getElem? ho')
      show o'.f0.toNat ≠ a.toNat
      omega
    omega
  · have : l.filter (fun o => o.f0 != a) = l := List.filter_eq_self.2 fun o ho => by have := hv.bv.2 o ho; simp; omega
    rw [this] at ht ⊢
    rw [IsBest.uniq ht hs]
end Go.Proofs.Ythfdjccdelbeeaa.PT
