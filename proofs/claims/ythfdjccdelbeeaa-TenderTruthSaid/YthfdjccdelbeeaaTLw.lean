/-
  The laws' helpers: copies, comparisons of offers, offers without a buyer.
-/
import Derived.Test.YthfdjccdelbeeaaTDc
import Derived.Test.YthfdjccdelbeeaaPTx12
import Derived.Test.YthfdjccdelbeeaaPTx6
namespace Go.Proofs.Ythfdjccdelbeeaa.PT
open Go.RowKit Go.Proofs.YthfdjccdelbeeaaW.PrintWords Go.Proofs.YthfdjccdelbeeaaW.PrintLast Go.Proofs.YthfdjccdelbeeaaW.PrintMore Go.Proofs.Ythfdjccdelbeeaa.TPl
set_option linter.unusedVariables false
theorem eta50 (o : S50) : (⟨o.f0, o.f1, o.f2⟩ : S50) = o := rfl
theorem ev_own_l (l : List S50) (hl : l.length < 1000000) : ∀ (d i : Nat) (x : List S50), i + d = l.length → x.length = l.length → x.take i = l.take i → Ev (fun k => kimberlitelaw05_own.l0 k l x (i : Int)) l
  | 0, i, x, h, hx, ht => Ev.here fun k => by
      simp only [kimberlitelaw05_own.l0]
      rw [if_neg (by omega)]
      rw [List.take_of_length_le (by omega), List.take_of_length_le (by omega)] at ht
      rw [ht]
  | d + 1, i, x, h, hx, ht => by
      have hi : i < l.length := by omega
      have hi' : i < x.length := by omega
      have ih := ev_own_l l hl d (i + 1) (x.set i l[i]) (by omega) (by simpa using hx) (by
        rw [List.take_succ_eq_append_getElem (by simpa using hi'), List.take_succ_eq_append_getElem hi]
        rw [List.take_set_of_le (Nat.le_refl _), ht]; simp)
      refine Ev.step (fun k => ?_) ih
      simp only [kimberlitelaw05_own.l0]
      rw [if_pos (by omega), if_pos (by omega), if_pos (by omega), rd_get l i hi, w64 i (by omega), eta50, Int.toNat_natCast]
theorem ev_own (l : List S50) (hl : l.length < 1000000) : Ev (fun k => kimberlitelaw05_own.f k l) l := by
  have := ev_own_l l hl l.length 0 (List.replicate l.length z50) (by omega) (by simp) (by simp)
  refine Ev.congr (fun k => ?_) this
  simp only [kimberlitelaw05_own.f]
  rw [if_pos (by omega), Int.toNat_natCast, if_pos (by omega)]; rfl
theorem ev_offers_l (l : List S50) (hl : l.length < 1000000) : ∀ (d i : Nat), i + d = l.length → Ev (fun k => kimberlitelaw05_offers.l0 k l l (i : Int)) true
  | 0, i, h => Ev.here fun k => by
      simp only [kimberlitelaw05_offers.l0]
      rw [if_neg (by omega)]
  | d + 1, i, h => by
      have ih := ev_offers_l l hl d (i + 1) (by omega)
      refine Ev.step (fun k => ?_) ih
      simp only [kimberlitelaw05_offers.l0]
      rw [if_pos (by omega), if_pos (by omega), if_pos (by omega), w64 i (by omega)]
      simp
theorem ev_offers (l : List S50) (hl : l.length < 1000000) : Ev (fun k => kimberlitelaw05_offers.f k l l) true :=
  Ev.congr (fun k => by simp only [kimberlitelaw05_offers.f]; rw [if_pos trivial]; rfl) (ev_offers_l l hl l.length 0 (by omega))
theorem ev_without_l (l : List S50) (b : Int) (hl : l.length < 1000000) : ∀ (d i : Nat) (x : List S50), i + d = l.length → x.length ≤ i → Ev (fun k => kimberlitelaw05_without.l0 k l b x (i : Int)) (x ++ (l.drop i).filter (fun o => o.f0 != b))
  | 0, i, x, h, hx => Ev.here fun k => by
      simp only [kimberlitelaw05_without.l0]
      rw [if_neg (by omega), List.drop_of_length_le (by omega)]; simp
  | d + 1, i, x, h, hx => by
      have hi : i < l.length := by omega
      have hst : ∀ k, kimberlitelaw05_without.l0 (k + 1) l b x (i : Int) = if l[i].f0 = b then kimberlitelaw05_without.l0 k l b x ((i + 1 : Nat) : Int) else kimberlitelaw05_without.l0 k l b (x ++ [l[i]]) ((i + 1 : Nat) : Int) := fun k => by
        simp only [kimberlitelaw05_without.l0]
        rw [if_pos (by omega), if_pos (by omega), rd_get l i hi, w64 i (by omega), if_pos (show x.length < 5864062014805 by omega)]
      have hd : (l.drop i).filter (fun o => o.f0 != b) = if l[i].f0 = b then (l.drop (i + 1)).filter (fun o => o.f0 != b) else l[i] :: (l.drop (i + 1)).filter (fun o => o.f0 != b) := by
        rw [List.drop_eq_getElem_cons hi, List.filter_cons]
        by_cases c : l[i].f0 = b
        · rw [if_pos c, if_neg (by simp [c])]
        · rw [if_neg c, if_pos (by simp [c])]
      rw [hd]
      by_cases c : l[i].f0 = b
      · rw [if_pos c]
        exact Ev.step (fun k => by rw [hst k, if_pos c]) (ev_without_l l b hl d (i + 1) x (by omega) (by omega))
      · rw [if_neg c]
        have ih := ev_without_l l b hl d (i + 1) (x ++ [l[i]]) (by omega) (by simp; omega)
        rw [List.append_assoc] at ih
        exact Ev.step (fun k => by rw [hst k, if_neg c]) ih
theorem ev_without (l : List S50) (b : Int) (hl : l.length < 1000000) : Ev (fun k => kimberlitelaw05_without.f k l b) (l.filter (fun o => o.f0 != b)) := by
  simpa [kimberlitelaw05_without.f] using ev_without_l l b hl l.length 0 [] (by omega) (by simp)
end Go.Proofs.Ythfdjccdelbeeaa.PT
