/- Proved: the pure statement of TenderSeals. -/
import Derived.Test.YthfdjccdelbeeaaPTxPureTenderSeals
import Derived.Test.YthfdjccdelbeeaaTBr
namespace Go.Proofs.Ythfdjccdelbeeaa.PT
open Go.RowKit Go.Proofs.YthfdjccdelbeeaaW.PrintWords Go.Proofs.Ythfdjccdelbeeaa.Opn
theorem ev_mixed_l : ∀ (d i : Nat) (h n : Int), i + d = 8 → 0 ≤ n → n < 18446744073709551616 → Ev (fun k => kimberliteref05_mixed.l0 k h n (i : Int)) (sealMix d h n)
  | 0, i, h, n, hi, h0, h1 => Ev.here fun k => by
      simp only [kimberliteref05_mixed.l0]
      rw [if_neg (by omega)]; rfl
  | d + 1, i, h, n, hi, h0, h1 => by
      have ih := ev_mixed_l d (i + 1) (IntKind.u64.wrap (bits .xor .u64 h (n % 256) * 1099511628211)) (n / 256) (by omega) (by omega) (by omega)
      refine Ev.step (fun k => ?_) ih
      simp only [kimberliteref05_mixed.l0]
      rw [if_pos (by omega), w64 i (by omega), Int.tmod_eq_emod_of_nonneg h0, Int.tdiv_eq_ediv_of_nonneg h0, IntKind.wrap_u64 (n / 256), Int.emod_eq_of_lt (a := n / 256) (b := 18446744073709551616) (by omega) (by omega)]
theorem ev_mixed (h n : Int) (h0 : 0 ≤ n) (h1 : n < 18446744073709551616) : Ev (fun k => kimberliteref05_mixed.f k h n) (sealMix 8 h n) := ev_mixed_l 8 0 h n rfl h0 h1
theorem ev_Seal_l (l : List S50) (hl : l.length ≤ 300) : ∀ (d i : Nat) (h : Int), i + d = l.length → Ev (fun k => kimberliteref05_Seal.l0 k l h (i : Int)) ((l.drop i).foldl sealOne h)
  | 0, i, h, hi => Ev.here fun k => by
      simp only [kimberliteref05_Seal.l0]
      rw [if_neg (by omega), List.drop_of_length_le (by omega)]; rfl
  | d + 1, i, h, hi => by
      have hlt : i < l.length := by omega
      have ih := ev_Seal_l l hl d (i + 1) (sealOne h l[i]) (by omega)
      rw [List.drop_eq_getElem_cons hlt, List.foldl_cons]
      have r0 := u64_range l[i].f0
      have r1 := u64_range l[i].f1
      have r2 := u64_range l[i].f2
      refine Ev.step (f := fun k => (kimberliteref05_mixed.f k h (IntKind.u64.wrap l[i].f0)).bind fun t209 => ((kimberliteref05_mixed.f k t209 (IntKind.u64.wrap l[i].f1)).bind fun t211 => ((kimberliteref05_mixed.f k t211 (IntKind.u64.wrap l[i].f2)).bind fun t213 => (kimberliteref05_Seal.l0 k l t213 ((i + 1 : Nat) : Int))))) (fun k => ?_) ?_
      · simp only [kimberliteref05_Seal.l0]
        rw [if_pos (by omega), if_pos (by omega), rd_get l i hlt, w64 i (by omega)]
      · exact Ev.bind (ev_mixed _ _ r0.1 r0.2) (Ev.bind (ev_mixed _ _ r1.1 r1.2) (Ev.bind (ev_mixed _ _ r2.1 r2.2) ih))
theorem ev_Seal (l : List S50) (a : Int) (hl : l.length ≤ 300) (h0 : 0 ≤ a) (h1 : a < 18446744073709551616) : Ev (fun k => kimberliteref05_Seal.f k l a) (sealAll l a) :=
  Ev.bind (ev_mixed _ a h0 h1) (by simpa [sealAll] using ev_Seal_l l hl l.length 0 (sealMix 8 14695981039346656037 a) (by omega))
theorem tenderSeals_pure : kimberlitelaw05_TenderSeals.Pure2 := by
  intro l a _ ha
  have hb : 0 ≤ a ∧ a < 18446744073709551616 := wf_u64 ha
  apply Ev.rounds
  unfold kimberlitelaw05_TenderSeals.f
  by_cases hl : (l.length : Int) > 300
  · simp only [if_pos hl]
    exact Ev.bind ev_alive (Ev.now true)
  · simp only [if_neg hl]
    have hf : tender_Seal.f l a = some (sealAll l a) := by unfold tender_Seal.f; rw [if_pos hb]
    refine Ev.bind (Ev.const hf) (Ev.bind (ev_Seal l a (by omega) hb.1 hb.2) ?_)
    simp only [if_true]
    exact Ev.bind ev_alive (Ev.now true)
end Go.Proofs.Ythfdjccdelbeeaa.PT
