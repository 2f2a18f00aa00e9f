/-
  The texts that the theorem in YthfdjccdelbeeaaZRowBi rests on, merged (part 9); only what it reaches.
-/
import Derived.ProofKit
import Derived.OpenShut
import Derived.WalkKit
import Derived.Test.YthfdjccdelbeeaaZBi3
import Derived.Test.YthfdjccdelbeeaaZBi4
import Derived.Test.YthfdjccdelbeeaaZBi5
import Derived.Test.YthfdjccdelbeeaaZBi7
section
namespace Go.Proofs.Ythfdjccdelbeeaa.PT
open Go.RowKit Go.Proofs.YthfdjccdelbeeaaW.PrintWords Go.Proofs.YthfdjccdelbeeaaW.PrintLast Go.Proofs.YthfdjccdelbeeaaW.PrintMore Go.Proofs.Ythfdjccdelbeeaa.Opn
set_option linter.unusedVariables false
set_option linter.unusedSimpArgs false
set_option maxHeartbeats 12800000 in
set_option maxRecDepth 100000 in
theorem kimberlitelaw05_TenderBinds.calls (lots : Int) (A1 : Option Addr) (c1 : Nat) (l : List S50) (SL : List Int) (A3 : Option Addr) (c3 : Nat) (ot : List S50) (od : Nat) (w : World) (hCl : Kd.C k50 w A1 l.length l) (hlc : l.length ≤ c1) (hCo : Kd.C k50 w A3 ot.length ot) (hoc : ot.length ≤ c3) (hsl : SL.length = 4) (hsr : ∀ x ∈ SL, 0 ≤ x ∧ x < 18446744073709551616) (hod : od < 256) : Calls Try.prog 10 #[.int .i64 lots, .slice A1 l.length c1, .agg (SL.map (Value.int .u64)).toArray, .slice A3 ot.length c3, .int .u8 (od : Int)] w fun e w' => e = .returned (.bool true) ∧ Below w.heap.size w w' := by
  have hu50 := Try.underlying50
  have hu61 := Try.underlying61
  have hu65 := Try.underlying65
  have HCL := lhid hCl
  have HCO := lhid hCo
  have HSL := lhid hsl
  have HSR := lhid hsr
  have HOD := lhid hod
  have HLC := lhid hlc
  have HOC := lhid hoc
  clear hCl hCo hsl hsr hod hlc hoc
  go_enter Try.func10, Try.ntmps10
  have HB_1 := lhid (Below.refl w.heap.size w)
  go_upto_region 1 with (fail)
  have hb := below_alloc (Below.refl w.heap.size w) (.cells (SL.map (Value.int .u64)).toArray 61)
  have hn := blk_new w (.cells (SL.map (Value.int .u64)).toArray 61)
  have HZ1 := lhid (show (World.alloc w (.cells (SL.map (Value.int .u64)).toArray 61)).heap.size = w.heap.size + 1 from by simp)
  generalize hq : World.alloc w (.cells (SL.map (Value.int .u64)).toArray 61) = w1 at hb hn HZ1 ⊢
  clear hq
  have HB_2 := lhid (below_then HB_1.out HB_1.out.size hb)
  clear HB_1 hb
  have XB_3 := lhid (hn)
  clear hn
  obtain ⟨xb, hxb⟩ : ∃ q, q = w.heap.size := ⟨_, rfl⟩
  rw [← hxb] at XB_3 ⊢
  have HXB := lhid hxb
  clear hxb
  go_wp2_with fail
  have hN := New_t w1 lots
  with_reducible refine hN.mono ?_
  clear hN
  rintro e w10 ho
  rcases ho with ⟨h1, rfl, hb⟩ | ⟨hn0, rfl, ht, hb⟩
  · have HB_4 := lhid (below_then HB_2.out HB_2.out.size hb)
    have XB_5 := lhid (blk_below XB_3.out hb)
    clear HB_2 XB_3 hb
    go_wp2_with fail
    try any_goals (exfalso; omega)
    with_reducible refine (alive_calls w10).mono ?_
    rintro e w711 ⟨rfl, hb⟩
    have HB_6 := lhid (below_then HB_4.out HB_4.out.size hb)
    have XB_7 := lhid (blk_below XB_5.out hb)
    clear HB_4 XB_5 hb
    go_wp2_with fail
    go_ret
    exact ⟨rfl, HB_6.out⟩
  have HT0 := lhid ht
  have HW1 := lhid (show w1.heap.size = w.heap.size + 1 from HZ1.out)
  clear ht
  have HB_8 := lhid (below_then HB_2.out HB_2.out.size hb)
  have XB_9 := lhid (blk_below XB_3.out hb)
  clear HB_2 XB_3 hb
  obtain ⟨t, htt⟩ : ∃ q, q = w1.heap.size := ⟨_, rfl⟩
  rw [← htt] at HT0 ⊢
  have HTT := lhid (show t = w.heap.size + 1 by rw [htt]; exact HW1.out)
  clear htt
  have HLO := lhid (show 1 ≤ lots ∧ lots ≤ 12 by unfold newC at hn0; split at hn0; exact absurd hn0 (by decide); omega)
  clear hn0
  by_cases h8 : l.length > 8
  · have h8i : (l.length : Int) > 8 := by omega
    go_wp2_with fail
    try any_goals (exfalso; omega)
    with_reducible refine (alive_calls w10).mono ?_
    rintro e w711 ⟨rfl, hb⟩
    have HB_10 := lhid (below_then HB_8.out HB_8.out.size hb)
    have XB_11 := lhid (blk_below XB_9.out hb)
    have HT_12 := lhid (HT0.out.next hb)
    clear HB_8 XB_9 HT0 hb
    go_wp2_with fail
    go_ret
    exact ⟨rfl, HB_10.out⟩
  by_cases h4 : ot.length > 4
  · have h8i : ¬ ((l.length : Int) > 8) := by omega
    have h4i : (ot.length : Int) > 4 := by omega
    go_wp2_with fail
    try any_goals (exfalso; omega)
    with_reducible refine (alive_calls w10).mono ?_
    rintro e w711 ⟨rfl, hb⟩
    have HB_13 := lhid (below_then HB_8.out HB_8.out.size hb)
    have XB_14 := lhid (blk_below XB_9.out hb)
    have HT_15 := lhid (HT0.out.next hb)
    clear HB_8 XB_9 HT0 hb
    go_wp2_with fail
    go_ret
    exact ⟨rfl, HB_13.out⟩
  have h8i : ¬ ((l.length : Int) > 8) := by omega
  have h4i : ¬ ((ot.length : Int) > 4) := by omega
  go_upto_region 5 with (fail)
  try any_goals (exfalso; omega)
  have H8 := lhid (show l.length ≤ 8 by omega)
  have H4 := lhid (show ot.length ≤ 4 by omega)
  clear h8 h4 h8i h4i
  obtain ⟨wq, hwq⟩ : ∃ q : World, q = w10 := ⟨_, rfl⟩
  rw [← hwq] at HB_8 XB_9 HT0 ⊢
  clear hwq
  have HBQ := lhid (HB_8.out)
  have HTQ := lhid (HT0.out)
  have HXQ := lhid (XB_9.out)
  clear HB_8 XB_9 HT0
  have HB0 := lhid (Below.refl wq.heap.size wq)
  go_upto_region 6 with (fail)
  have hb := below_alloc (Below.refl wq.heap.size wq) (.cells #[.slice none 0 0, .slice none 0 0, .slice none 0 0, .slice none 0 0] 65)
  have hn := blk_new wq (.cells #[.slice none 0 0, .slice none 0 0, .slice none 0 0, .slice none 0 0] 65)
  have HZ11 := lhid (show (World.alloc wq (.cells #[.slice none 0 0, .slice none 0 0, .slice none 0 0, .slice none 0 0] 65)).heap.size = wq.heap.size + 1 from by simp)
  generalize hq : World.alloc wq (.cells #[.slice none 0 0, .slice none 0 0, .slice none 0 0, .slice none 0 0] 65) = w11 at hb hn HZ11 ⊢
  clear hq
  have HB_16 := lhid (below_then HB0.out HB0.out.size hb)
  clear HB0 hb
  obtain ⟨sb, hsb⟩ : ∃ q, q = wq.heap.size := ⟨_, rfl⟩
  rw [← hsb] at hn ⊢
  have HSB := lhid hsb
  have HV := lhid (show w11.heap[sb]? = some (.cells (VC (fun _ => .slice none 0 0)) 65) from hn)
  clear hn hsb
  have HFM := lhid (Fam.nil w11 wq.heap.size 5)
  go_upto_region 7 with (fail)
  go_loopw [15] (fun i wr => ∃ n : Nat, n ≤ l.length ∧ i = .int .i64 n ∧ ∃ V : Nat → Value, Hid (V 4 = .slice none 0 0) ∧ Hid (Fam wr wq.heap.size 5 V (seaB lots l n)) ∧ Hid (wr.heap[sb]? = some (.cells (VC V) 65)) ∧ Hid (Below wq.heap.size wq wr)) (fun i _ => l.length - (intOf i).toNat)
  case atStart => exact ⟨0, Nat.zero_le _, rfl, _, lhid rfl, HFM, HV, HB_16⟩
  case round =>
    obtain ⟨n, hn, rfl, V, HV4, FMr, Vr, HBr⟩ := hrel
    clear HB_16 HV HFM
    by_cases hlt : n < l.length
    · have hlt2 : (n : Int) < (l.length : Int) := by omega
      have hn0 : (0 : Int) ≤ (n : Int) := by omega
      obtain ⟨r, hr⟩ : ∃ r : Nat, r = n % 4 := ⟨_, rfl⟩
      have hrem : ((n : Int)).tmod 4 = (r : Int) := by rw [Int.tmod_eq_emod_of_nonneg hn0]; omega
      have hr4 : r < 4 := by omega
      have hri : (r : Int) < 4 := by omega
      have hr0 : (0 : Int) ≤ (r : Int) := by omega
      have HR := lhid hr
      clear hr
      obtain ⟨ad, eA, x0, x1, x2⟩ := at_T50 (Kd.C_below HCL.out (below_then HBQ.out HBQ.out.size HBr.out)) (n : Int) hn0 hlt2
      subst eA
      obtain ⟨o, ho⟩ : ∃ o, o = rd_T50 l (n : Int) := ⟨_, rfl⟩
      rw [← ho] at x0 x1 x2
      simp only [Int.toNat_natCast] at x0 x1 x2
      have HY := lhid (show (⟨(r : Int), o.f1, o.f2⟩ : S50) = ofB l n by rw [ho, rd_getD l hlt, HR.out]; rfl)
      clear ho
      go_upto_region 12 with (fail)
      try any_goals (exfalso; omega)
      have HOWN := lhid (show ∀ j, j < 5 → ∀ k, (V j).ownBlock = some k → k < wr.heap.size from fun j hj k e => own_lt (FMr.out.row j hj) k e)
      have HSO := lhid (blk_lt Vr.out)
      have hb := below_alloc (Below.refl wr.heap.size wr) (.cells #[.int .i64 (r : Int), .int .i64 o.f1, .int .i64 o.f2] 50)
      have hn := blk_new wr (.cells #[.int .i64 (r : Int), .int .i64 o.f1, .int .i64 o.f2] 50)
      have HZ21 := lhid (show (World.alloc wr (.cells #[.int .i64 (r : Int), .int .i64 o.f1, .int .i64 o.f2] 50)).heap.size = wr.heap.size + 1 from by simp)
      generalize hq : World.alloc wr (.cells #[.int .i64 (r : Int), .int .i64 o.f1, .int .i64 o.f2] 50) = w21 at hb hn HZ21 ⊢
      clear hq
      have FM_17 := lhid (FMr.out.next hb)
      have V_18 := lhid (blk_below Vr.out hb)
      have HB_19 := lhid (below_then HBr.out HBr.out.size hb)
      clear FMr Vr HBr hb
      clear x0 x1 x2
      obtain ⟨ob, hob⟩ : ∃ z, z = wr.heap.size := ⟨_, rfl⟩
      have HOBS := lhid (show ob ≤ w21.heap.size by have h1 := blk_lt hn; rw [hob]; omega)
      rw [← hob] at hn HOWN HSO ⊢
      have HOB := lhid hn
      clear hn hob
      have hG := Good_good lots (⟨(r : Int), o.f1, o.f2⟩ : S50) HLO.out.1 HLO.out.2
      obtain ⟨g, hg⟩ : ∃ z, z = good lots (⟨(r : Int), o.f1, o.f2⟩ : S50) := ⟨_, rfl⟩
      rw [← hg] at hG
      obtain ⟨o0, o1, o2⟩ := three HOB.out
      have HGG := lhid (show g = good lots (ofB l n) by rw [← HY.out]; exact hg)
      clear hg
      go_wp2_with fail
      try any_goals (exfalso; omega)
      with_reducible refine (kimberliteref05_Good.calls lots (r : Int) o.f1 o.f2 g w21 hG).mono ?_
      rintro e w30 ⟨rfl, hb⟩
      clear hG o0 o1 o2
      have FM_20 := lhid (FM_17.out.next hb)
      have V_21 := lhid (blk_below V_18.out hb)
      have HB_22 := lhid (below_then HB_19.out HB_19.out.size hb)
      have OB_23 := lhid (blk_below HOB.out hb)
      clear FM_17 V_18 HB_19 HOB hb
      cases g
      · go_wp2_with fail
        try any_goals (exfalso; omega)
        go_roundw
        case rel => exact ⟨n + 1, by omega, by simp, V, HV4, lhid (by rw [sea_no HGG.out.symm]; exact FM_20.out), V_21, HB_22⟩
        case measure => simp [intOf]; omega
      · obtain ⟨L, hL⟩ : ∃ z, z = seaB lots l n := ⟨_, rfl⟩
        rw [← hL] at FM_20
        have HLs := lhid (show seaB lots l (n + 1) = upd L r (L r ++ [(⟨(r : Int), o.f1, o.f2⟩ : S50)]) by rw [sea_yes HGG.out.symm, ← hL, ← HR.out, HY.out])
        have hlen := lhid (show (L r).length ≤ 8 by have h1 := sea_len lots l n r hr4; have h2 := H8.out; rw [hL]; omega)
        clear hL
        go_upto_region 13 with (fail)
        try any_goals (exfalso; omega)
        obtain ⟨Aq, cq, hvq⟩ := FM_20.out.sl (j := r) (by omega)
        have HVQ := lhid hvq
        have hb := below_drew1 (Below.refl w30.heap.size w30)
        have FM_24 := lhid (FM_20.out.next hb)
        have V_25 := lhid (blk_below V_21.out hb)
        have HB_26 := lhid (below_then HB_22.out HB_22.out.size hb)
        have OB_27 := lhid (blk_below OB_23.out hb)
        clear FM_20 V_21 HB_22 OB_23 hb
        refine start_ (n := 9) (S := fun w' => w'.cell? ⟨sb, r, none⟩ = some (.slice Aq (L r).length cq) ∧ w'.cell? ⟨ob, 0, none⟩ = some (.int .i64 (r : Int)) ∧ w'.cell? ⟨ob, 1, none⟩ = some (.int .i64 o.f1) ∧ w'.cell? ⟨ob, 2, none⟩ = some (.int .i64 o.f2)) (ds := [6, 8]) (lsb 9 0) (by kernel_rfl) rfl (by kernel_rfl) ⟨(by rw [← HVQ.out]; exact (blk_cell V_25.out r).trans (VC_get V r hr4)), (three OB_27.out).1, (three OB_27.out).2.1, (three OB_27.out).2.2⟩ (fun hHeld => ?_)
        generalize w30.drew = w31 at FM_24 V_25 HB_26 OB_27 hHeld ⊢
        have HRD := lhid (show Kd.R k50 50 w31 wq.heap.size _ (.slice Aq (L r).length cq) (L r) by have h1 := FM_24.out.row r (by omega); rwa [HVQ.out] at h1)
        refine pure_ (i := 0) (N := some 85) (v := ?_) (a' := ?_) (lsb 9 1) rfl rfl (by as_aux_lemma => kernel_rfl) (fun _ _ _ h => h) (Or.inl ⟨by rfl, ?_⟩) ?_ ?_; rotate_left; (intro w'; go_simp; with_reducible rfl); rotate_left; (simp only [Act.put, List.setIfInBounds_toArray, List.set_cons_zero, List.set_cons_succ, i64_w, i32_w]; rfl)
        refine pure_ (i := 1) (N := some 86) (v := ?_) (a' := ?_) (lsb 9 3) rfl rfl (by as_aux_lemma => kernel_rfl) (fun _ _ _ h => h) (Or.inl ⟨by rfl, ?_⟩) ?_ ?_; rotate_left; (intro w'; go_simp; with_reducible rfl); rotate_left; (simp only [Act.put, List.setIfInBounds_toArray, List.set_cons_zero, List.set_cons_succ, i64_w, i32_w]; rfl)
        refine pure_ (i := 2) (N := some 87) (v := ?_) (a' := ?_) (lsb 9 7) rfl rfl (by as_aux_lemma => kernel_rfl) (fun _ _ _ h => h) (Or.inl ⟨by rfl, ?_⟩) ?_ ?_; rotate_left; (intro w'; go_simp; with_reducible rfl); rotate_left; (simp only [Act.put, List.setIfInBounds_toArray, List.set_cons_zero, List.set_cons_succ, i64_w, i32_w]; rfl)
        refine take_ (i := 3) (N := some 88) (v := ?_) (a' := ?_) (lsb 9 15) rfl rfl (by as_aux_lemma => kernel_rfl) (fun _ _ _ h => h) (Or.inl ⟨by rfl, ?_⟩) hHeld ?_ ?_; rotate_left; (rintro w' ⟨s0, s1, s2, s3⟩; go_simp; with_reducible rfl); rotate_left; (simp only [Act.put, List.setIfInBounds_toArray, List.set_cons_zero, List.set_cons_succ, i64_w, i32_w]; rfl)
        refine take_ (i := 4) (N := some 89) (v := ?_) (a' := ?_) (lsb 9 31) rfl rfl (by as_aux_lemma => kernel_rfl) (fun _ _ _ h => h) (Or.inl ⟨by rfl, ?_⟩) hHeld ?_ ?_; rotate_left; (rintro w' ⟨s0, s1, s2, s3⟩; go_simp; with_reducible rfl); rotate_left; (simp only [Act.put, List.setIfInBounds_toArray, List.set_cons_zero, List.set_cons_succ, i64_w, i32_w]; rfl)
        refine one_ (i := 5) (N := some 90) (lsb 9 63) rfl rfl (by kernel_rfl) (by decide) (fun K hK => ?_)
        refine value_ (w1 := ?_) (v := ?_) (by rfl) rfl ?_ ?_
        rotate_left 2
        · go_simp
          constructor
          · rfl
          · rfl
        refine hK.out _ _ ⟨(pw_cell_below (below_alloc (Below.refl _ _) _) (by rw [← HVQ.out]; exact (blk_cell V_25.out r).trans (VC_get V r hr4))), (pw_cell_below (below_alloc (Below.refl _ _) _) (three OB_27.out).1), (pw_cell_below (below_alloc (Below.refl _ _) _) (three OB_27.out).2.1), (pw_cell_below (below_alloc (Below.refl _ _) _) (three OB_27.out).2.2)⟩ (fun hHeld => ?_)
        clear hK K
        refine norm_ (a' := ?_) ?_ ?_
        rotate_left
        · show Act.put _ (some 90) _ = _
          simp only [Act.put, List.setIfInBounds_toArray, List.set_cons_zero, List.set_cons_succ, i64_w, i32_w]
          rfl
        refine last_ (i := 6) (N := some 91) (lsb 9 127) rfl rfl (by kernel_rfl) (by decide) (fun K hK => ?_)
        refine Kd.R_append_step k50 (w0 := wq) wq.heap.size (by rfl) (.tmp 88) (.tmp 90) 22 50 (.agg #[(.int .i64 0), (.int .i64 0), (.int .i64 0)]) 24 rfl Try.underlying22 info50 rfl (by decide) (by omega) (.slice Aq (L r).length cq) (L r) (⟨(r : Int), o.f1, o.f2⟩ : S50) [.int .i64 (r : Int), .int .i64 o.f1, .int .i64 o.f2] (fun k => ∀ i, i < 5 → i ≠ r → some k ≠ (V i).ownBlock) (fun _ => False) rfl rfl ?aP (fun _ hk => hk.elim) ?aF ?aO ?aB ?aS ?aL ?_
        (case aP => exact k50_mkM _ _ _ (⟨(r : Int), o.f1, o.f2⟩ : S50))
        (case aF => exact fun k hk i hi hne e => by have h1 := HOWN.out i hi k e.symm; have h2 := blk_lt OB_27.out; (try simp at hk); omega)
        (case aO => exact HRD.out)
        (case aB => exact HB_26.out)
        (case aS => exact HB_26.out.size)
        (case aL => have := hlen.out; omega)
        intro v4 w4 ho4 hb4 hg4 hat4
        obtain ⟨A4, c4, hv4⟩ := Kd.R_slice ho4
        rw [show (L r ++ [(⟨(r : Int), o.f1, o.f2⟩ : S50)]).length = (L r).length + 1 by simp] at hv4
        subst hv4
        have FM4 := lhid (Fam.grow FM_24.out (j := r) (by omega) ho4 (by rw [HVQ.out]; exact hg4) (by rw [HVQ.out]; exact hat4))
        have V4 := lhid (blk_grown V_25.out hg4 (Kd.R_ne HRD.out V_25.out (by decide)))
        have HB4 := lhid hb4
        clear ho4 hb4 hg4 hat4
        refine hK.out _ _ ?_
        clear hK K
        refine norm_ (a' := ?_) ?_ ?_
        rotate_left
        · show Act.put _ (some 91) _ = _
          simp only [Act.put, List.setIfInBounds_toArray, List.set_cons_zero, List.set_cons_succ, i64_w, i32_w]
          rfl
        refine pure_ (i := 7) (N := some 92) (v := ?_) (a' := ?_) (lsb 9 255) rfl rfl (by as_aux_lemma => kernel_rfl) (fun _ _ _ h => h) (Or.inl ⟨by rfl, ?_⟩) ?_ ?_; rotate_left; (intro w'; go_simp; with_reducible rfl); rotate_left; (simp only [Act.put, List.setIfInBounds_toArray, List.set_cons_zero, List.set_cons_succ, i64_w, i32_w]; rfl)
        refine last_ (i := 8) (N := none) (lsb 9 511) rfl rfl (by kernel_rfl) (by decide) (fun K hK => ?_)
        have hk2 := (blk_cell V4.out r).trans (VC_get V r hr4)
        have hf2 := blk_frozen V4.out r
        refine skip_ (w1 := ?_) (by rfl) rfl ?_ ?_
        rotate_left
        · go_simp
          rfl
        clear hk2 hf2
        refine hK.out _ _ ?_
        clear hK K
        refine done_ (by kernel_rfl) ?_
        
        have V6 := lhid (show (w4.setCell ⟨sb, r, none⟩ (.slice A4 ((L r).length + 1) c4)).heap[sb]? = some (.cells (VC (upd V r (.slice A4 ((L r).length + 1) c4))) 65) from blk_put V4.out r _ (VC_set V r hr4 _))
        have FM6 := lhid (Fam.put FM4.out V4.out (by decide) r (.slice A4 ((L r).length + 1) c4))
        have HB6 := lhid (HB4.out.setCell (p := ⟨sb, r, none⟩) (by have h1 := HSB.out; show wq.heap.size ≤ sb; omega) (.slice A4 ((L r).length + 1) c4))
        generalize World.setCell w4 ⟨sb, r, none⟩ (.slice A4 ((L r).length + 1) c4) = w6 at V6 FM6 HB6 ⊢
        go_wp2_with fail
        try any_goals (exfalso; omega)
        go_roundw
        case rel => exact ⟨n + 1, by omega, by simp, upd V r (.slice A4 ((L r).length + 1) c4), lhid ((upd_ne V _ (by omega)).trans HV4.out), lhid (by rw [HLs.out]; exact FM6.out), V6, HB6⟩
        case measure => simp [intOf]; omega
    have hne : n = l.length := by omega
    subst hne
    clear hn hlt
    obtain ⟨R, hR⟩ : ∃ z, z = seaB lots l l.length := ⟨_, rfl⟩
    rw [← hR] at FMr
    have HR2 := lhid (show ∀ k, k < 4 → (R k).length ≤ 2 by rw [hR]; exact fun k hk => by have h1 := sea_len lots l l.length k hk; have h2 := H8.out; omega)
    have HRA := lhid (show ∀ k : Nat, (R k).any (badO lots (k : Int)) = false by rw [hR]; exact fun k => sea_any lots l l.length k)
    have HRG := lhid (show ∀ k, k < 4 → ∀ o ∈ R k, good lots o = true by rw [hR]; exact fun k _ o ho => (sea_mem lots l l.length k o ho).1)
    have HR4 := lhid (show R 4 = [] by rw [hR]; exact sea_4 lots l l.length)
    clear hR
    obtain ⟨sal, hsal⟩ : ∃ z : Nat → Int, z = fun k => SL.getD k 0 := ⟨_, rfl⟩
    have HSAL := lhid (show ∀ k, sal k = SL.getD k 0 by rw [hsal]; exact fun _ => rfl)
    have HSA0 := lhid (show ∀ k, k < 4 → 0 ≤ sal k ∧ sal k < 18446744073709551616 from fun k hk => by rw [HSAL.out, List.getD_eq_getElem?_getD, List.getElem?_eq_getElem (by rw [HSL.out]; exact hk)]; exact HSR.out _ (List.getElem_mem _))
    clear hsal
    obtain ⟨r1, hr1⟩ : ∃ z : Nat, z = od % 4 := ⟨_, rfl⟩
    have HR1 := lhid hr1
    clear hr1
    have hcv : wrap64 (od : Int) = (od : Int) := by have h1 := HOD.out; unfold wrap64; omega
    have HTS := lhid (show t < wq.heap.size ∧ w.heap.size ≤ t ∧ sb = wq.heap.size ∧ xb < wq.heap.size ∧ xb ≠ t from ⟨HTQ.out.lt, by have h1 := HTT.out; omega, HSB.out, blk_lt HXQ.out, by have h1 := HTT.out; have h2 := HXB.out; omega⟩)
    have HBW := lhid (below_then HBQ.out HBQ.out.size HBr.out)
    have HTr := lhid (show TN t (fun _ => False) wr t lots 0 (mkH (fN R sal r1 0)) from HTQ.out.next HBr.out)
    have XBr := lhid (blk_below HXQ.out HBr.out)
    have FMs := lhid (show Fam wr wq.heap.size 5 V (upd R 4 (allB R 0)) by rw [upd_same (show R 4 = allB R 0 from HR4.out)]; exact FMr.out)
    clear FMr HBr HTQ HBQ HXQ
    go_upto_region 15 with (fail)
    try any_goals (exfalso; omega)
    go_loopw [13, 18] (fun v i wr => ∃ b : Nat, b ≤ 4 ∧ i = .int .i64 b ∧ ∃ V : Nat → Value, v = V 4 ∧ Hid (TN t (fun _ => False) wr t lots 0 (mkH (fN R sal r1 b))) ∧ Hid (Fam wr wq.heap.size 5 V (upd R 4 (allB R b))) ∧ Hid (wr.heap[sb]? = some (.cells (VC V) 65)) ∧ Hid (wr.heap[xb]? = some (.cells (SL.map (Value.int .u64)).toArray 61)) ∧ Hid (Below w.heap.size w wr)) (fun _ i _ => 4 - (intOf i).toNat)
    case atStart => exact ⟨0, by omega, rfl, V, HV4.out.symm, HTr, FMs, Vr, XBr, HBW⟩
    case round =>
      clear HV4 HBW HTr FMs Vr XBr
      clear V
      obtain ⟨b, hb4, rfl, V, rfl, HTr, FMr, Vr, XBr, HBr⟩ := hrel
      by_cases hlt : b < 4
      · have hlt2 : (b : Int) < 4 := by omega
        have hb0 : (0 : Int) ≤ (b : Int) := by omega
        obtain ⟨A4, c4, h44⟩ := FMr.out.sl (j := 4) (by omega)
        rw [upd_at] at h44
        have H44 := lhid h44
        obtain ⟨Ab, cb, hvb⟩ := FMr.out.sl (j := b) (by omega)
        rw [upd_ne _ _ (by omega)] at hvb
        have hcb := (blk_cell Vr.out b).trans (VC_get V b hlt)
        rw [hvb] at hcb
        have HCX := lhid (FMr.out.cc (j := b) (by omega) (upd_ne _ _ (by omega)) hvb).1
        have HRD := lhid (show Kd.R k50 50 wr wq.heap.size _ (.slice A4 (allB R b).length c4) (allB R b) by have h1 := FMr.out.row 4 (by omega); rw [upd_at] at h1; rwa [h44] at h1)
        have hal := allB_len HR2.out b hb4
        have hbl := HR2.out b hlt
        rw [h44]
        clear h44 hvb
        go_upto_region 18 with (first | ((with_reducible refine gate_builtin (b := .append) (xs := #[.tmp 97, .tmp 100]) rfl ?_); at_builtin; refine Kd.R_append_rows k50 (w0 := wr) wq.heap.size rfl (.tmp 97) (.tmp 100) 22 50 (.agg #[(.int .i64 0), (.int .i64 0), (.int .i64 0)]) 24 rfl Try.underlying22 info50 rfl (by decide) (by omega) (.slice A4 (allB R b).length c4) (allB R b) (R b) Ab (R b).length cb (fun k => ∀ i, i < 5 → i ≠ 4 → some k ≠ (V i).ownBlock) (fun _ => False) rfl rfl ?aO HCX.out (fun x cs h => by obtain rfl := k50_open h; exact k50_mkM _ _ _ x) (fun _ h => h.elim) ?aF ?aB ?aS ?aL ?_; (case aB => exact Below.refl _ _); (case aF => exact fun k hk i hi hne e => by have h1 := own_lt (FMr.out.row i hi) k e.symm; omega); (case aO => exact HRD.out); (case aS => have h1 := HTS.out; have h2 := blk_lt Vr.out; omega); (case aL => omega); intro v2 w2 ho2 hb2 hg2 hat2; have HO9 := lhid ho2; have HB9 := lhid hb2; have HG9 := lhid hg2; have HA9 := lhid hat2; clear ho2 hb2 hg2 hat2))
        try any_goals (exfalso; omega)
        have FMa1 := lhid (Fam.grow FMr.out (j := 4) (by omega) HO9.out (by rw [H44.out]; exact HG9.out) (by rw [H44.out]; exact HA9.out))
        rw [upd_upd] at FMa1
        have Va1 := lhid (show w2.heap[sb]? = some (.cells (VC (upd V 4 v2)) 65) from blk_grown Vr.out HG9.out (Kd.R_ne HRD.out Vr.out (by decide)))
        have XBa1 := lhid ((chg_up HB9.out).blk XBr.out (by have h1 := HTS.out; omega))
        have HTa1 := lhid (HTr.out.far (chg_up HB9.out) (by have h1 := HTS.out; omega) (fun _ q => q.elim))
        have HBa1 := lhid (HBr.out.trans (below_lo HB9.out (by have h1 := HTS.out; omega)))
        clear hcb HCX HRD HO9 HB9 HG9 HA9 hal hbl H44 HBr HTr FMr Vr XBr
        obtain ⟨V1, hV1⟩ : ∃ z, z = upd V 4 v2 := ⟨_, rfl⟩
        rw [← hV1] at FMa1 Va1
        have hv4 : V1 4 = v2 := by rw [hV1]; exact upd_at _ _ _
        rw [← hv4]
        clear hv4 hV1
        have hal : allB R b ++ R b = allB R (b + 1) := rfl
        rw [hal] at FMa1
        clear hal
        obtain ⟨V, rfl⟩ : ∃ z, z = V1 := ⟨_, rfl⟩
        obtain ⟨k, hk⟩ : ∃ z : Nat, z = (b + r1) % 4 := ⟨_, rfl⟩
        have hk4 : k < 4 := by omega
        have hki : (k : Int) < 4 := by omega
        have hk0 : (0 : Int) ≤ (k : Int) := by omega
        obtain ⟨zs, hzs⟩ : ∃ z : Int, z = (b : Int) + (od : Int) := ⟨_, rfl⟩
        have hws := wrap_k hzs hlt HOD.out
        have hrem := rem_k hzs HR1.out hk
        have HK := lhid hk
        clear hk hzs
        go_upto_region 19 with (fail)
        try any_goals (exfalso; omega)
        clear hws hrem
        obtain ⟨Ab, cb, hvb⟩ := FMa1.out.sl (j := k) (by omega)
        rw [upd_ne _ _ (by omega)] at hvb
        have HVB := lhid hvb
        clear hvb
        obtain ⟨s, hs⟩ : ∃ z, z = sal k := ⟨_, rfl⟩
        have HS := lhid hs
        clear hs
        have HS0 := lhid (show 0 ≤ s ∧ s < 18446744073709551616 by rw [HS.out]; exact HSA0.out k hk4)
        have hb := below_drew1 (Below.refl w2.heap.size w2)
        have HB_28 := lhid (below_then HBa1.out HBa1.out.size hb)
        have HT_29 := lhid (HTa1.out.next hb)
        have FM_30 := lhid (FMa1.out.next hb)
        have V_31 := lhid (blk_below Va1.out hb)
        have XB_32 := lhid (blk_below XBa1.out hb)
        clear HBa1 HTa1 FMa1 Va1 XBa1 hb
        refine start_ (n := 11) (S := fun w' => w'.cell? ⟨sb, k, none⟩ = some (.slice Ab (R k).length cb) ∧ w'.cell? ⟨xb, k, none⟩ = some (.int .u64 s)) (ds := []) (lsb 11 0) (by kernel_rfl) rfl (by kernel_rfl) ⟨(by rw [← HVB.out]; exact (blk_cell V_31.out k).trans (VC_get V k hk4)), (sc_get XB_32.out HSL.out hk4 (by rw [HS.out, HSAL.out]))⟩ (fun hHeld => ?_)
        generalize w2.drew = w131 at HB_28 HT_29 FM_30 V_31 XB_32 hHeld ⊢
        refine pure_ (i := 0) (N := some 107) (v := ?_) (a' := ?_) (lsb 11 1) rfl rfl (by as_aux_lemma => kernel_rfl) (fun _ _ _ h => h) (Or.inl ⟨by rfl, ?_⟩) ?_ ?_; rotate_left; (intro w'; go_simp; with_reducible rfl); rotate_left; (simp only [Act.put, List.setIfInBounds_toArray, List.set_cons_zero, List.set_cons_succ, i64_w, i32_w]; rfl)
        refine pure_ (i := 1) (N := some 108) (v := ?_) (a' := ?_) (lsb 11 3) rfl rfl (by as_aux_lemma => kernel_rfl) (fun _ _ _ h => h) (Or.inl ⟨by rfl, ?_⟩) ?_ ?_; rotate_left; (intro w'; go_simp; with_reducible rfl); rotate_left; (simp only [Act.put, List.setIfInBounds_toArray, List.set_cons_zero, List.set_cons_succ, i64_w, i32_w]; rfl)
        refine pure_ (i := 2) (N := some 109) (v := ?_) (a' := ?_) (lsb 11 7) rfl rfl (by as_aux_lemma => kernel_rfl) (fun _ _ _ h => h) (Or.inl ⟨by rfl, ?_⟩) ?_ ?_; rotate_left; (intro w'; go_simp; with_reducible rfl); rotate_left; (simp only [Act.put, List.setIfInBounds_toArray, List.set_cons_zero, List.set_cons_succ, i64_w, i32_w]; rfl)
        refine pure_ (i := 3) (N := some 110) (v := ?_) (a' := ?_) (lsb 11 15) rfl rfl (by as_aux_lemma => kernel_rfl) (fun _ _ _ h => h) (Or.inl ⟨by rfl, ?_⟩) ?_ ?_; rotate_left; (intro w'; go_simp; with_reducible rfl); rotate_left; (simp only [Act.put, List.setIfInBounds_toArray, List.set_cons_zero, List.set_cons_succ, i64_w, i32_w]; rfl)
        refine pure_ (i := 5) (N := some 112) (v := ?_) (a' := ?_) (lsb 11 47) rfl rfl (by as_aux_lemma => kernel_rfl) (fun _ _ _ h => h) (Or.inl ⟨by rfl, ?_⟩) ?_ ?_; rotate_left; (intro w'; go_simp; with_reducible rfl); rotate_left; (simp only [Act.put, List.setIfInBounds_toArray, List.set_cons_zero, List.set_cons_succ, i64_w, i32_w]; rfl)
        refine pure_ (i := 6) (N := some 113) (v := ?_) (a' := ?_) (lsb 11 111) rfl rfl (by as_aux_lemma => kernel_rfl) (fun _ _ _ h => h) (Or.inl ⟨by rfl, ?_⟩) ?_ ?_; rotate_left; (intro w'; go_simp; with_reducible rfl); rotate_left; (simp only [Act.put, List.setIfInBounds_toArray, List.set_cons_zero, List.set_cons_succ, i64_w, i32_w]; rfl)
        refine take_ (i := 4) (N := some 111) (v := ?_) (a' := ?_) (lsb 11 127) rfl rfl (by as_aux_lemma => kernel_rfl) (fun _ _ _ h => h) (Or.inl ⟨by rfl, ?_⟩) hHeld ?_ ?_; rotate_left; (rintro w' ⟨s0, s1⟩; go_simp; with_reducible rfl); rotate_left; (simp only [Act.put, List.setIfInBounds_toArray, List.set_cons_zero, List.set_cons_succ, i64_w, i32_w]; rfl)
        refine take_ (i := 7) (N := some 114) (v := ?_) (a' := ?_) (lsb 11 255) rfl rfl (by as_aux_lemma => kernel_rfl) (fun _ _ _ h => h) (Or.inl ⟨by rfl, ?_⟩) hHeld ?_ ?_; rotate_left; (rintro w' ⟨s0, s1⟩; go_simp; with_reducible rfl); rotate_left; (simp only [Act.put, List.setIfInBounds_toArray, List.set_cons_zero, List.set_cons_succ, i64_w, i32_w]; rfl)
        refine one_ (i := 8) (N := some 115) (lsb 11 511) rfl rfl (by kernel_rfl) (by decide) (fun K hK => ?_)
        refine goes_ Try.func23 (by kernel_rfl) rfl #[.slice Ab (R k).length cb, .int .u64 s] (by rfl) rfl rfl (by (try simp only [List.map_toArray, List.map_cons, List.map_nil]); first | done | rfl) ?_
        with_reducible refine (tender_Seal.calls Ab cb (R k) s (sealAll (R k) s) w131 (FM_30.out.cc (j := k) (by omega) (upd_ne _ _ (by omega)) HVB.out).1 (FM_30.out.cc (j := k) (by omega) (upd_ne _ _ (by omega)) HVB.out).2 (by unfold tender_Seal.f; rw [if_pos HS0.out])).mono ?_
        rintro e w132 ⟨rfl, hb⟩
        refine ⟨_, rfl, ?_⟩
        have HB_33 := lhid (below_then HB_28.out HB_28.out.size hb)
        have HT_34 := lhid (HT_29.out.next hb)
        have FM_35 := lhid (FM_30.out.next hb)
        have V_36 := lhid (blk_below V_31.out hb)
        have XB_37 := lhid (blk_below XB_32.out hb)
        clear HB_28 HT_29 FM_30 V_31 XB_32 hb
        refine hK.out _ _ ⟨(by rw [← HVB.out]; exact (blk_cell V_36.out k).trans (VC_get V k hk4)), (sc_get XB_37.out HSL.out hk4 (by rw [HS.out, HSAL.out]))⟩ (fun hHeld => ?_)
        clear hK K
        refine norm_ (a' := ?_) ?_ ?_
        rotate_left
        · show Act.put _ (some 115) _ = _
          simp only [Act.put, List.setIfInBounds_toArray, List.set_cons_zero, List.set_cons_succ, i64_w, i32_w]
          rfl
        refine one_ (i := 9) (N := some 116) (lsb 11 1023) rfl rfl (by kernel_rfl) (by decide) (fun K hK => ?_)
        refine goes_ Try.func35 (by kernel_rfl) rfl #[.pointer (some ⟨t, 0, none⟩), .int .i64 (k : Int), .int .u64 (sealAll (R k) s)] (by rfl) rfl rfl (by (try simp only [List.map_toArray, List.map_cons, List.map_nil]); first | done | rfl) ?_
        with_reducible refine (sub_c HK.out HS.out HLO.out.1 HT_34.out).mono ?_
        rintro e w133 ⟨rfl, ht, hch⟩
        refine ⟨_, rfl, ?_⟩
        have HBc1 := lhid (HB_33.out.trans (hch.below HB_33.out.size (fun k q => by rw [q]; exact HTS.out.2.1)))
        have FMc1 := lhid (FM_35.out.far hch (fun k h1 h2 q => by have h3 := HTS.out; have h4 : k = t := q; omega))
        have Vc1 := lhid (hch.blk V_36.out (fun q => by have h3 := HTS.out; have h4 : sb = t := q; omega))
        have XBc1 := lhid (hch.blk XB_37.out (fun q => HTS.out.2.2.2.2 q))
        have HTc1 := lhid (ht)
        clear hch HB_33 HT_34 FM_35 V_36 XB_37
        clear ht
        refine hK.out _ _ ⟨(by rw [← HVB.out]; exact (blk_cell Vc1.out k).trans (VC_get V k hk4)), (sc_get XBc1.out HSL.out hk4 (by rw [HS.out, HSAL.out]))⟩ (fun hHeld => ?_)
        clear hK K
        refine norm_ (a' := ?_) ?_ ?_
        rotate_left
        · show Act.put _ (some 116) _ = _
          simp only [Act.put, List.setIfInBounds_toArray, List.set_cons_zero, List.set_cons_succ, i64_w, i32_w]
          rfl
        refine pure_ (i := 10) (N := some 117) (v := ?_) (a' := ?_) (lsb 11 2047) rfl rfl (by as_aux_lemma => kernel_rfl) (fun _ _ _ h => h) (Or.inl ⟨by rfl, ?_⟩) ?_ ?_; rotate_left; (intro w'; go_simp; with_reducible rfl); rotate_left; (simp only [Act.put, List.setIfInBounds_toArray, List.set_cons_zero, List.set_cons_succ, i64_w, i32_w]; rfl)
        refine done_ (by kernel_rfl) ?_
        
        go_wp2_with fail
        try any_goals (exfalso; omega)
        go_roundw
        case rel => first | exact ⟨b + 1, by omega, by simp, V, rfl, HTc1, FMc1, Vc1, XBc1, HBc1⟩ | ((repeat apply Exists.intro); refine ⟨?_, rfl⟩; exact ⟨b + 1, by omega, by simp, V, rfl, HTc1, FMc1, Vc1, XBc1, HBc1⟩)
        case measure => simp [intOf]; omega
      have hbe : b = 4 := by omega
      subst hbe
      clear hlt hb4
      go_wp2_with fail
      try any_goals (exfalso; omega)
      with_reducible refine (shut_c HLO.out.1 HTr.out).mono ?_
      rintro e w150 ⟨rfl, ht, hch⟩
      rw [fN_end (show r1 < 4 by have h1 := HR1.out; omega)] at ht
      have HBc2 := lhid (HBr.out.trans (hch.below HBr.out.size (fun k q => by rw [q]; exact HTS.out.2.1)))
      have FMc2 := lhid (FMr.out.far hch (fun k h1 h2 q => by have h3 := HTS.out; have h4 : k = t := q; omega))
      have Vc2 := lhid (hch.blk Vr.out (fun q => by have h3 := HTS.out; have h4 : sb = t := q; omega))
      have XBc2 := lhid (hch.blk XBr.out (fun q => HTS.out.2.2.2.2 q))
      have HTc2 := lhid (ht)
      clear hch HBr HTr FMr Vr XBr
      clear ht
      obtain ⟨r2, hr2⟩ : ∃ z : Nat, z = od / 4 % 4 := ⟨_, rfl⟩
      have HR5 := lhid (show r2 < 4 by omega)
      obtain ⟨q4, hq4⟩ : ∃ z : Nat, z = od / 4 := ⟨_, rfl⟩
      have HQ4 := lhid (show r2 = q4 % 4 ∧ q4 < 64 by have h1 := HOD.out; omega)
      have hdv2 : (od : Int) / 4 = (q4 : Int) := by omega
      have hwq : wrap64 (q4 : Int) = (q4 : Int) := by have h1 := HQ4.out; unfold wrap64; omega
      clear hr2 hq4
      obtain ⟨A4, c4, h44⟩ := FMc2.out.sl (j := 4) (by omega)
      rw [upd_at] at h44
      have H44 := lhid h44
      rw [h44]
      clear h44
      go_upto_region 24 with (fail)
      try any_goals (exfalso; omega)
      go_loopw [20] (fun i wr => ∃ b : Nat, b ≤ 4 ∧ i = .int .i64 b ∧ ∃ (F : Nat → Prop) (vs : Nat → Value), Hid (∀ k, F k → k < wr.heap.size) ∧ Hid (TN t F wr t lots 1 (mkH (gN R sal r2 vs b))) ∧ Hid (Fam wr wq.heap.size 5 V (upd R 4 (allB R 4))) ∧ Hid (wr.heap[sb]? = some (.cells (VC V) 65)) ∧ Hid (wr.heap[xb]? = some (.cells (SL.map (Value.int .u64)).toArray 61)) ∧ Hid (Below w.heap.size w wr)) (fun i _ => 4 - (intOf i).toNat)
      case atStart => exact ⟨0, by omega, rfl, fun _ => False, fun _ => .bool false, lhid (fun k q => q.elim), HTc2, FMc2, Vc2, XBc2, HBc2⟩
      case round =>
        clear HBc2 HTc2 FMc2 Vc2 XBc2
        obtain ⟨b, hb4, rfl, F, vs, HFr, HTr, FMr, Vr, XBr, HBr⟩ := hrel
        by_cases hlt : b < 4
        · have hlt2 : (b : Int) < 4 := by omega
          have hb0 : (0 : Int) ≤ (b : Int) := by omega
          obtain ⟨k, hk⟩ : ∃ z : Nat, z = (b + r2) % 4 := ⟨_, rfl⟩
          have hk4 : k < 4 := by omega
          have hki : (k : Int) < 4 := by omega
          have hk0 : (0 : Int) ≤ (k : Int) := by omega
          obtain ⟨zs, hzs⟩ : ∃ z : Int, z = (b : Int) + (q4 : Int) := ⟨_, rfl⟩
          have hws := wrap_k hzs hlt (Nat.lt_trans HQ4.out.2 (by decide))
          have hrem := rem_k hzs HQ4.out.1 hk
          have HK := lhid hk
          clear hk hzs
          go_upto_region 27 with (fail)
          try any_goals (exfalso; omega)
          clear hws hrem
          obtain ⟨Ab, cb, hvb⟩ := FMr.out.sl (j := k) (by omega)
          rw [upd_ne _ _ (by omega)] at hvb
          have HVB := lhid hvb
          clear hvb
          obtain ⟨s, hs⟩ : ∃ z, z = sal k := ⟨_, rfl⟩
          have HS := lhid hs
          clear hs
          have HS0 := lhid (show 0 ≤ s ∧ s < 18446744073709551616 by rw [HS.out]; exact HSA0.out k hk4)
          obtain ⟨ro, kk, hkk⟩ := ev_off ot (R k) (by have h1 := H4.out; omega)
          have HKK := lhid (show kimberlitelaw05_offers.f kk ot (R k) = some ro from hkk kk (Nat.le_refl _))
          clear hkk
          obtain ⟨s1, hs1⟩ : ∃ z, z = sealAll ot s := ⟨_, rfl⟩
          obtain ⟨s2, hs2⟩ : ∃ z, z = sealAll (R k) s := ⟨_, rfl⟩
          have HS1 := lhid hs1
          have HS2 := lhid hs2
          clear hs1 hs2
          cases ro
          · by_cases hse : s1 = s2
            · have hsd : (s1 != s2) = false := bne_eq_false_iff_eq.2 hse
              have hb := below_drew1 (Below.refl wr.heap.size wr)
              have HB_38 := lhid (below_then HBr.out HBr.out.size hb)
              have HT_39 := lhid (HTr.out.next hb)
              have FM_40 := lhid (FMr.out.next hb)
              have V_41 := lhid (blk_below Vr.out hb)
              have XB_42 := lhid (blk_below XBr.out hb)
              have HF_43 := lhid (fun k q => Nat.lt_of_lt_of_le (HFr.out k q) hb.size)
              clear HBr HTr FMr Vr XBr HFr hb
              refine start_ (n := 31) (S := fun w' => w'.cell? ⟨sb, k, none⟩ = some (.slice Ab (R k).length cb) ∧ w'.cell? ⟨xb, k, none⟩ = some (.int .u64 s)) (ds := []) (lsb 31 0) (by kernel_rfl) rfl (by kernel_rfl) ⟨(by rw [← HVB.out]; exact (blk_cell V_41.out k).trans (VC_get V k hk4)), (sc_get XB_42.out HSL.out hk4 (by rw [HS.out, HSAL.out]))⟩ (fun hHeld => ?_)
              generalize wr.drew = w161 at HB_38 HT_39 FM_40 V_41 XB_42 HF_43 hHeld ⊢
              refine pure_ (i := 0) (N := some 131) (v := ?_) (a' := ?_) (lsb 31 1) rfl rfl (by as_aux_lemma => kernel_rfl) (fun _ _ _ h => h) (Or.inl ⟨by rfl, ?_⟩) ?_ ?_; rotate_left; (intro w'; go_simp; with_reducible rfl); rotate_left; (simp only [Act.put, List.setIfInBounds_toArray, List.set_cons_zero, List.set_cons_succ, i64_w, i32_w]; rfl)
              refine pure_ (i := 1) (N := some 132) (v := ?_) (a' := ?_) (lsb 31 3) rfl rfl (by as_aux_lemma => kernel_rfl) (fun _ _ _ h => h) (Or.inl ⟨by rfl, ?_⟩) ?_ ?_; rotate_left; (intro w'; go_simp; with_reducible rfl); rotate_left; (simp only [Act.put, List.setIfInBounds_toArray, List.set_cons_zero, List.set_cons_succ, i64_w, i32_w]; rfl)
              refine pure_ (i := 2) (N := some 133) (v := ?_) (a' := ?_) (lsb 31 7) rfl rfl (by as_aux_lemma => kernel_rfl) (fun _ _ _ h => h) (Or.inl ⟨by rfl, ?_⟩) ?_ ?_; rotate_left; (intro w'; go_simp; with_reducible rfl); rotate_left; (simp only [Act.put, List.setIfInBounds_toArray, List.set_cons_zero, List.set_cons_succ, i64_w, i32_w]; rfl)
              refine take_ (i := 3) (N := some 134) (v := ?_) (a' := ?_) (lsb 31 15) rfl rfl (by as_aux_lemma => kernel_rfl) (fun _ _ _ h => h) (Or.inl ⟨by rfl, ?_⟩) hHeld ?_ ?_; rotate_left; (rintro w' ⟨s0, s1⟩; go_simp; with_reducible rfl); rotate_left; (simp only [Act.put, List.setIfInBounds_toArray, List.set_cons_zero, List.set_cons_succ, i64_w, i32_w]; rfl)
              refine one_ (i := 4) (N := some 135) (lsb 31 31) rfl rfl (by kernel_rfl) (by decide) (fun K hK => ?_)
              refine goes_ Try.func20 (by kernel_rfl) rfl #[.slice A3 ot.length c3, .slice Ab (R k).length cb] (by rfl) rfl rfl (by (try simp only [List.map_toArray, List.map_cons, List.map_nil]); first | done | rfl) ?_
              with_reducible refine (kimberlitelaw05_offers.calls kk A3 c3 ot Ab cb (R k) false w161 (Kd.C_below HCO.out HB_38.out) HOC.out (FM_40.out.cc (j := k) (by omega) (upd_ne _ _ (by omega)) HVB.out).1 (FM_40.out.cc (j := k) (by omega) (upd_ne _ _ (by omega)) HVB.out).2 HKK.out).mono ?_
              rintro e w162 ⟨rfl, nd, hq⟩
              refine ⟨_, rfl, ?_⟩
              have hb := pw_below_drewN (Below.refl w161.heap.size w161) nd
              rw [← hq] at hb
              clear hq
              have HB_44 := lhid (below_then HB_38.out HB_38.out.size hb)
              have HT_45 := lhid (HT_39.out.next hb)
              have FM_46 := lhid (FM_40.out.next hb)
              have V_47 := lhid (blk_below V_41.out hb)
              have XB_48 := lhid (blk_below XB_42.out hb)
              have HF_49 := lhid (fun k q => Nat.lt_of_lt_of_le (HF_43.out k q) hb.size)
              clear HB_38 HT_39 FM_40 V_41 XB_42 HF_43 hb
              refine hK.out _ _ ⟨(by rw [← HVB.out]; exact (blk_cell V_47.out k).trans (VC_get V k hk4)), (sc_get XB_48.out HSL.out hk4 (by rw [HS.out, HSAL.out]))⟩ (fun hHeld => ?_)
              clear hK K
              refine norm_ (a' := ?_) ?_ ?_
              rotate_left
              · show Act.put _ (some 135) _ = _
                simp only [Act.put, List.setIfInBounds_toArray, List.set_cons_zero, List.set_cons_succ, i64_w, i32_w]
                rfl
              refine pure_ (i := 5) (N := some 136) (v := ?_) (a' := ?_) (lsb 31 63) rfl rfl (by as_aux_lemma => kernel_rfl) (fun _ _ _ h => h) (Or.inl ⟨by rfl, ?_⟩) ?_ ?_; rotate_left; (intro w'; go_simp; with_reducible rfl); rotate_left; (simp only [Act.put, List.setIfInBounds_toArray, List.set_cons_zero, List.set_cons_succ, i64_w, i32_w]; rfl)
              refine pure_ (i := 6) (N := some 137) (v := ?_) (a' := ?_) (lsb 31 127) rfl rfl (by as_aux_lemma => kernel_rfl) (fun _ _ _ h => h) (Or.inl ⟨by rfl, ?_⟩) ?_ ?_; rotate_left; (intro w'; go_simp; with_reducible rfl); rotate_left; (simp only [Act.put, List.setIfInBounds_toArray, List.set_cons_zero, List.set_cons_succ, i64_w, i32_w]; rfl)
              refine pure_ (i := 7) (N := some 138) (v := ?_) (a' := ?_) (lsb 31 255) rfl rfl (by as_aux_lemma => kernel_rfl) (fun _ _ _ h => h) (Or.inl ⟨by rfl, ?_⟩) ?_ ?_; rotate_left; (intro w'; go_simp; with_reducible rfl); rotate_left; (simp only [Act.put, List.setIfInBounds_toArray, List.set_cons_zero, List.set_cons_succ, i64_w, i32_w]; rfl)
              refine pure_ (i := 8) (N := some 139) (v := ?_) (a' := ?_) (lsb 31 511) rfl rfl (by as_aux_lemma => kernel_rfl) (fun _ _ _ h => h) (Or.inl ⟨by rfl, ?_⟩) ?_ ?_; rotate_left; (intro w'; go_simp; with_reducible rfl); rotate_left; (simp only [Act.put, List.setIfInBounds_toArray, List.set_cons_zero, List.set_cons_succ, i64_w, i32_w]; rfl)
              refine pure_ (i := 9) (N := some 140) (v := ?_) (a' := ?_) (lsb 31 1023) rfl rfl (by as_aux_lemma => kernel_rfl) (fun _ _ _ h => h) (Or.inl ⟨by rfl, ?_⟩) ?_ ?_; rotate_left; (intro w'; go_simp; with_reducible rfl); rotate_left; (simp only [Act.put, List.setIfInBounds_toArray, List.set_cons_zero, List.set_cons_succ, i64_w, i32_w]; rfl)
              refine pure_ (i := 12) (N := some 143) (v := ?_) (a' := ?_) (lsb 31 5119) rfl rfl (by as_aux_lemma => kernel_rfl) (fun _ _ _ h => h) (Or.inl ⟨by rfl, ?_⟩) ?_ ?_; rotate_left; (intro w'; go_simp; with_reducible rfl); rotate_left; (simp only [Act.put, List.setIfInBounds_toArray, List.set_cons_zero, List.set_cons_succ, i64_w, i32_w]; rfl)
              refine pure_ (i := 13) (N := some 144) (v := ?_) (a' := ?_) (lsb 31 13311) rfl rfl (by as_aux_lemma => kernel_rfl) (fun _ _ _ h => h) (Or.inl ⟨by rfl, ?_⟩) ?_ ?_; rotate_left; (intro w'; go_simp; with_reducible rfl); rotate_left; (simp only [Act.put, List.setIfInBounds_toArray, List.set_cons_zero, List.set_cons_succ, i64_w, i32_w]; rfl)
              refine pure_ (i := 15) (N := some 146) (v := ?_) (a' := ?_) (lsb 31 46079) rfl rfl (by as_aux_lemma => kernel_rfl) (fun _ _ _ h => h) (Or.inl ⟨by rfl, ?_⟩) ?_ ?_; rotate_left; (intro w'; go_simp; with_reducible rfl); rotate_left; (simp only [Act.put, List.setIfInBounds_toArray, List.set_cons_zero, List.set_cons_succ, i64_w, i32_w]; rfl)
              refine pure_ (i := 16) (N := some 147) (v := ?_) (a' := ?_) (lsb 31 111615) rfl rfl (by as_aux_lemma => kernel_rfl) (fun _ _ _ h => h) (Or.inl ⟨by rfl, ?_⟩) ?_ ?_; rotate_left; (intro w'; go_simp; with_reducible rfl); rotate_left; (simp only [Act.put, List.setIfInBounds_toArray, List.set_cons_zero, List.set_cons_succ, i64_w, i32_w]; rfl)
              refine take_ (i := 10) (N := some 141) (v := ?_) (a' := ?_) (lsb 31 112639) rfl rfl (by as_aux_lemma => kernel_rfl) (fun _ _ _ h => h) (Or.inl ⟨by rfl, ?_⟩) hHeld ?_ ?_; rotate_left; (rintro w' ⟨s0, s1⟩; go_simp; with_reducible rfl); rotate_left; (simp only [Act.put, List.setIfInBounds_toArray, List.set_cons_zero, List.set_cons_succ, i64_w, i32_w]; rfl)
              refine take_ (i := 14) (N := some 145) (v := ?_) (a' := ?_) (lsb 31 129023) rfl rfl (by as_aux_lemma => kernel_rfl) (fun _ _ _ h => h) (Or.inl ⟨by rfl, ?_⟩) hHeld ?_ ?_; rotate_left; (rintro w' ⟨s0, s1⟩; go_simp; with_reducible rfl); rotate_left; (simp only [Act.put, List.setIfInBounds_toArray, List.set_cons_zero, List.set_cons_succ, i64_w, i32_w]; rfl)
              refine take_ (i := 17) (N := some 148) (v := ?_) (a' := ?_) (lsb 31 260095) rfl rfl (by as_aux_lemma => kernel_rfl) (fun _ _ _ h => h) (Or.inl ⟨by rfl, ?_⟩) hHeld ?_ ?_; rotate_left; (rintro w' ⟨s0, s1⟩; go_simp; with_reducible rfl); rotate_left; (simp only [Act.put, List.setIfInBounds_toArray, List.set_cons_zero, List.set_cons_succ, i64_w, i32_w]; rfl)
              refine one_ (i := 11) (N := some 142) (lsb 31 262143) rfl rfl (by kernel_rfl) (by decide) (fun K hK => ?_)
              refine goes_ Try.func23 (by kernel_rfl) rfl #[.slice A3 ot.length c3, .int .u64 s] (by rfl) rfl rfl (by (try simp only [List.map_toArray, List.map_cons, List.map_nil]); first | done | rfl) ?_
              with_reducible refine (tender_Seal.calls A3 c3 ot s s1 w162 (Kd.C_below HCO.out HB_44.out) HOC.out (by unfold tender_Seal.f; rw [if_pos HS0.out, HS1.out])).mono ?_
              rintro e w163 ⟨rfl, hb⟩
              refine ⟨_, rfl, ?_⟩
              have HB_50 := lhid (below_then HB_44.out HB_44.out.size hb)
              have HT_51 := lhid (HT_45.out.next hb)
              have FM_52 := lhid (FM_46.out.next hb)
              have V_53 := lhid (blk_below V_47.out hb)
              have XB_54 := lhid (blk_below XB_48.out hb)
              have HF_55 := lhid (fun k q => Nat.lt_of_lt_of_le (HF_49.out k q) hb.size)
              clear HB_44 HT_45 FM_46 V_47 XB_48 HF_49 hb
              refine hK.out _ _ ⟨(by rw [← HVB.out]; exact (blk_cell V_53.out k).trans (VC_get V k hk4)), (sc_get XB_54.out HSL.out hk4 (by rw [HS.out, HSAL.out]))⟩ (fun hHeld => ?_)
              clear hK K
              refine norm_ (a' := ?_) ?_ ?_
              rotate_left
              · show Act.put _ (some 142) _ = _
                simp only [Act.put, List.setIfInBounds_toArray, List.set_cons_zero, List.set_cons_succ, i64_w, i32_w]
                rfl
              refine one_ (i := 18) (N := some 149) (lsb 31 524287) rfl rfl (by kernel_rfl) (by decide) (fun K hK => ?_)
              refine goes_ Try.func23 (by kernel_rfl) rfl #[.slice Ab (R k).length cb, .int .u64 s] (by rfl) rfl rfl (by (try simp only [List.map_toArray, List.map_cons, List.map_nil]); first | done | rfl) ?_
              with_reducible refine (tender_Seal.calls Ab cb (R k) s s2 w163 (FM_52.out.cc (j := k) (by omega) (upd_ne _ _ (by omega)) HVB.out).1 (FM_52.out.cc (j := k) (by omega) (upd_ne _ _ (by omega)) HVB.out).2 (by unfold tender_Seal.f; rw [if_pos HS0.out, HS2.out])).mono ?_
              rintro e w164 ⟨rfl, hb⟩
              refine ⟨_, rfl, ?_⟩
              have HB_56 := lhid (below_then HB_50.out HB_50.out.size hb)
              have HT_57 := lhid (HT_51.out.next hb)
              have FM_58 := lhid (FM_52.out.next hb)
              have V_59 := lhid (blk_below V_53.out hb)
              have XB_60 := lhid (blk_below XB_54.out hb)
              have HF_61 := lhid (fun k q => Nat.lt_of_lt_of_le (HF_55.out k q) hb.size)
              clear HB_50 HT_51 FM_52 V_53 XB_54 HF_55 hb
              refine hK.out _ _ ⟨(by rw [← HVB.out]; exact (blk_cell V_59.out k).trans (VC_get V k hk4)), (sc_get XB_60.out HSL.out hk4 (by rw [HS.out, HSAL.out]))⟩ (fun hHeld => ?_)
              clear hK K
              refine norm_ (a' := ?_) ?_ ?_
              rotate_left
              · show Act.put _ (some 149) _ = _
                simp only [Act.put, List.setIfInBounds_toArray, List.set_cons_zero, List.set_cons_succ, i64_w, i32_w]
                rfl
              refine pure_ (i := 19) (N := some 150) (v := ?_) (a' := ?_) (lsb 31 1048575) rfl rfl (by as_aux_lemma => kernel_rfl) (fun _ _ _ h => h) (Or.inl ⟨by rfl, ?_⟩) ?_ ?_; rotate_left; (intro w'; go_simp; with_reducible rfl); rotate_left; (simp only [Act.put, List.setIfInBounds_toArray, List.set_cons_zero, List.set_cons_succ, i64_w, i32_w]; rfl)
              refine pure_ (i := 20) (N := some 151) (v := ?_) (a' := ?_) (lsb 31 2097151) rfl rfl (by as_aux_lemma => kernel_rfl) (fun _ _ _ h => h) (Or.inl ⟨by rfl, ?_⟩) ?_ ?_; rotate_left; (intro w'; go_simp; with_reducible rfl); rotate_left; (simp only [Act.put, List.setIfInBounds_toArray, List.set_cons_zero, List.set_cons_succ, i64_w, i32_w]; rfl)
              refine pure_ (i := 21) (N := some 152) (v := ?_) (a' := ?_) (lsb 31 4194303) rfl rfl (by as_aux_lemma => kernel_rfl) (fun _ _ _ h => h) (Or.inl ⟨by rfl, ?_⟩) ?_ ?_; rotate_left; (intro w'; go_simp; with_reducible rfl); rotate_left; (simp only [Act.put, List.setIfInBounds_toArray, List.set_cons_zero, List.set_cons_succ, i64_w, i32_w]; rfl)
              refine pure_ (i := 22) (N := some 153) (v := undef) (a' := ?_) (lsb 31 8388607) rfl rfl (by as_aux_lemma => kernel_rfl) (fun _ _ _ h => h) (Or.inr ⟨by rfl, rfl⟩) ?_ ?_; rotate_left; (simp only [Act.put, List.setIfInBounds_toArray, List.set_cons_zero, List.set_cons_succ, i64_w, i32_w]; rfl)
              refine pure_ (i := 23) (N := some 154) (v := undef) (a' := ?_) (lsb 31 16777215) rfl rfl (by as_aux_lemma => kernel_rfl) (fun _ _ _ h => h) (Or.inr ⟨by rfl, rfl⟩) ?_ ?_; rotate_left; (simp only [Act.put, List.setIfInBounds_toArray, List.set_cons_zero, List.set_cons_succ, i64_w, i32_w]; rfl)
              refine pure_ (i := 24) (N := some 155) (v := undef) (a' := ?_) (lsb 31 33554431) rfl rfl (by as_aux_lemma => kernel_rfl) (fun _ _ _ h => h) (Or.inr ⟨by rfl, rfl⟩) ?_ ?_; rotate_left; (simp only [Act.put, List.setIfInBounds_toArray, List.set_cons_zero, List.set_cons_succ, i64_w, i32_w]; rfl)
              refine pure_ (i := 25) (N := some 156) (v := undef) (a' := ?_) (lsb 31 67108863) rfl rfl (by as_aux_lemma => kernel_rfl) (fun _ _ _ h => h) (Or.inr ⟨by rfl, rfl⟩) ?_ ?_; rotate_left; (simp only [Act.put, List.setIfInBounds_toArray, List.set_cons_zero, List.set_cons_succ, i64_w, i32_w]; rfl)
              refine pure_ (i := 26) (N := some 157) (v := undef) (a' := ?_) (lsb 31 134217727) rfl rfl (by as_aux_lemma => kernel_rfl) (fun _ _ _ h => h) (Or.inr ⟨by rfl, rfl⟩) ?_ ?_; rotate_left; (simp only [Act.put, List.setIfInBounds_toArray, List.set_cons_zero, List.set_cons_succ, i64_w, i32_w]; rfl)
              refine pure_ (i := 27) (N := some 158) (v := undef) (a' := ?_) (lsb 31 268435455) rfl rfl (by as_aux_lemma => kernel_rfl) (fun _ _ _ h => h) (Or.inr ⟨by rfl, rfl⟩) ?_ ?_; rotate_left; (simp only [Act.put, List.setIfInBounds_toArray, List.set_cons_zero, List.set_cons_succ, i64_w, i32_w]; rfl)
              refine pure_ (i := 28) (N := some 159) (v := undef) (a' := ?_) (lsb 31 536870911) rfl rfl (by as_aux_lemma => kernel_rfl) (fun _ _ _ h => h) (Or.inr ⟨by rfl, rfl⟩) ?_ ?_; rotate_left; (simp only [Act.put, List.setIfInBounds_toArray, List.set_cons_zero, List.set_cons_succ, i64_w, i32_w]; rfl)
              refine pure_ (i := 29) (N := some 160) (v := undef) (a' := ?_) (lsb 31 1073741823) rfl rfl (by as_aux_lemma => kernel_rfl) (fun _ _ _ h => h) (Or.inr ⟨by rfl, rfl⟩) ?_ ?_; rotate_left; (simp only [Act.put, List.setIfInBounds_toArray, List.set_cons_zero, List.set_cons_succ, i64_w, i32_w]; rfl)
              refine pure_ (i := 30) (N := some 161) (v := ?_) (a' := ?_) (lsb 31 2147483647) rfl rfl (by as_aux_lemma => kernel_rfl) (fun _ _ _ h => h) (Or.inl ⟨by rfl, ?_⟩) ?_ ?_; rotate_left; (intro w'; go_simp; with_reducible rfl); rotate_left; (simp only [Act.put, List.setIfInBounds_toArray, List.set_cons_zero, List.set_cons_succ, i64_w, i32_w]; rfl)
              refine done_ (by kernel_rfl) ?_
              
              go_upto_region 29 with (fail)
              try any_goals (exfalso; omega)
              have hb := below_drew1 (Below.refl w164.heap.size w164)
              have HB_62 := lhid (below_then HB_56.out HB_56.out.size hb)
              have HT_63 := lhid (HT_57.out.next hb)
              have FM_64 := lhid (FM_58.out.next hb)
              have V_65 := lhid (blk_below V_59.out hb)
              have XB_66 := lhid (blk_below XB_60.out hb)
              have HF_67 := lhid (fun k q => Nat.lt_of_lt_of_le (HF_61.out k q) hb.size)
              clear HB_56 HT_57 FM_58 V_59 XB_60 HF_61 hb
              refine start_ (n := 22) (S := fun w' => w'.cell? ⟨sb, k, none⟩ = some (.slice Ab (R k).length cb) ∧ w'.cell? ⟨xb, k, none⟩ = some (.int .u64 s)) (ds := []) (lsb 22 0) (by kernel_rfl) rfl (by kernel_rfl) ⟨(by rw [← HVB.out]; exact (blk_cell V_65.out k).trans (VC_get V k hk4)), (sc_get XB_66.out HSL.out hk4 (by rw [HS.out, HSAL.out]))⟩ (fun hHeld => ?_)
              generalize w164.drew = w165 at HB_62 HT_63 FM_64 V_65 XB_66 HF_67 hHeld ⊢
              refine pure_ (i := 0) (N := some 162) (v := ?_) (a' := ?_) (lsb 22 1) rfl rfl (by as_aux_lemma => kernel_rfl) (fun _ _ _ h => h) (Or.inl ⟨by rfl, ?_⟩) ?_ ?_; rotate_left; (intro w'; go_simp; with_reducible rfl); rotate_left; (simp only [Act.put, List.setIfInBounds_toArray, List.set_cons_zero, List.set_cons_succ, i64_w, i32_w]; rfl)
              refine pure_ (i := 1) (N := some 163) (v := ?_) (a' := ?_) (lsb 22 3) rfl rfl (by as_aux_lemma => kernel_rfl) (fun _ _ _ h => h) (Or.inl ⟨by rfl, ?_⟩) ?_ ?_; rotate_left; (intro w'; go_simp; with_reducible rfl); rotate_left; (simp only [Act.put, List.setIfInBounds_toArray, List.set_cons_zero, List.set_cons_succ, i64_w, i32_w]; rfl)
              refine pure_ (i := 2) (N := some 164) (v := ?_) (a' := ?_) (lsb 22 7) rfl rfl (by as_aux_lemma => kernel_rfl) (fun _ _ _ h => h) (Or.inl ⟨by rfl, ?_⟩) ?_ ?_; rotate_left; (intro w'; go_simp; with_reducible rfl); rotate_left; (simp only [Act.put, List.setIfInBounds_toArray, List.set_cons_zero, List.set_cons_succ, i64_w, i32_w]; rfl)
              refine pure_ (i := 3) (N := some 165) (v := ?_) (a' := ?_) (lsb 22 15) rfl rfl (by as_aux_lemma => kernel_rfl) (fun _ _ _ h => h) (Or.inl ⟨by rfl, ?_⟩) ?_ ?_; rotate_left; (intro w'; go_simp; with_reducible rfl); rotate_left; (simp only [Act.put, List.setIfInBounds_toArray, List.set_cons_zero, List.set_cons_succ, i64_w, i32_w]; rfl)
              refine pure_ (i := 5) (N := some 167) (v := ?_) (a' := ?_) (lsb 22 47) rfl rfl (by as_aux_lemma => kernel_rfl) (fun _ _ _ h => h) (Or.inl ⟨by rfl, ?_⟩) ?_ ?_; rotate_left; (intro w'; go_simp; with_reducible rfl); rotate_left; (simp only [Act.put, List.setIfInBounds_toArray, List.set_cons_zero, List.set_cons_succ, i64_w, i32_w]; rfl)
              refine pure_ (i := 6) (N := some 168) (v := ?_) (a' := ?_) (lsb 22 111) rfl rfl (by as_aux_lemma => kernel_rfl) (fun _ _ _ h => h) (Or.inl ⟨by rfl, ?_⟩) ?_ ?_; rotate_left; (intro w'; go_simp; with_reducible rfl); rotate_left; (simp only [Act.put, List.setIfInBounds_toArray, List.set_cons_zero, List.set_cons_succ, i64_w, i32_w]; rfl)
              refine take_ (i := 4) (N := some 166) (v := ?_) (a' := ?_) (lsb 22 127) rfl rfl (by as_aux_lemma => kernel_rfl) (fun _ _ _ h => h) (Or.inl ⟨by rfl, ?_⟩) hHeld ?_ ?_; rotate_left; (rintro w' ⟨s0, s1⟩; go_simp; with_reducible rfl); rotate_left; (simp only [Act.put, List.setIfInBounds_toArray, List.set_cons_zero, List.set_cons_succ, i64_w, i32_w]; rfl)
              refine take_ (i := 7) (N := some 169) (v := ?_) (a' := ?_) (lsb 22 255) rfl rfl (by as_aux_lemma => kernel_rfl) (fun _ _ _ h => h) (Or.inl ⟨by rfl, ?_⟩) hHeld ?_ ?_; rotate_left; (rintro w' ⟨s0, s1⟩; go_simp; with_reducible rfl); rotate_left; (simp only [Act.put, List.setIfInBounds_toArray, List.set_cons_zero, List.set_cons_succ, i64_w, i32_w]; rfl)
              refine one_ (i := 8) (N := some 170) (lsb 22 511) rfl rfl (by kernel_rfl) (by decide) (fun K hK => ?_)
              refine goes_ Try.func37 (by kernel_rfl) rfl #[.pointer (some ⟨t, 0, none⟩), .int .i64 (k : Int), .slice Ab (R k).length cb, .int .u64 s] (by rfl) rfl rfl (by (try simp only [List.map_toArray, List.map_cons, List.map_nil]); first | done | rfl) ?_
              with_reducible refine (show_c0 HK.out HS.out HLO.out.1 HLO.out.2 HR5.out hlt HR2.out (HRA.out k) HT_63.out HF_67.out (FM_64.out.cc (j := k) (by omega) (upd_ne _ _ (by omega)) HVB.out).1 (FM_64.out.cc (j := k) (by omega) (upd_ne _ _ (by omega)) HVB.out).2 HS0.out).mono ?_
              rintro e w166 ⟨rfl, F8, vs8, ⟨ht, hF8⟩, hch⟩
              refine ⟨_, rfl, ?_⟩
              have HBc3 := lhid (HB_62.out.trans (hch.below HB_62.out.size (fun k q => by rw [q]; exact HTS.out.2.1)))
              have FMc3 := lhid (FM_64.out.far hch (fun k h1 h2 q => by have h3 := HTS.out; have h4 : k = t := q; omega))
              have Vc3 := lhid (hch.blk V_65.out (fun q => by have h3 := HTS.out; have h4 : sb = t := q; omega))
              have XBc3 := lhid (hch.blk XB_66.out (fun q => HTS.out.2.2.2.2 q))
              have HTc3 := lhid (ht)
              clear hch HB_62 HT_63 FM_64 V_65 XB_66
              have HF3 := lhid (hF8)
              clear HF_67 hF8 ht
              refine hK.out _ _ ⟨(by rw [← HVB.out]; exact (blk_cell Vc3.out k).trans (VC_get V k hk4)), (sc_get XBc3.out HSL.out hk4 (by rw [HS.out, HSAL.out]))⟩ (fun hHeld => ?_)
              clear hK K
              refine norm_ (a' := ?_) ?_ ?_
              rotate_left
              · show Act.put _ (some 170) _ = _
                simp only [Act.put, List.setIfInBounds_toArray, List.set_cons_zero, List.set_cons_succ, i64_w, i32_w]
                rfl
              refine pure_ (i := 9) (N := some 171) (v := ?_) (a' := ?_) (lsb 22 1023) rfl rfl (by as_aux_lemma => kernel_rfl) (fun _ _ _ h => h) (Or.inl ⟨by rfl, ?_⟩) ?_ ?_; rotate_left; (intro w'; go_simp; with_reducible rfl); rotate_left; (simp only [Act.put, List.setIfInBounds_toArray, List.set_cons_zero, List.set_cons_succ, i64_w, i32_w]; rfl)
              refine pure_ (i := 10) (N := some 172) (v := ?_) (a' := ?_) (lsb 22 2047) rfl rfl (by as_aux_lemma => kernel_rfl) (fun _ _ _ h => h) (Or.inl ⟨by rfl, ?_⟩) ?_ ?_; rotate_left; (intro w'; go_simp; with_reducible rfl); rotate_left; (simp only [Act.put, List.setIfInBounds_toArray, List.set_cons_zero, List.set_cons_succ, i64_w, i32_w]; rfl)
              refine pure_ (i := 11) (N := some 173) (v := ?_) (a' := ?_) (lsb 22 4095) rfl rfl (by as_aux_lemma => kernel_rfl) (fun _ _ _ h => h) (Or.inl ⟨by rfl, ?_⟩) ?_ ?_; rotate_left; (intro w'; go_simp; with_reducible rfl); rotate_left; (simp only [Act.put, List.setIfInBounds_toArray, List.set_cons_zero, List.set_cons_succ, i64_w, i32_w]; rfl)
              refine pure_ (i := 12) (N := some 174) (v := ?_) (a' := ?_) (lsb 22 8191) rfl rfl (by as_aux_lemma => kernel_rfl) (fun _ _ _ h => h) (Or.inl ⟨by rfl, ?_⟩) ?_ ?_; rotate_left; (intro w'; go_simp; with_reducible rfl); rotate_left; (simp only [Act.put, List.setIfInBounds_toArray, List.set_cons_zero, List.set_cons_succ, i64_w, i32_w]; rfl)
              refine pure_ (i := 13) (N := some 175) (v := ?_) (a' := ?_) (lsb 22 16383) rfl rfl (by as_aux_lemma => kernel_rfl) (fun _ _ _ h => h) (Or.inl ⟨by rfl, ?_⟩) ?_ ?_; rotate_left; (intro w'; go_simp; with_reducible rfl); rotate_left; (simp only [Act.put, List.setIfInBounds_toArray, List.set_cons_zero, List.set_cons_succ, i64_w, i32_w]; rfl)
              refine pure_ (i := 14) (N := some 176) (v := ?_) (a' := ?_) (lsb 22 32767) rfl rfl (by as_aux_lemma => kernel_rfl) (fun _ _ _ h => h) (Or.inl ⟨by rfl, ?_⟩) ?_ ?_; rotate_left; (intro w'; go_simp; with_reducible rfl); rotate_left; (simp only [Act.put, List.setIfInBounds_toArray, List.set_cons_zero, List.set_cons_succ, i64_w, i32_w]; rfl)
              refine pure_ (i := 16) (N := some 178) (v := ?_) (a' := ?_) (lsb 22 98303) rfl rfl (by as_aux_lemma => kernel_rfl) (fun _ _ _ h => h) (Or.inl ⟨by rfl, ?_⟩) ?_ ?_; rotate_left; (intro w'; go_simp; with_reducible rfl); rotate_left; (simp only [Act.put, List.setIfInBounds_toArray, List.set_cons_zero, List.set_cons_succ, i64_w, i32_w]; rfl)
              refine pure_ (i := 17) (N := some 179) (v := ?_) (a' := ?_) (lsb 22 229375) rfl rfl (by as_aux_lemma => kernel_rfl) (fun _ _ _ h => h) (Or.inl ⟨by rfl, ?_⟩) ?_ ?_; rotate_left; (intro w'; go_simp; with_reducible rfl); rotate_left; (simp only [Act.put, List.setIfInBounds_toArray, List.set_cons_zero, List.set_cons_succ, i64_w, i32_w]; rfl)
              refine take_ (i := 15) (N := some 177) (v := ?_) (a' := ?_) (lsb 22 262143) rfl rfl (by as_aux_lemma => kernel_rfl) (fun _ _ _ h => h) (Or.inl ⟨by rfl, ?_⟩) hHeld ?_ ?_; rotate_left; (rintro w' ⟨s0, s1⟩; go_simp; with_reducible rfl); rotate_left; (simp only [Act.put, List.setIfInBounds_toArray, List.set_cons_zero, List.set_cons_succ, i64_w, i32_w]; rfl)
              refine take_ (i := 18) (N := some 180) (v := ?_) (a' := ?_) (lsb 22 524287) rfl rfl (by as_aux_lemma => kernel_rfl) (fun _ _ _ h => h) (Or.inl ⟨by rfl, ?_⟩) hHeld ?_ ?_; rotate_left; (rintro w' ⟨s0, s1⟩; go_simp; with_reducible rfl); rotate_left; (simp only [Act.put, List.setIfInBounds_toArray, List.set_cons_zero, List.set_cons_succ, i64_w, i32_w]; rfl)
              refine one_ (i := 19) (N := some 181) (lsb 22 1048575) rfl rfl (by kernel_rfl) (by decide) (fun K hK => ?_)
              refine goes_ Try.func37 (by kernel_rfl) rfl #[.pointer (some ⟨t, 0, none⟩), .int .i64 (k : Int), .slice Ab (R k).length cb, .int .u64 s] (by rfl) rfl rfl (by (try simp only [List.map_toArray, List.map_cons, List.map_nil]); first | done | rfl) ?_
              with_reducible refine (show_c7 HK.out HLO.out.1 HLO.out.2 HR5.out HR2.out HTc3.out HF3.out (FMc3.out.cc (j := k) (by omega) (upd_ne _ _ (by omega)) HVB.out).1 (FMc3.out.cc (j := k) (by omega) (upd_ne _ _ (by omega)) HVB.out).2 HS0.out).mono ?_
              rintro e w167 ⟨rfl, F9, ⟨ht, hF9⟩, hch⟩
              refine ⟨_, rfl, ?_⟩
              have HBc4 := lhid (HBc3.out.trans (hch.below HBc3.out.size (fun k q => by rw [q]; exact HTS.out.2.1)))
              have FMc4 := lhid (FMc3.out.far hch (fun k h1 h2 q => by have h3 := HTS.out; have h4 : k = t := q; omega))
              have Vc4 := lhid (hch.blk Vc3.out (fun q => by have h3 := HTS.out; have h4 : sb = t := q; omega))
              have XBc4 := lhid (hch.blk XBc3.out (fun q => HTS.out.2.2.2.2 q))
              have HTc4 := lhid (ht)
              clear hch HBc3 HTc3 FMc3 Vc3 XBc3
              have HF4 := lhid (hF9)
              clear HF3 hF9 ht
              refine hK.out _ _ ⟨(by rw [← HVB.out]; exact (blk_cell Vc4.out k).trans (VC_get V k hk4)), (sc_get XBc4.out HSL.out hk4 (by rw [HS.out, HSAL.out]))⟩ (fun hHeld => ?_)
              clear hK K
              refine norm_ (a' := ?_) ?_ ?_
              rotate_left
              · show Act.put _ (some 181) _ = _
                simp only [Act.put, List.setIfInBounds_toArray, List.set_cons_zero, List.set_cons_succ, i64_w, i32_w]
                rfl
              refine pure_ (i := 20) (N := some 182) (v := ?_) (a' := ?_) (lsb 22 2097151) rfl rfl (by as_aux_lemma => kernel_rfl) (fun _ _ _ h => h) (Or.inl ⟨by rfl, ?_⟩) ?_ ?_; rotate_left; (intro w'; go_simp; with_reducible rfl); rotate_left; (simp only [Act.put, List.setIfInBounds_toArray, List.set_cons_zero, List.set_cons_succ, i64_w, i32_w]; rfl)
              refine pure_ (i := 21) (N := some 183) (v := ?_) (a' := ?_) (lsb 22 4194303) rfl rfl (by as_aux_lemma => kernel_rfl) (fun _ _ _ h => h) (Or.inl ⟨by rfl, ?_⟩) ?_ ?_; rotate_left; (intro w'; go_simp; with_reducible rfl); rotate_left; (simp only [Act.put, List.setIfInBounds_toArray, List.set_cons_zero, List.set_cons_succ, i64_w, i32_w]; rfl)
              refine done_ (by kernel_rfl) ?_
              
              go_wp2_with fail
              try any_goals (exfalso; omega)
              go_roundw
              case rel => first | exact ⟨b + 1, by omega, by simp, F9, vs8, HF4, HTc4, FMc4, Vc4, XBc4, HBc4⟩ | ((repeat apply Exists.intro); refine ⟨?_, rfl⟩; exact ⟨b + 1, by omega, by simp, F9, vs8, HF4, HTc4, FMc4, Vc4, XBc4, HBc4⟩)
              case measure => simp [intOf]; omega
            · have hsd : (s1 != s2) = true := bne_iff_ne.2 hse
              have hb := below_drew1 (Below.refl wr.heap.size wr)
              have HB_68 := lhid (below_then HBr.out HBr.out.size hb)
              have HT_69 := lhid (HTr.out.next hb)
              have FM_70 := lhid (FMr.out.next hb)
              have V_71 := lhid (blk_below Vr.out hb)
              have XB_72 := lhid (blk_below XBr.out hb)
              have HF_73 := lhid (fun k q => Nat.lt_of_lt_of_le (HFr.out k q) hb.size)
              clear HBr HTr FMr Vr XBr HFr hb
              refine start_ (n := 31) (S := fun w' => w'.cell? ⟨sb, k, none⟩ = some (.slice Ab (R k).length cb) ∧ w'.cell? ⟨xb, k, none⟩ = some (.int .u64 s)) (ds := []) (lsb 31 0) (by kernel_rfl) rfl (by kernel_rfl) ⟨(by rw [← HVB.out]; exact (blk_cell V_71.out k).trans (VC_get V k hk4)), (sc_get XB_72.out HSL.out hk4 (by rw [HS.out, HSAL.out]))⟩ (fun hHeld => ?_)
              generalize wr.drew = w161 at HB_68 HT_69 FM_70 V_71 XB_72 HF_73 hHeld ⊢
              refine pure_ (i := 0) (N := some 131) (v := ?_) (a' := ?_) (lsb 31 1) rfl rfl (by as_aux_lemma => kernel_rfl) (fun _ _ _ h => h) (Or.inl ⟨by rfl, ?_⟩) ?_ ?_; rotate_left; (intro w'; go_simp; with_reducible rfl); rotate_left; (simp only [Act.put, List.setIfInBounds_toArray, List.set_cons_zero, List.set_cons_succ, i64_w, i32_w]; rfl)
              refine pure_ (i := 1) (N := some 132) (v := ?_) (a' := ?_) (lsb 31 3) rfl rfl (by as_aux_lemma => kernel_rfl) (fun _ _ _ h => h) (Or.inl ⟨by rfl, ?_⟩) ?_ ?_; rotate_left; (intro w'; go_simp; with_reducible rfl); rotate_left; (simp only [Act.put, List.setIfInBounds_toArray, List.set_cons_zero, List.set_cons_succ, i64_w, i32_w]; rfl)
              refine pure_ (i := 2) (N := some 133) (v := ?_) (a' := ?_) (lsb 31 7) rfl rfl (by as_aux_lemma => kernel_rfl) (fun _ _ _ h => h) (Or.inl ⟨by rfl, ?_⟩) ?_ ?_; rotate_left; (intro w'; go_simp; with_reducible rfl); rotate_left; (simp only [Act.put, List.setIfInBounds_toArray, List.set_cons_zero, List.set_cons_succ, i64_w, i32_w]; rfl)
              refine take_ (i := 3) (N := some 134) (v := ?_) (a' := ?_) (lsb 31 15) rfl rfl (by as_aux_lemma => kernel_rfl) (fun _ _ _ h => h) (Or.inl ⟨by rfl, ?_⟩) hHeld ?_ ?_; rotate_left; (rintro w' ⟨s0, s1⟩; go_simp; with_reducible rfl); rotate_left; (simp only [Act.put, List.setIfInBounds_toArray, List.set_cons_zero, List.set_cons_succ, i64_w, i32_w]; rfl)
              refine one_ (i := 4) (N := some 135) (lsb 31 31) rfl rfl (by kernel_rfl) (by decide) (fun K hK => ?_)
              refine goes_ Try.func20 (by kernel_rfl) rfl #[.slice A3 ot.length c3, .slice Ab (R k).length cb] (by rfl) rfl rfl (by (try simp only [List.map_toArray, List.map_cons, List.map_nil]); first | done | rfl) ?_
              with_reducible refine (kimberlitelaw05_offers.calls kk A3 c3 ot Ab cb (R k) false w161 (Kd.C_below HCO.out HB_68.out) HOC.out (FM_70.out.cc (j := k) (by omega) (upd_ne _ _ (by omega)) HVB.out).1 (FM_70.out.cc (j := k) (by omega) (upd_ne _ _ (by omega)) HVB.out).2 HKK.out).mono ?_
              rintro e w162 ⟨rfl, nd, hq⟩
              refine ⟨_, rfl, ?_⟩
              have hb := pw_below_drewN (Below.refl w161.heap.size w161) nd
              rw [← hq] at hb
              clear hq
              have HB_74 := lhid (below_then HB_68.out HB_68.out.size hb)
              have HT_75 := lhid (HT_69.out.next hb)
              have FM_76 := lhid (FM_70.out.next hb)
              have V_77 := lhid (blk_below V_71.out hb)
              have XB_78 := lhid (blk_below XB_72.out hb)
              have HF_79 := lhid (fun k q => Nat.lt_of_lt_of_le (HF_73.out k q) hb.size)
              clear HB_68 HT_69 FM_70 V_71 XB_72 HF_73 hb
              refine hK.out _ _ ⟨(by rw [← HVB.out]; exact (blk_cell V_77.out k).trans (VC_get V k hk4)), (sc_get XB_78.out HSL.out hk4 (by rw [HS.out, HSAL.out]))⟩ (fun hHeld => ?_)
              clear hK K
              refine norm_ (a' := ?_) ?_ ?_
              rotate_left
              · show Act.put _ (some 135) _ = _
                simp only [Act.put, List.setIfInBounds_toArray, List.set_cons_zero, List.set_cons_succ, i64_w, i32_w]
                rfl
              refine pure_ (i := 5) (N := some 136) (v := ?_) (a' := ?_) (lsb 31 63) rfl rfl (by as_aux_lemma => kernel_rfl) (fun _ _ _ h => h) (Or.inl ⟨by rfl, ?_⟩) ?_ ?_; rotate_left; (intro w'; go_simp; with_reducible rfl); rotate_left; (simp only [Act.put, List.setIfInBounds_toArray, List.set_cons_zero, List.set_cons_succ, i64_w, i32_w]; rfl)
              refine pure_ (i := 6) (N := some 137) (v := ?_) (a' := ?_) (lsb 31 127) rfl rfl (by as_aux_lemma => kernel_rfl) (fun _ _ _ h => h) (Or.inl ⟨by rfl, ?_⟩) ?_ ?_; rotate_left; (intro w'; go_simp; with_reducible rfl); rotate_left; (simp only [Act.put, List.setIfInBounds_toArray, List.set_cons_zero, List.set_cons_succ, i64_w, i32_w]; rfl)
              refine pure_ (i := 7) (N := some 138) (v := ?_) (a' := ?_) (lsb 31 255) rfl rfl (by as_aux_lemma => kernel_rfl) (fun _ _ _ h => h) (Or.inl ⟨by rfl, ?_⟩) ?_ ?_; rotate_left; (intro w'; go_simp; with_reducible rfl); rotate_left; (simp only [Act.put, List.setIfInBounds_toArray, List.set_cons_zero, List.set_cons_succ, i64_w, i32_w]; rfl)
              refine pure_ (i := 8) (N := some 139) (v := ?_) (a' := ?_) (lsb 31 511) rfl rfl (by as_aux_lemma => kernel_rfl) (fun _ _ _ h => h) (Or.inl ⟨by rfl, ?_⟩) ?_ ?_; rotate_left; (intro w'; go_simp; with_reducible rfl); rotate_left; (simp only [Act.put, List.setIfInBounds_toArray, List.set_cons_zero, List.set_cons_succ, i64_w, i32_w]; rfl)
              refine pure_ (i := 9) (N := some 140) (v := ?_) (a' := ?_) (lsb 31 1023) rfl rfl (by as_aux_lemma => kernel_rfl) (fun _ _ _ h => h) (Or.inl ⟨by rfl, ?_⟩) ?_ ?_; rotate_left; (intro w'; go_simp; with_reducible rfl); rotate_left; (simp only [Act.put, List.setIfInBounds_toArray, List.set_cons_zero, List.set_cons_succ, i64_w, i32_w]; rfl)
              refine pure_ (i := 12) (N := some 143) (v := ?_) (a' := ?_) (lsb 31 5119) rfl rfl (by as_aux_lemma => kernel_rfl) (fun _ _ _ h => h) (Or.inl ⟨by rfl, ?_⟩) ?_ ?_; rotate_left; (intro w'; go_simp; with_reducible rfl); rotate_left; (simp only [Act.put, List.setIfInBounds_toArray, List.set_cons_zero, List.set_cons_succ, i64_w, i32_w]; rfl)
              refine pure_ (i := 13) (N := some 144) (v := ?_) (a' := ?_) (lsb 31 13311) rfl rfl (by as_aux_lemma => kernel_rfl) (fun _ _ _ h => h) (Or.inl ⟨by rfl, ?_⟩) ?_ ?_; rotate_left; (intro w'; go_simp; with_reducible rfl); rotate_left; (simp only [Act.put, List.setIfInBounds_toArray, List.set_cons_zero, List.set_cons_succ, i64_w, i32_w]; rfl)
              refine pure_ (i := 15) (N := some 146) (v := ?_) (a' := ?_) (lsb 31 46079) rfl rfl (by as_aux_lemma => kernel_rfl) (fun _ _ _ h => h) (Or.inl ⟨by rfl, ?_⟩) ?_ ?_; rotate_left; (intro w'; go_simp; with_reducible rfl); rotate_left; (simp only [Act.put, List.setIfInBounds_toArray, List.set_cons_zero, List.set_cons_succ, i64_w, i32_w]; rfl)
              refine pure_ (i := 16) (N := some 147) (v := ?_) (a' := ?_) (lsb 31 111615) rfl rfl (by as_aux_lemma => kernel_rfl) (fun _ _ _ h => h) (Or.inl ⟨by rfl, ?_⟩) ?_ ?_; rotate_left; (intro w'; go_simp; with_reducible rfl); rotate_left; (simp only [Act.put, List.setIfInBounds_toArray, List.set_cons_zero, List.set_cons_succ, i64_w, i32_w]; rfl)
              refine take_ (i := 10) (N := some 141) (v := ?_) (a' := ?_) (lsb 31 112639) rfl rfl (by as_aux_lemma => kernel_rfl) (fun _ _ _ h => h) (Or.inl ⟨by rfl, ?_⟩) hHeld ?_ ?_; rotate_left; (rintro w' ⟨s0, s1⟩; go_simp; with_reducible rfl); rotate_left; (simp only [Act.put, List.setIfInBounds_toArray, List.set_cons_zero, List.set_cons_succ, i64_w, i32_w]; rfl)
              refine take_ (i := 14) (N := some 145) (v := ?_) (a' := ?_) (lsb 31 129023) rfl rfl (by as_aux_lemma => kernel_rfl) (fun _ _ _ h => h) (Or.inl ⟨by rfl, ?_⟩) hHeld ?_ ?_; rotate_left; (rintro w' ⟨s0, s1⟩; go_simp; with_reducible rfl); rotate_left; (simp only [Act.put, List.setIfInBounds_toArray, List.set_cons_zero, List.set_cons_succ, i64_w, i32_w]; rfl)
              refine take_ (i := 17) (N := some 148) (v := ?_) (a' := ?_) (lsb 31 260095) rfl rfl (by as_aux_lemma => kernel_rfl) (fun _ _ _ h => h) (Or.inl ⟨by rfl, ?_⟩) hHeld ?_ ?_; rotate_left; (rintro w' ⟨s0, s1⟩; go_simp; with_reducible rfl); rotate_left; (simp only [Act.put, List.setIfInBounds_toArray, List.set_cons_zero, List.set_cons_succ, i64_w, i32_w]; rfl)
              refine one_ (i := 11) (N := some 142) (lsb 31 262143) rfl rfl (by kernel_rfl) (by decide) (fun K hK => ?_)
              refine goes_ Try.func23 (by kernel_rfl) rfl #[.slice A3 ot.length c3, .int .u64 s] (by rfl) rfl rfl (by (try simp only [List.map_toArray, List.map_cons, List.map_nil]); first | done | rfl) ?_
              with_reducible refine (tender_Seal.calls A3 c3 ot s s1 w162 (Kd.C_below HCO.out HB_74.out) HOC.out (by unfold tender_Seal.f; rw [if_pos HS0.out, HS1.out])).mono ?_
              rintro e w163 ⟨rfl, hb⟩
              refine ⟨_, rfl, ?_⟩
              have HB_80 := lhid (below_then HB_74.out HB_74.out.size hb)
              have HT_81 := lhid (HT_75.out.next hb)
              have FM_82 := lhid (FM_76.out.next hb)
              have V_83 := lhid (blk_below V_77.out hb)
              have XB_84 := lhid (blk_below XB_78.out hb)
              have HF_85 := lhid (fun k q => Nat.lt_of_lt_of_le (HF_79.out k q) hb.size)
              clear HB_74 HT_75 FM_76 V_77 XB_78 HF_79 hb
              refine hK.out _ _ ⟨(by rw [← HVB.out]; exact (blk_cell V_83.out k).trans (VC_get V k hk4)), (sc_get XB_84.out HSL.out hk4 (by rw [HS.out, HSAL.out]))⟩ (fun hHeld => ?_)
              clear hK K
              refine norm_ (a' := ?_) ?_ ?_
              rotate_left
              · show Act.put _ (some 142) _ = _
                simp only [Act.put, List.setIfInBounds_toArray, List.set_cons_zero, List.set_cons_succ, i64_w, i32_w]
                rfl
              refine one_ (i := 18) (N := some 149) (lsb 31 524287) rfl rfl (by kernel_rfl) (by decide) (fun K hK => ?_)
              refine goes_ Try.func23 (by kernel_rfl) rfl #[.slice Ab (R k).length cb, .int .u64 s] (by rfl) rfl rfl (by (try simp only [List.map_toArray, List.map_cons, List.map_nil]); first | done | rfl) ?_
              with_reducible refine (tender_Seal.calls Ab cb (R k) s s2 w163 (FM_82.out.cc (j := k) (by omega) (upd_ne _ _ (by omega)) HVB.out).1 (FM_82.out.cc (j := k) (by omega) (upd_ne _ _ (by omega)) HVB.out).2 (by unfold tender_Seal.f; rw [if_pos HS0.out, HS2.out])).mono ?_
              rintro e w164 ⟨rfl, hb⟩
              refine ⟨_, rfl, ?_⟩
              have HB_86 := lhid (below_then HB_80.out HB_80.out.size hb)
              have HT_87 := lhid (HT_81.out.next hb)
              have FM_88 := lhid (FM_82.out.next hb)
              have V_89 := lhid (blk_below V_83.out hb)
              have XB_90 := lhid (blk_below XB_84.out hb)
              have HF_91 := lhid (fun k q => Nat.lt_of_lt_of_le (HF_85.out k q) hb.size)
              clear HB_80 HT_81 FM_82 V_83 XB_84 HF_85 hb
              refine hK.out _ _ ⟨(by rw [← HVB.out]; exact (blk_cell V_89.out k).trans (VC_get V k hk4)), (sc_get XB_90.out HSL.out hk4 (by rw [HS.out, HSAL.out]))⟩ (fun hHeld => ?_)
              clear hK K
              refine norm_ (a' := ?_) ?_ ?_
              rotate_left
              · show Act.put _ (some 149) _ = _
                simp only [Act.put, List.setIfInBounds_toArray, List.set_cons_zero, List.set_cons_succ, i64_w, i32_w]
                rfl
              refine pure_ (i := 19) (N := some 150) (v := ?_) (a' := ?_) (lsb 31 1048575) rfl rfl (by as_aux_lemma => kernel_rfl) (fun _ _ _ h => h) (Or.inl ⟨by rfl, ?_⟩) ?_ ?_; rotate_left; (intro w'; go_simp; with_reducible rfl); rotate_left; (simp only [Act.put, List.setIfInBounds_toArray, List.set_cons_zero, List.set_cons_succ, i64_w, i32_w]; rfl)
              refine pure_ (i := 20) (N := some 151) (v := ?_) (a' := ?_) (lsb 31 2097151) rfl rfl (by as_aux_lemma => kernel_rfl) (fun _ _ _ h => h) (Or.inl ⟨by rfl, ?_⟩) ?_ ?_; rotate_left; (intro w'; go_simp; with_reducible rfl); rotate_left; (simp only [Act.put, List.setIfInBounds_toArray, List.set_cons_zero, List.set_cons_succ, i64_w, i32_w]; rfl)
              refine pure_ (i := 21) (N := some 152) (v := ?_) (a' := ?_) (lsb 31 4194303) rfl rfl (by as_aux_lemma => kernel_rfl) (fun _ _ _ h => h) (Or.inl ⟨by rfl, ?_⟩) ?_ ?_; rotate_left; (intro w'; go_simp; with_reducible rfl); rotate_left; (simp only [Act.put, List.setIfInBounds_toArray, List.set_cons_zero, List.set_cons_succ, i64_w, i32_w]; rfl)
              refine pure_ (i := 22) (N := some 153) (v := ?_) (a' := ?_) (lsb 31 8388607) rfl rfl (by as_aux_lemma => kernel_rfl) (fun _ _ _ h => h) (Or.inl ⟨by rfl, ?_⟩) ?_ ?_; rotate_left; (intro w'; go_simp; with_reducible rfl); rotate_left; (simp only [Act.put, List.setIfInBounds_toArray, List.set_cons_zero, List.set_cons_succ, i64_w, i32_w]; rfl)
              refine pure_ (i := 23) (N := some 154) (v := ?_) (a' := ?_) (lsb 31 16777215) rfl rfl (by as_aux_lemma => kernel_rfl) (fun _ _ _ h => h) (Or.inl ⟨by rfl, ?_⟩) ?_ ?_; rotate_left; (intro w'; go_simp; with_reducible rfl); rotate_left; (simp only [Act.put, List.setIfInBounds_toArray, List.set_cons_zero, List.set_cons_succ, i64_w, i32_w]; rfl)
              refine pure_ (i := 24) (N := some 155) (v := ?_) (a' := ?_) (lsb 31 33554431) rfl rfl (by as_aux_lemma => kernel_rfl) (fun _ _ _ h => h) (Or.inl ⟨by rfl, ?_⟩) ?_ ?_; rotate_left; (intro w'; go_simp; with_reducible rfl); rotate_left; (simp only [Act.put, List.setIfInBounds_toArray, List.set_cons_zero, List.set_cons_succ, i64_w, i32_w]; rfl)
              refine pure_ (i := 25) (N := some 156) (v := ?_) (a' := ?_) (lsb 31 67108863) rfl rfl (by as_aux_lemma => kernel_rfl) (fun _ _ _ h => h) (Or.inl ⟨by rfl, ?_⟩) ?_ ?_; rotate_left; (intro w'; go_simp; with_reducible rfl); rotate_left; (simp only [Act.put, List.setIfInBounds_toArray, List.set_cons_zero, List.set_cons_succ, i64_w, i32_w]; rfl)
              refine pure_ (i := 26) (N := some 157) (v := ?_) (a' := ?_) (lsb 31 134217727) rfl rfl (by as_aux_lemma => kernel_rfl) (fun _ _ _ h => h) (Or.inl ⟨by rfl, ?_⟩) ?_ ?_; rotate_left; (intro w'; go_simp; with_reducible rfl); rotate_left; (simp only [Act.put, List.setIfInBounds_toArray, List.set_cons_zero, List.set_cons_succ, i64_w, i32_w]; rfl)
              refine take_ (i := 27) (N := some 158) (v := ?_) (a' := ?_) (lsb 31 268435455) rfl rfl (by as_aux_lemma => kernel_rfl) (fun _ _ _ h => h) (Or.inl ⟨by rfl, ?_⟩) hHeld ?_ ?_; rotate_left; (rintro w' ⟨s0, s1⟩; go_simp; with_reducible rfl); rotate_left; (simp only [Act.put, List.setIfInBounds_toArray, List.set_cons_zero, List.set_cons_succ, i64_w, i32_w]; rfl)
              refine one_ (i := 28) (N := some 159) (lsb 31 536870911) rfl rfl (by kernel_rfl) (by decide) (fun K hK => ?_)
              refine goes_ Try.func37 (by kernel_rfl) rfl #[.pointer (some ⟨t, 0, none⟩), .int .i64 (k : Int), .slice A3 ot.length c3, .int .u64 s] (by rfl) rfl rfl (by (try simp only [List.map_toArray, List.map_cons, List.map_nil]); first | done | rfl) ?_
              with_reducible refine (show_c11 HK.out HS.out HLO.out.1 HLO.out.2 HR5.out hlt HR2.out HT_87.out HF_91.out (Kd.C_below HCO.out HB_86.out) HOC.out HS0.out (by rw [← HS1.out, ← HS2.out]; exact hse)).mono ?_
              rintro e w165 ⟨rfl, F7, ⟨ht, hF7⟩, hch⟩
              refine ⟨_, rfl, ?_⟩
              have HBc5 := lhid (HB_86.out.trans (hch.below HB_86.out.size (fun k q => by rw [q]; exact HTS.out.2.1)))
              have FMc5 := lhid (FM_88.out.far hch (fun k h1 h2 q => by have h3 := HTS.out; have h4 : k = t := q; omega))
              have Vc5 := lhid (hch.blk V_89.out (fun q => by have h3 := HTS.out; have h4 : sb = t := q; omega))
              have XBc5 := lhid (hch.blk XB_90.out (fun q => HTS.out.2.2.2.2 q))
              have HTc5 := lhid (ht)
              clear hch HB_86 HT_87 FM_88 V_89 XB_90
              have HF5 := lhid (hF7)
              clear HF_91 hF7 ht
              refine hK.out _ _ ⟨(by rw [← HVB.out]; exact (blk_cell Vc5.out k).trans (VC_get V k hk4)), (sc_get XBc5.out HSL.out hk4 (by rw [HS.out, HSAL.out]))⟩ (fun hHeld => ?_)
              clear hK K
              refine norm_ (a' := ?_) ?_ ?_
              rotate_left
              · show Act.put _ (some 159) _ = _
                simp only [Act.put, List.setIfInBounds_toArray, List.set_cons_zero, List.set_cons_succ, i64_w, i32_w]
                rfl
              refine pure_ (i := 29) (N := some 160) (v := ?_) (a' := ?_) (lsb 31 1073741823) rfl rfl (by as_aux_lemma => kernel_rfl) (fun _ _ _ h => h) (Or.inl ⟨by rfl, ?_⟩) ?_ ?_; rotate_left; (intro w'; go_simp; with_reducible rfl); rotate_left; (simp only [Act.put, List.setIfInBounds_toArray, List.set_cons_zero, List.set_cons_succ, i64_w, i32_w]; rfl)
              refine pure_ (i := 30) (N := some 161) (v := ?_) (a' := ?_) (lsb 31 2147483647) rfl rfl (by as_aux_lemma => kernel_rfl) (fun _ _ _ h => h) (Or.inl ⟨by rfl, ?_⟩) ?_ ?_; rotate_left; (intro w'; go_simp; with_reducible rfl); rotate_left; (simp only [Act.put, List.setIfInBounds_toArray, List.set_cons_zero, List.set_cons_succ, i64_w, i32_w]; rfl)
              refine done_ (by kernel_rfl) ?_
              
              go_upto_region 29 with (fail)
              try any_goals (exfalso; omega)
              have hb := below_drew1 (Below.refl w165.heap.size w165)
              have HB_92 := lhid (below_then HBc5.out HBc5.out.size hb)
              have HT_93 := lhid (HTc5.out.next hb)
              have FM_94 := lhid (FMc5.out.next hb)
              have V_95 := lhid (blk_below Vc5.out hb)
              have XB_96 := lhid (blk_below XBc5.out hb)
              have HF_97 := lhid (fun k q => Nat.lt_of_lt_of_le (HF5.out k q) hb.size)
              clear HBc5 HTc5 FMc5 Vc5 XBc5 HF5 hb
              refine start_ (n := 22) (S := fun w' => w'.cell? ⟨sb, k, none⟩ = some (.slice Ab (R k).length cb) ∧ w'.cell? ⟨xb, k, none⟩ = some (.int .u64 s)) (ds := []) (lsb 22 0) (by kernel_rfl) rfl (by kernel_rfl) ⟨(by rw [← HVB.out]; exact (blk_cell V_95.out k).trans (VC_get V k hk4)), (sc_get XB_96.out HSL.out hk4 (by rw [HS.out, HSAL.out]))⟩ (fun hHeld => ?_)
              generalize w165.drew = w166 at HB_92 HT_93 FM_94 V_95 XB_96 HF_97 hHeld ⊢
              refine pure_ (i := 0) (N := some 162) (v := ?_) (a' := ?_) (lsb 22 1) rfl rfl (by as_aux_lemma => kernel_rfl) (fun _ _ _ h => h) (Or.inl ⟨by rfl, ?_⟩) ?_ ?_; rotate_left; (intro w'; go_simp; with_reducible rfl); rotate_left; (simp only [Act.put, List.setIfInBounds_toArray, List.set_cons_zero, List.set_cons_succ, i64_w, i32_w]; rfl)
              refine pure_ (i := 1) (N := some 163) (v := ?_) (a' := ?_) (lsb 22 3) rfl rfl (by as_aux_lemma => kernel_rfl) (fun _ _ _ h => h) (Or.inl ⟨by rfl, ?_⟩) ?_ ?_; rotate_left; (intro w'; go_simp; with_reducible rfl); rotate_left; (simp only [Act.put, List.setIfInBounds_toArray, List.set_cons_zero, List.set_cons_succ, i64_w, i32_w]; rfl)
              refine pure_ (i := 2) (N := some 164) (v := ?_) (a' := ?_) (lsb 22 7) rfl rfl (by as_aux_lemma => kernel_rfl) (fun _ _ _ h => h) (Or.inl ⟨by rfl, ?_⟩) ?_ ?_; rotate_left; (intro w'; go_simp; with_reducible rfl); rotate_left; (simp only [Act.put, List.setIfInBounds_toArray, List.set_cons_zero, List.set_cons_succ, i64_w, i32_w]; rfl)
              refine pure_ (i := 3) (N := some 165) (v := ?_) (a' := ?_) (lsb 22 15) rfl rfl (by as_aux_lemma => kernel_rfl) (fun _ _ _ h => h) (Or.inl ⟨by rfl, ?_⟩) ?_ ?_; rotate_left; (intro w'; go_simp; with_reducible rfl); rotate_left; (simp only [Act.put, List.setIfInBounds_toArray, List.set_cons_zero, List.set_cons_succ, i64_w, i32_w]; rfl)
              refine pure_ (i := 5) (N := some 167) (v := ?_) (a' := ?_) (lsb 22 47) rfl rfl (by as_aux_lemma => kernel_rfl) (fun _ _ _ h => h) (Or.inl ⟨by rfl, ?_⟩) ?_ ?_; rotate_left; (intro w'; go_simp; with_reducible rfl); rotate_left; (simp only [Act.put, List.setIfInBounds_toArray, List.set_cons_zero, List.set_cons_succ, i64_w, i32_w]; rfl)
              refine pure_ (i := 6) (N := some 168) (v := ?_) (a' := ?_) (lsb 22 111) rfl rfl (by as_aux_lemma => kernel_rfl) (fun _ _ _ h => h) (Or.inl ⟨by rfl, ?_⟩) ?_ ?_; rotate_left; (intro w'; go_simp; with_reducible rfl); rotate_left; (simp only [Act.put, List.setIfInBounds_toArray, List.set_cons_zero, List.set_cons_succ, i64_w, i32_w]; rfl)
              refine take_ (i := 4) (N := some 166) (v := ?_) (a' := ?_) (lsb 22 127) rfl rfl (by as_aux_lemma => kernel_rfl) (fun _ _ _ h => h) (Or.inl ⟨by rfl, ?_⟩) hHeld ?_ ?_; rotate_left; (rintro w' ⟨s0, s1⟩; go_simp; with_reducible rfl); rotate_left; (simp only [Act.put, List.setIfInBounds_toArray, List.set_cons_zero, List.set_cons_succ, i64_w, i32_w]; rfl)
              refine take_ (i := 7) (N := some 169) (v := ?_) (a' := ?_) (lsb 22 255) rfl rfl (by as_aux_lemma => kernel_rfl) (fun _ _ _ h => h) (Or.inl ⟨by rfl, ?_⟩) hHeld ?_ ?_; rotate_left; (rintro w' ⟨s0, s1⟩; go_simp; with_reducible rfl); rotate_left; (simp only [Act.put, List.setIfInBounds_toArray, List.set_cons_zero, List.set_cons_succ, i64_w, i32_w]; rfl)
              refine one_ (i := 8) (N := some 170) (lsb 22 511) rfl rfl (by kernel_rfl) (by decide) (fun K hK => ?_)
              refine goes_ Try.func37 (by kernel_rfl) rfl #[.pointer (some ⟨t, 0, none⟩), .int .i64 (k : Int), .slice Ab (R k).length cb, .int .u64 s] (by rfl) rfl rfl (by (try simp only [List.map_toArray, List.map_cons, List.map_nil]); first | done | rfl) ?_
              with_reducible refine (show_c0 HK.out HS.out HLO.out.1 HLO.out.2 HR5.out hlt HR2.out (HRA.out k) HT_93.out HF_97.out (FM_94.out.cc (j := k) (by omega) (upd_ne _ _ (by omega)) HVB.out).1 (FM_94.out.cc (j := k) (by omega) (upd_ne _ _ (by omega)) HVB.out).2 HS0.out).mono ?_
              rintro e w167 ⟨rfl, F8, vs8, ⟨ht, hF8⟩, hch⟩
              refine ⟨_, rfl, ?_⟩
              have HBc6 := lhid (HB_92.out.trans (hch.below HB_92.out.size (fun k q => by rw [q]; exact HTS.out.2.1)))
              have FMc6 := lhid (FM_94.out.far hch (fun k h1 h2 q => by have h3 := HTS.out; have h4 : k = t := q; omega))
              have Vc6 := lhid (hch.blk V_95.out (fun q => by have h3 := HTS.out; have h4 : sb = t := q; omega))
              have XBc6 := lhid (hch.blk XB_96.out (fun q => HTS.out.2.2.2.2 q))
              have HTc6 := lhid (ht)
              clear hch HB_92 HT_93 FM_94 V_95 XB_96
              have HF6 := lhid (hF8)
              clear HF_97 hF8 ht
              refine hK.out _ _ ⟨(by rw [← HVB.out]; exact (blk_cell Vc6.out k).trans (VC_get V k hk4)), (sc_get XBc6.out HSL.out hk4 (by rw [HS.out, HSAL.out]))⟩ (fun hHeld => ?_)
              clear hK K
              refine norm_ (a' := ?_) ?_ ?_
              rotate_left
              · show Act.put _ (some 170) _ = _
                simp only [Act.put, List.setIfInBounds_toArray, List.set_cons_zero, List.set_cons_succ, i64_w, i32_w]
                rfl
              refine pure_ (i := 9) (N := some 171) (v := ?_) (a' := ?_) (lsb 22 1023) rfl rfl (by as_aux_lemma => kernel_rfl) (fun _ _ _ h => h) (Or.inl ⟨by rfl, ?_⟩) ?_ ?_; rotate_left; (intro w'; go_simp; with_reducible rfl); rotate_left; (simp only [Act.put, List.setIfInBounds_toArray, List.set_cons_zero, List.set_cons_succ, i64_w, i32_w]; rfl)
              refine pure_ (i := 10) (N := some 172) (v := ?_) (a' := ?_) (lsb 22 2047) rfl rfl (by as_aux_lemma => kernel_rfl) (fun _ _ _ h => h) (Or.inl ⟨by rfl, ?_⟩) ?_ ?_; rotate_left; (intro w'; go_simp; with_reducible rfl); rotate_left; (simp only [Act.put, List.setIfInBounds_toArray, List.set_cons_zero, List.set_cons_succ, i64_w, i32_w]; rfl)
              refine pure_ (i := 11) (N := some 173) (v := ?_) (a' := ?_) (lsb 22 4095) rfl rfl (by as_aux_lemma => kernel_rfl) (fun _ _ _ h => h) (Or.inl ⟨by rfl, ?_⟩) ?_ ?_; rotate_left; (intro w'; go_simp; with_reducible rfl); rotate_left; (simp only [Act.put, List.setIfInBounds_toArray, List.set_cons_zero, List.set_cons_succ, i64_w, i32_w]; rfl)
              refine pure_ (i := 12) (N := some 174) (v := ?_) (a' := ?_) (lsb 22 8191) rfl rfl (by as_aux_lemma => kernel_rfl) (fun _ _ _ h => h) (Or.inl ⟨by rfl, ?_⟩) ?_ ?_; rotate_left; (intro w'; go_simp; with_reducible rfl); rotate_left; (simp only [Act.put, List.setIfInBounds_toArray, List.set_cons_zero, List.set_cons_succ, i64_w, i32_w]; rfl)
              refine pure_ (i := 13) (N := some 175) (v := ?_) (a' := ?_) (lsb 22 16383) rfl rfl (by as_aux_lemma => kernel_rfl) (fun _ _ _ h => h) (Or.inl ⟨by rfl, ?_⟩) ?_ ?_; rotate_left; (intro w'; go_simp; with_reducible rfl); rotate_left; (simp only [Act.put, List.setIfInBounds_toArray, List.set_cons_zero, List.set_cons_succ, i64_w, i32_w]; rfl)
              refine pure_ (i := 14) (N := some 176) (v := ?_) (a' := ?_) (lsb 22 32767) rfl rfl (by as_aux_lemma => kernel_rfl) (fun _ _ _ h => h) (Or.inl ⟨by rfl, ?_⟩) ?_ ?_; rotate_left; (intro w'; go_simp; with_reducible rfl); rotate_left; (simp only [Act.put, List.setIfInBounds_toArray, List.set_cons_zero, List.set_cons_succ, i64_w, i32_w]; rfl)
              refine pure_ (i := 16) (N := some 178) (v := ?_) (a' := ?_) (lsb 22 98303) rfl rfl (by as_aux_lemma => kernel_rfl) (fun _ _ _ h => h) (Or.inl ⟨by rfl, ?_⟩) ?_ ?_; rotate_left; (intro w'; go_simp; with_reducible rfl); rotate_left; (simp only [Act.put, List.setIfInBounds_toArray, List.set_cons_zero, List.set_cons_succ, i64_w, i32_w]; rfl)
              refine pure_ (i := 17) (N := some 179) (v := ?_) (a' := ?_) (lsb 22 229375) rfl rfl (by as_aux_lemma => kernel_rfl) (fun _ _ _ h => h) (Or.inl ⟨by rfl, ?_⟩) ?_ ?_; rotate_left; (intro w'; go_simp; with_reducible rfl); rotate_left; (simp only [Act.put, List.setIfInBounds_toArray, List.set_cons_zero, List.set_cons_succ, i64_w, i32_w]; rfl)
              refine take_ (i := 15) (N := some 177) (v := ?_) (a' := ?_) (lsb 22 262143) rfl rfl (by as_aux_lemma => kernel_rfl) (fun _ _ _ h => h) (Or.inl ⟨by rfl, ?_⟩) hHeld ?_ ?_; rotate_left; (rintro w' ⟨s0, s1⟩; go_simp; with_reducible rfl); rotate_left; (simp only [Act.put, List.setIfInBounds_toArray, List.set_cons_zero, List.set_cons_succ, i64_w, i32_w]; rfl)
              refine take_ (i := 18) (N := some 180) (v := ?_) (a' := ?_) (lsb 22 524287) rfl rfl (by as_aux_lemma => kernel_rfl) (fun _ _ _ h => h) (Or.inl ⟨by rfl, ?_⟩) hHeld ?_ ?_; rotate_left; (rintro w' ⟨s0, s1⟩; go_simp; with_reducible rfl); rotate_left; (simp only [Act.put, List.setIfInBounds_toArray, List.set_cons_zero, List.set_cons_succ, i64_w, i32_w]; rfl)
              refine one_ (i := 19) (N := some 181) (lsb 22 1048575) rfl rfl (by kernel_rfl) (by decide) (fun K hK => ?_)
              refine goes_ Try.func37 (by kernel_rfl) rfl #[.pointer (some ⟨t, 0, none⟩), .int .i64 (k : Int), .slice Ab (R k).length cb, .int .u64 s] (by rfl) rfl rfl (by (try simp only [List.map_toArray, List.map_cons, List.map_nil]); first | done | rfl) ?_
              with_reducible refine (show_c7 HK.out HLO.out.1 HLO.out.2 HR5.out HR2.out HTc6.out HF6.out (FMc6.out.cc (j := k) (by omega) (upd_ne _ _ (by omega)) HVB.out).1 (FMc6.out.cc (j := k) (by omega) (upd_ne _ _ (by omega)) HVB.out).2 HS0.out).mono ?_
              rintro e w168 ⟨rfl, F9, ⟨ht, hF9⟩, hch⟩
              refine ⟨_, rfl, ?_⟩
              have HBc7 := lhid (HBc6.out.trans (hch.below HBc6.out.size (fun k q => by rw [q]; exact HTS.out.2.1)))
              have FMc7 := lhid (FMc6.out.far hch (fun k h1 h2 q => by have h3 := HTS.out; have h4 : k = t := q; omega))
              have Vc7 := lhid (hch.blk Vc6.out (fun q => by have h3 := HTS.out; have h4 : sb = t := q; omega))
              have XBc7 := lhid (hch.blk XBc6.out (fun q => HTS.out.2.2.2.2 q))
              have HTc7 := lhid (ht)
              clear hch HBc6 HTc6 FMc6 Vc6 XBc6
              have HF7 := lhid (hF9)
              clear HF6 hF9 ht
              refine hK.out _ _ ⟨(by rw [← HVB.out]; exact (blk_cell Vc7.out k).trans (VC_get V k hk4)), (sc_get XBc7.out HSL.out hk4 (by rw [HS.out, HSAL.out]))⟩ (fun hHeld => ?_)
              clear hK K
              refine norm_ (a' := ?_) ?_ ?_
              rotate_left
              · show Act.put _ (some 181) _ = _
                simp only [Act.put, List.setIfInBounds_toArray, List.set_cons_zero, List.set_cons_succ, i64_w, i32_w]
                rfl
              refine pure_ (i := 20) (N := some 182) (v := ?_) (a' := ?_) (lsb 22 2097151) rfl rfl (by as_aux_lemma => kernel_rfl) (fun _ _ _ h => h) (Or.inl ⟨by rfl, ?_⟩) ?_ ?_; rotate_left; (intro w'; go_simp; with_reducible rfl); rotate_left; (simp only [Act.put, List.setIfInBounds_toArray, List.set_cons_zero, List.set_cons_succ, i64_w, i32_w]; rfl)
              refine pure_ (i := 21) (N := some 183) (v := ?_) (a' := ?_) (lsb 22 4194303) rfl rfl (by as_aux_lemma => kernel_rfl) (fun _ _ _ h => h) (Or.inl ⟨by rfl, ?_⟩) ?_ ?_; rotate_left; (intro w'; go_simp; with_reducible rfl); rotate_left; (simp only [Act.put, List.setIfInBounds_toArray, List.set_cons_zero, List.set_cons_succ, i64_w, i32_w]; rfl)
              refine done_ (by kernel_rfl) ?_
              
              go_wp2_with fail
              try any_goals (exfalso; omega)
              go_roundw
              case rel => first | exact ⟨b + 1, by omega, by simp, F9, vs8, HF7, HTc7, FMc7, Vc7, XBc7, HBc7⟩ | ((repeat apply Exists.intro); refine ⟨?_, rfl⟩; exact ⟨b + 1, by omega, by simp, F9, vs8, HF7, HTc7, FMc7, Vc7, XBc7, HBc7⟩)
              case measure => simp [intOf]; omega
          · have hb := below_drew1 (Below.refl wr.heap.size wr)
            have HB_98 := lhid (below_then HBr.out HBr.out.size hb)
            have HT_99 := lhid (HTr.out.next hb)
            have FM_100 := lhid (FMr.out.next hb)
            have V_101 := lhid (blk_below Vr.out hb)
            have XB_102 := lhid (blk_below XBr.out hb)
            have HF_103 := lhid (fun k q => Nat.lt_of_lt_of_le (HFr.out k q) hb.size)
            clear HBr HTr FMr Vr XBr HFr hb
            refine start_ (n := 31) (S := fun w' => w'.cell? ⟨sb, k, none⟩ = some (.slice Ab (R k).length cb) ∧ w'.cell? ⟨xb, k, none⟩ = some (.int .u64 s)) (ds := []) (lsb 31 0) (by kernel_rfl) rfl (by kernel_rfl) ⟨(by rw [← HVB.out]; exact (blk_cell V_101.out k).trans (VC_get V k hk4)), (sc_get XB_102.out HSL.out hk4 (by rw [HS.out, HSAL.out]))⟩ (fun hHeld => ?_)
            generalize wr.drew = w161 at HB_98 HT_99 FM_100 V_101 XB_102 HF_103 hHeld ⊢
            refine pure_ (i := 0) (N := some 131) (v := ?_) (a' := ?_) (lsb 31 1) rfl rfl (by as_aux_lemma => kernel_rfl) (fun _ _ _ h => h) (Or.inl ⟨by rfl, ?_⟩) ?_ ?_; rotate_left; (intro w'; go_simp; with_reducible rfl); rotate_left; (simp only [Act.put, List.setIfInBounds_toArray, List.set_cons_zero, List.set_cons_succ, i64_w, i32_w]; rfl)
            refine pure_ (i := 1) (N := some 132) (v := ?_) (a' := ?_) (lsb 31 3) rfl rfl (by as_aux_lemma => kernel_rfl) (fun _ _ _ h => h) (Or.inl ⟨by rfl, ?_⟩) ?_ ?_; rotate_left; (intro w'; go_simp; with_reducible rfl); rotate_left; (simp only [Act.put, List.setIfInBounds_toArray, List.set_cons_zero, List.set_cons_succ, i64_w, i32_w]; rfl)
            refine pure_ (i := 2) (N := some 133) (v := ?_) (a' := ?_) (lsb 31 7) rfl rfl (by as_aux_lemma => kernel_rfl) (fun _ _ _ h => h) (Or.inl ⟨by rfl, ?_⟩) ?_ ?_; rotate_left; (intro w'; go_simp; with_reducible rfl); rotate_left; (simp only [Act.put, List.setIfInBounds_toArray, List.set_cons_zero, List.set_cons_succ, i64_w, i32_w]; rfl)
            refine take_ (i := 3) (N := some 134) (v := ?_) (a' := ?_) (lsb 31 15) rfl rfl (by as_aux_lemma => kernel_rfl) (fun _ _ _ h => h) (Or.inl ⟨by rfl, ?_⟩) hHeld ?_ ?_; rotate_left; (rintro w' ⟨s0, s1⟩; go_simp; with_reducible rfl); rotate_left; (simp only [Act.put, List.setIfInBounds_toArray, List.set_cons_zero, List.set_cons_succ, i64_w, i32_w]; rfl)
            refine one_ (i := 4) (N := some 135) (lsb 31 31) rfl rfl (by kernel_rfl) (by decide) (fun K hK => ?_)
            refine goes_ Try.func20 (by kernel_rfl) rfl #[.slice A3 ot.length c3, .slice Ab (R k).length cb] (by rfl) rfl rfl (by (try simp only [List.map_toArray, List.map_cons, List.map_nil]); first | done | rfl) ?_
            with_reducible refine (kimberlitelaw05_offers.calls kk A3 c3 ot Ab cb (R k) true w161 (Kd.C_below HCO.out HB_98.out) HOC.out (FM_100.out.cc (j := k) (by omega) (upd_ne _ _ (by omega)) HVB.out).1 (FM_100.out.cc (j := k) (by omega) (upd_ne _ _ (by omega)) HVB.out).2 HKK.out).mono ?_
            rintro e w162 ⟨rfl, nd, hq⟩
            refine ⟨_, rfl, ?_⟩
            have hb := pw_below_drewN (Below.refl w161.heap.size w161) nd
            rw [← hq] at hb
            clear hq
            have HB_104 := lhid (below_then HB_98.out HB_98.out.size hb)
            have HT_105 := lhid (HT_99.out.next hb)
            have FM_106 := lhid (FM_100.out.next hb)
            have V_107 := lhid (blk_below V_101.out hb)
            have XB_108 := lhid (blk_below XB_102.out hb)
            have HF_109 := lhid (fun k q => Nat.lt_of_lt_of_le (HF_103.out k q) hb.size)
            clear HB_98 HT_99 FM_100 V_101 XB_102 HF_103 hb
            refine hK.out _ _ ⟨(by rw [← HVB.out]; exact (blk_cell V_107.out k).trans (VC_get V k hk4)), (sc_get XB_108.out HSL.out hk4 (by rw [HS.out, HSAL.out]))⟩ (fun hHeld => ?_)
            clear hK K
            refine norm_ (a' := ?_) ?_ ?_
            rotate_left
            · show Act.put _ (some 135) _ = _
              simp only [Act.put, List.setIfInBounds_toArray, List.set_cons_zero, List.set_cons_succ, i64_w, i32_w]
              rfl
            refine pure_ (i := 5) (N := some 136) (v := ?_) (a' := ?_) (lsb 31 63) rfl rfl (by as_aux_lemma => kernel_rfl) (fun _ _ _ h => h) (Or.inl ⟨by rfl, ?_⟩) ?_ ?_; rotate_left; (intro w'; go_simp; with_reducible rfl); rotate_left; (simp only [Act.put, List.setIfInBounds_toArray, List.set_cons_zero, List.set_cons_succ, i64_w, i32_w]; rfl)
            refine pure_ (i := 6) (N := some 137) (v := ?_) (a' := ?_) (lsb 31 127) rfl rfl (by as_aux_lemma => kernel_rfl) (fun _ _ _ h => h) (Or.inl ⟨by rfl, ?_⟩) ?_ ?_; rotate_left; (intro w'; go_simp; with_reducible rfl); rotate_left; (simp only [Act.put, List.setIfInBounds_toArray, List.set_cons_zero, List.set_cons_succ, i64_w, i32_w]; rfl)
            refine pure_ (i := 7) (N := some 138) (v := undef) (a' := ?_) (lsb 31 255) rfl rfl (by as_aux_lemma => kernel_rfl) (fun _ _ _ h => h) (Or.inr ⟨by rfl, rfl⟩) ?_ ?_; rotate_left; (simp only [Act.put, List.setIfInBounds_toArray, List.set_cons_zero, List.set_cons_succ, i64_w, i32_w]; rfl)
            refine pure_ (i := 8) (N := some 139) (v := undef) (a' := ?_) (lsb 31 511) rfl rfl (by as_aux_lemma => kernel_rfl) (fun _ _ _ h => h) (Or.inr ⟨by rfl, rfl⟩) ?_ ?_; rotate_left; (simp only [Act.put, List.setIfInBounds_toArray, List.set_cons_zero, List.set_cons_succ, i64_w, i32_w]; rfl)
            refine pure_ (i := 9) (N := some 140) (v := undef) (a' := ?_) (lsb 31 1023) rfl rfl (by as_aux_lemma => kernel_rfl) (fun _ _ _ h => h) (Or.inr ⟨by rfl, rfl⟩) ?_ ?_; rotate_left; (simp only [Act.put, List.setIfInBounds_toArray, List.set_cons_zero, List.set_cons_succ, i64_w, i32_w]; rfl)
            refine pure_ (i := 10) (N := some 141) (v := undef) (a' := ?_) (lsb 31 2047) rfl rfl (by as_aux_lemma => kernel_rfl) (fun _ _ _ h => h) (Or.inr ⟨by rfl, rfl⟩) ?_ ?_; rotate_left; (simp only [Act.put, List.setIfInBounds_toArray, List.set_cons_zero, List.set_cons_succ, i64_w, i32_w]; rfl)
            refine pure_ (i := 11) (N := some 142) (v := undef) (a' := ?_) (lsb 31 4095) rfl rfl (by as_aux_lemma => kernel_rfl) (fun _ _ _ h => h) (Or.inr ⟨by rfl, rfl⟩) ?_ ?_; rotate_left; (simp only [Act.put, List.setIfInBounds_toArray, List.set_cons_zero, List.set_cons_succ, i64_w, i32_w]; rfl)
            refine pure_ (i := 12) (N := some 143) (v := undef) (a' := ?_) (lsb 31 8191) rfl rfl (by as_aux_lemma => kernel_rfl) (fun _ _ _ h => h) (Or.inr ⟨by rfl, rfl⟩) ?_ ?_; rotate_left; (simp only [Act.put, List.setIfInBounds_toArray, List.set_cons_zero, List.set_cons_succ, i64_w, i32_w]; rfl)
            refine pure_ (i := 13) (N := some 144) (v := undef) (a' := ?_) (lsb 31 16383) rfl rfl (by as_aux_lemma => kernel_rfl) (fun _ _ _ h => h) (Or.inr ⟨by rfl, rfl⟩) ?_ ?_; rotate_left; (simp only [Act.put, List.setIfInBounds_toArray, List.set_cons_zero, List.set_cons_succ, i64_w, i32_w]; rfl)
            refine pure_ (i := 14) (N := some 145) (v := undef) (a' := ?_) (lsb 31 32767) rfl rfl (by as_aux_lemma => kernel_rfl) (fun _ _ _ h => h) (Or.inr ⟨by rfl, rfl⟩) ?_ ?_; rotate_left; (simp only [Act.put, List.setIfInBounds_toArray, List.set_cons_zero, List.set_cons_succ, i64_w, i32_w]; rfl)
            refine pure_ (i := 15) (N := some 146) (v := undef) (a' := ?_) (lsb 31 65535) rfl rfl (by as_aux_lemma => kernel_rfl) (fun _ _ _ h => h) (Or.inr ⟨by rfl, rfl⟩) ?_ ?_; rotate_left; (simp only [Act.put, List.setIfInBounds_toArray, List.set_cons_zero, List.set_cons_succ, i64_w, i32_w]; rfl)
            refine pure_ (i := 16) (N := some 147) (v := undef) (a' := ?_) (lsb 31 131071) rfl rfl (by as_aux_lemma => kernel_rfl) (fun _ _ _ h => h) (Or.inr ⟨by rfl, rfl⟩) ?_ ?_; rotate_left; (simp only [Act.put, List.setIfInBounds_toArray, List.set_cons_zero, List.set_cons_succ, i64_w, i32_w]; rfl)
            refine pure_ (i := 17) (N := some 148) (v := undef) (a' := ?_) (lsb 31 262143) rfl rfl (by as_aux_lemma => kernel_rfl) (fun _ _ _ h => h) (Or.inr ⟨by rfl, rfl⟩) ?_ ?_; rotate_left; (simp only [Act.put, List.setIfInBounds_toArray, List.set_cons_zero, List.set_cons_succ, i64_w, i32_w]; rfl)
            refine pure_ (i := 18) (N := some 149) (v := undef) (a' := ?_) (lsb 31 524287) rfl rfl (by as_aux_lemma => kernel_rfl) (fun _ _ _ h => h) (Or.inr ⟨by rfl, rfl⟩) ?_ ?_; rotate_left; (simp only [Act.put, List.setIfInBounds_toArray, List.set_cons_zero, List.set_cons_succ, i64_w, i32_w]; rfl)
            refine pure_ (i := 19) (N := some 150) (v := undef) (a' := ?_) (lsb 31 1048575) rfl rfl (by as_aux_lemma => kernel_rfl) (fun _ _ _ h => h) (Or.inr ⟨by rfl, rfl⟩) ?_ ?_; rotate_left; (simp only [Act.put, List.setIfInBounds_toArray, List.set_cons_zero, List.set_cons_succ, i64_w, i32_w]; rfl)
            refine pure_ (i := 20) (N := some 151) (v := ?_) (a' := ?_) (lsb 31 2097151) rfl rfl (by as_aux_lemma => kernel_rfl) (fun _ _ _ h => h) (Or.inl ⟨by rfl, ?_⟩) ?_ ?_; rotate_left; (intro w'; go_simp; with_reducible rfl); rotate_left; (simp only [Act.put, List.setIfInBounds_toArray, List.set_cons_zero, List.set_cons_succ, i64_w, i32_w]; rfl)
            refine pure_ (i := 21) (N := some 152) (v := ?_) (a' := ?_) (lsb 31 4194303) rfl rfl (by as_aux_lemma => kernel_rfl) (fun _ _ _ h => h) (Or.inl ⟨by rfl, ?_⟩) ?_ ?_; rotate_left; (intro w'; go_simp; with_reducible rfl); rotate_left; (simp only [Act.put, List.setIfInBounds_toArray, List.set_cons_zero, List.set_cons_succ, i64_w, i32_w]; rfl)
            refine pure_ (i := 22) (N := some 153) (v := undef) (a' := ?_) (lsb 31 8388607) rfl rfl (by as_aux_lemma => kernel_rfl) (fun _ _ _ h => h) (Or.inr ⟨by rfl, rfl⟩) ?_ ?_; rotate_left; (simp only [Act.put, List.setIfInBounds_toArray, List.set_cons_zero, List.set_cons_succ, i64_w, i32_w]; rfl)
            refine pure_ (i := 23) (N := some 154) (v := undef) (a' := ?_) (lsb 31 16777215) rfl rfl (by as_aux_lemma => kernel_rfl) (fun _ _ _ h => h) (Or.inr ⟨by rfl, rfl⟩) ?_ ?_; rotate_left; (simp only [Act.put, List.setIfInBounds_toArray, List.set_cons_zero, List.set_cons_succ, i64_w, i32_w]; rfl)
            refine pure_ (i := 24) (N := some 155) (v := undef) (a' := ?_) (lsb 31 33554431) rfl rfl (by as_aux_lemma => kernel_rfl) (fun _ _ _ h => h) (Or.inr ⟨by rfl, rfl⟩) ?_ ?_; rotate_left; (simp only [Act.put, List.setIfInBounds_toArray, List.set_cons_zero, List.set_cons_succ, i64_w, i32_w]; rfl)
            refine pure_ (i := 25) (N := some 156) (v := undef) (a' := ?_) (lsb 31 67108863) rfl rfl (by as_aux_lemma => kernel_rfl) (fun _ _ _ h => h) (Or.inr ⟨by rfl, rfl⟩) ?_ ?_; rotate_left; (simp only [Act.put, List.setIfInBounds_toArray, List.set_cons_zero, List.set_cons_succ, i64_w, i32_w]; rfl)
            refine pure_ (i := 26) (N := some 157) (v := undef) (a' := ?_) (lsb 31 134217727) rfl rfl (by as_aux_lemma => kernel_rfl) (fun _ _ _ h => h) (Or.inr ⟨by rfl, rfl⟩) ?_ ?_; rotate_left; (simp only [Act.put, List.setIfInBounds_toArray, List.set_cons_zero, List.set_cons_succ, i64_w, i32_w]; rfl)
            refine pure_ (i := 27) (N := some 158) (v := undef) (a' := ?_) (lsb 31 268435455) rfl rfl (by as_aux_lemma => kernel_rfl) (fun _ _ _ h => h) (Or.inr ⟨by rfl, rfl⟩) ?_ ?_; rotate_left; (simp only [Act.put, List.setIfInBounds_toArray, List.set_cons_zero, List.set_cons_succ, i64_w, i32_w]; rfl)
            refine pure_ (i := 28) (N := some 159) (v := undef) (a' := ?_) (lsb 31 536870911) rfl rfl (by as_aux_lemma => kernel_rfl) (fun _ _ _ h => h) (Or.inr ⟨by rfl, rfl⟩) ?_ ?_; rotate_left; (simp only [Act.put, List.setIfInBounds_toArray, List.set_cons_zero, List.set_cons_succ, i64_w, i32_w]; rfl)
            refine pure_ (i := 29) (N := some 160) (v := undef) (a' := ?_) (lsb 31 1073741823) rfl rfl (by as_aux_lemma => kernel_rfl) (fun _ _ _ h => h) (Or.inr ⟨by rfl, rfl⟩) ?_ ?_; rotate_left; (simp only [Act.put, List.setIfInBounds_toArray, List.set_cons_zero, List.set_cons_succ, i64_w, i32_w]; rfl)
            refine pure_ (i := 30) (N := some 161) (v := ?_) (a' := ?_) (lsb 31 2147483647) rfl rfl (by as_aux_lemma => kernel_rfl) (fun _ _ _ h => h) (Or.inl ⟨by rfl, ?_⟩) ?_ ?_; rotate_left; (intro w'; go_simp; with_reducible rfl); rotate_left; (simp only [Act.put, List.setIfInBounds_toArray, List.set_cons_zero, List.set_cons_succ, i64_w, i32_w]; rfl)
            refine done_ (by kernel_rfl) ?_
            
            go_upto_region 29 with (fail)
            try any_goals (exfalso; omega)
            have hb := below_drew1 (Below.refl w162.heap.size w162)
            have HB_110 := lhid (below_then HB_104.out HB_104.out.size hb)
            have HT_111 := lhid (HT_105.out.next hb)
            have FM_112 := lhid (FM_106.out.next hb)
            have V_113 := lhid (blk_below V_107.out hb)
            have XB_114 := lhid (blk_below XB_108.out hb)
            have HF_115 := lhid (fun k q => Nat.lt_of_lt_of_le (HF_109.out k q) hb.size)
            clear HB_104 HT_105 FM_106 V_107 XB_108 HF_109 hb
            refine start_ (n := 22) (S := fun w' => w'.cell? ⟨sb, k, none⟩ = some (.slice Ab (R k).length cb) ∧ w'.cell? ⟨xb, k, none⟩ = some (.int .u64 s)) (ds := []) (lsb 22 0) (by kernel_rfl) rfl (by kernel_rfl) ⟨(by rw [← HVB.out]; exact (blk_cell V_113.out k).trans (VC_get V k hk4)), (sc_get XB_114.out HSL.out hk4 (by rw [HS.out, HSAL.out]))⟩ (fun hHeld => ?_)
            generalize w162.drew = w163 at HB_110 HT_111 FM_112 V_113 XB_114 HF_115 hHeld ⊢
            refine pure_ (i := 0) (N := some 162) (v := ?_) (a' := ?_) (lsb 22 1) rfl rfl (by as_aux_lemma => kernel_rfl) (fun _ _ _ h => h) (Or.inl ⟨by rfl, ?_⟩) ?_ ?_; rotate_left; (intro w'; go_simp; with_reducible rfl); rotate_left; (simp only [Act.put, List.setIfInBounds_toArray, List.set_cons_zero, List.set_cons_succ, i64_w, i32_w]; rfl)
            refine pure_ (i := 1) (N := some 163) (v := ?_) (a' := ?_) (lsb 22 3) rfl rfl (by as_aux_lemma => kernel_rfl) (fun _ _ _ h => h) (Or.inl ⟨by rfl, ?_⟩) ?_ ?_; rotate_left; (intro w'; go_simp; with_reducible rfl); rotate_left; (simp only [Act.put, List.setIfInBounds_toArray, List.set_cons_zero, List.set_cons_succ, i64_w, i32_w]; rfl)
            refine pure_ (i := 2) (N := some 164) (v := ?_) (a' := ?_) (lsb 22 7) rfl rfl (by as_aux_lemma => kernel_rfl) (fun _ _ _ h => h) (Or.inl ⟨by rfl, ?_⟩) ?_ ?_; rotate_left; (intro w'; go_simp; with_reducible rfl); rotate_left; (simp only [Act.put, List.setIfInBounds_toArray, List.set_cons_zero, List.set_cons_succ, i64_w, i32_w]; rfl)
            refine pure_ (i := 3) (N := some 165) (v := ?_) (a' := ?_) (lsb 22 15) rfl rfl (by as_aux_lemma => kernel_rfl) (fun _ _ _ h => h) (Or.inl ⟨by rfl, ?_⟩) ?_ ?_; rotate_left; (intro w'; go_simp; with_reducible rfl); rotate_left; (simp only [Act.put, List.setIfInBounds_toArray, List.set_cons_zero, List.set_cons_succ, i64_w, i32_w]; rfl)
            refine pure_ (i := 5) (N := some 167) (v := ?_) (a' := ?_) (lsb 22 47) rfl rfl (by as_aux_lemma => kernel_rfl) (fun _ _ _ h => h) (Or.inl ⟨by rfl, ?_⟩) ?_ ?_; rotate_left; (intro w'; go_simp; with_reducible rfl); rotate_left; (simp only [Act.put, List.setIfInBounds_toArray, List.set_cons_zero, List.set_cons_succ, i64_w, i32_w]; rfl)
            refine pure_ (i := 6) (N := some 168) (v := ?_) (a' := ?_) (lsb 22 111) rfl rfl (by as_aux_lemma => kernel_rfl) (fun _ _ _ h => h) (Or.inl ⟨by rfl, ?_⟩) ?_ ?_; rotate_left; (intro w'; go_simp; with_reducible rfl); rotate_left; (simp only [Act.put, List.setIfInBounds_toArray, List.set_cons_zero, List.set_cons_succ, i64_w, i32_w]; rfl)
            refine take_ (i := 4) (N := some 166) (v := ?_) (a' := ?_) (lsb 22 127) rfl rfl (by as_aux_lemma => kernel_rfl) (fun _ _ _ h => h) (Or.inl ⟨by rfl, ?_⟩) hHeld ?_ ?_; rotate_left; (rintro w' ⟨s0, s1⟩; go_simp; with_reducible rfl); rotate_left; (simp only [Act.put, List.setIfInBounds_toArray, List.set_cons_zero, List.set_cons_succ, i64_w, i32_w]; rfl)
            refine take_ (i := 7) (N := some 169) (v := ?_) (a' := ?_) (lsb 22 255) rfl rfl (by as_aux_lemma => kernel_rfl) (fun _ _ _ h => h) (Or.inl ⟨by rfl, ?_⟩) hHeld ?_ ?_; rotate_left; (rintro w' ⟨s0, s1⟩; go_simp; with_reducible rfl); rotate_left; (simp only [Act.put, List.setIfInBounds_toArray, List.set_cons_zero, List.set_cons_succ, i64_w, i32_w]; rfl)
            refine one_ (i := 8) (N := some 170) (lsb 22 511) rfl rfl (by kernel_rfl) (by decide) (fun K hK => ?_)
            refine goes_ Try.func37 (by kernel_rfl) rfl #[.pointer (some ⟨t, 0, none⟩), .int .i64 (k : Int), .slice Ab (R k).length cb, .int .u64 s] (by rfl) rfl rfl (by (try simp only [List.map_toArray, List.map_cons, List.map_nil]); first | done | rfl) ?_
            with_reducible refine (show_c0 HK.out HS.out HLO.out.1 HLO.out.2 HR5.out hlt HR2.out (HRA.out k) HT_111.out HF_115.out (FM_112.out.cc (j := k) (by omega) (upd_ne _ _ (by omega)) HVB.out).1 (FM_112.out.cc (j := k) (by omega) (upd_ne _ _ (by omega)) HVB.out).2 HS0.out).mono ?_
            rintro e w164 ⟨rfl, F8, vs8, ⟨ht, hF8⟩, hch⟩
            refine ⟨_, rfl, ?_⟩
            have HBc8 := lhid (HB_110.out.trans (hch.below HB_110.out.size (fun k q => by rw [q]; exact HTS.out.2.1)))
            have FMc8 := lhid (FM_112.out.far hch (fun k h1 h2 q => by have h3 := HTS.out; have h4 : k = t := q; omega))
            have Vc8 := lhid (hch.blk V_113.out (fun q => by have h3 := HTS.out; have h4 : sb = t := q; omega))
            have XBc8 := lhid (hch.blk XB_114.out (fun q => HTS.out.2.2.2.2 q))
            have HTc8 := lhid (ht)
            clear hch HB_110 HT_111 FM_112 V_113 XB_114
            have HF8 := lhid (hF8)
            clear HF_115 hF8 ht
            refine hK.out _ _ ⟨(by rw [← HVB.out]; exact (blk_cell Vc8.out k).trans (VC_get V k hk4)), (sc_get XBc8.out HSL.out hk4 (by rw [HS.out, HSAL.out]))⟩ (fun hHeld => ?_)
            clear hK K
            refine norm_ (a' := ?_) ?_ ?_
            rotate_left
            · show Act.put _ (some 170) _ = _
              simp only [Act.put, List.setIfInBounds_toArray, List.set_cons_zero, List.set_cons_succ, i64_w, i32_w]
              rfl
            refine pure_ (i := 9) (N := some 171) (v := ?_) (a' := ?_) (lsb 22 1023) rfl rfl (by as_aux_lemma => kernel_rfl) (fun _ _ _ h => h) (Or.inl ⟨by rfl, ?_⟩) ?_ ?_; rotate_left; (intro w'; go_simp; with_reducible rfl); rotate_left; (simp only [Act.put, List.setIfInBounds_toArray, List.set_cons_zero, List.set_cons_succ, i64_w, i32_w]; rfl)
            refine pure_ (i := 10) (N := some 172) (v := ?_) (a' := ?_) (lsb 22 2047) rfl rfl (by as_aux_lemma => kernel_rfl) (fun _ _ _ h => h) (Or.inl ⟨by rfl, ?_⟩) ?_ ?_; rotate_left; (intro w'; go_simp; with_reducible rfl); rotate_left; (simp only [Act.put, List.setIfInBounds_toArray, List.set_cons_zero, List.set_cons_succ, i64_w, i32_w]; rfl)
            refine pure_ (i := 11) (N := some 173) (v := ?_) (a' := ?_) (lsb 22 4095) rfl rfl (by as_aux_lemma => kernel_rfl) (fun _ _ _ h => h) (Or.inl ⟨by rfl, ?_⟩) ?_ ?_; rotate_left; (intro w'; go_simp; with_reducible rfl); rotate_left; (simp only [Act.put, List.setIfInBounds_toArray, List.set_cons_zero, List.set_cons_succ, i64_w, i32_w]; rfl)
            refine pure_ (i := 12) (N := some 174) (v := ?_) (a' := ?_) (lsb 22 8191) rfl rfl (by as_aux_lemma => kernel_rfl) (fun _ _ _ h => h) (Or.inl ⟨by rfl, ?_⟩) ?_ ?_; rotate_left; (intro w'; go_simp; with_reducible rfl); rotate_left; (simp only [Act.put, List.setIfInBounds_toArray, List.set_cons_zero, List.set_cons_succ, i64_w, i32_w]; rfl)
            refine pure_ (i := 13) (N := some 175) (v := ?_) (a' := ?_) (lsb 22 16383) rfl rfl (by as_aux_lemma => kernel_rfl) (fun _ _ _ h => h) (Or.inl ⟨by rfl, ?_⟩) ?_ ?_; rotate_left; (intro w'; go_simp; with_reducible rfl); rotate_left; (simp only [Act.put, List.setIfInBounds_toArray, List.set_cons_zero, List.set_cons_succ, i64_w, i32_w]; rfl)
            refine pure_ (i := 14) (N := some 176) (v := ?_) (a' := ?_) (lsb 22 32767) rfl rfl (by as_aux_lemma => kernel_rfl) (fun _ _ _ h => h) (Or.inl ⟨by rfl, ?_⟩) ?_ ?_; rotate_left; (intro w'; go_simp; with_reducible rfl); rotate_left; (simp only [Act.put, List.setIfInBounds_toArray, List.set_cons_zero, List.set_cons_succ, i64_w, i32_w]; rfl)
            refine pure_ (i := 16) (N := some 178) (v := ?_) (a' := ?_) (lsb 22 98303) rfl rfl (by as_aux_lemma => kernel_rfl) (fun _ _ _ h => h) (Or.inl ⟨by rfl, ?_⟩) ?_ ?_; rotate_left; (intro w'; go_simp; with_reducible rfl); rotate_left; (simp only [Act.put, List.setIfInBounds_toArray, List.set_cons_zero, List.set_cons_succ, i64_w, i32_w]; rfl)
            refine pure_ (i := 17) (N := some 179) (v := ?_) (a' := ?_) (lsb 22 229375) rfl rfl (by as_aux_lemma => kernel_rfl) (fun _ _ _ h => h) (Or.inl ⟨by rfl, ?_⟩) ?_ ?_; rotate_left; (intro w'; go_simp; with_reducible rfl); rotate_left; (simp only [Act.put, List.setIfInBounds_toArray, List.set_cons_zero, List.set_cons_succ, i64_w, i32_w]; rfl)
            refine take_ (i := 15) (N := some 177) (v := ?_) (a' := ?_) (lsb 22 262143) rfl rfl (by as_aux_lemma => kernel_rfl) (fun _ _ _ h => h) (Or.inl ⟨by rfl, ?_⟩) hHeld ?_ ?_; rotate_left; (rintro w' ⟨s0, s1⟩; go_simp; with_reducible rfl); rotate_left; (simp only [Act.put, List.setIfInBounds_toArray, List.set_cons_zero, List.set_cons_succ, i64_w, i32_w]; rfl)
            refine take_ (i := 18) (N := some 180) (v := ?_) (a' := ?_) (lsb 22 524287) rfl rfl (by as_aux_lemma => kernel_rfl) (fun _ _ _ h => h) (Or.inl ⟨by rfl, ?_⟩) hHeld ?_ ?_; rotate_left; (rintro w' ⟨s0, s1⟩; go_simp; with_reducible rfl); rotate_left; (simp only [Act.put, List.setIfInBounds_toArray, List.set_cons_zero, List.set_cons_succ, i64_w, i32_w]; rfl)
            refine one_ (i := 19) (N := some 181) (lsb 22 1048575) rfl rfl (by kernel_rfl) (by decide) (fun K hK => ?_)
            refine goes_ Try.func37 (by kernel_rfl) rfl #[.pointer (some ⟨t, 0, none⟩), .int .i64 (k : Int), .slice Ab (R k).length cb, .int .u64 s] (by rfl) rfl rfl (by (try simp only [List.map_toArray, List.map_cons, List.map_nil]); first | done | rfl) ?_
            with_reducible refine (show_c7 HK.out HLO.out.1 HLO.out.2 HR5.out HR2.out HTc8.out HF8.out (FMc8.out.cc (j := k) (by omega) (upd_ne _ _ (by omega)) HVB.out).1 (FMc8.out.cc (j := k) (by omega) (upd_ne _ _ (by omega)) HVB.out).2 HS0.out).mono ?_
            rintro e w165 ⟨rfl, F9, ⟨ht, hF9⟩, hch⟩
            refine ⟨_, rfl, ?_⟩
            have HBc9 := lhid (HBc8.out.trans (hch.below HBc8.out.size (fun k q => by rw [q]; exact HTS.out.2.1)))
            have FMc9 := lhid (FMc8.out.far hch (fun k h1 h2 q => by have h3 := HTS.out; have h4 : k = t := q; omega))
            have Vc9 := lhid (hch.blk Vc8.out (fun q => by have h3 := HTS.out; have h4 : sb = t := q; omega))
            have XBc9 := lhid (hch.blk XBc8.out (fun q => HTS.out.2.2.2.2 q))
            have HTc9 := lhid (ht)
            clear hch HBc8 HTc8 FMc8 Vc8 XBc8
            have HF9 := lhid (hF9)
            clear HF8 hF9 ht
            refine hK.out _ _ ⟨(by rw [← HVB.out]; exact (blk_cell Vc9.out k).trans (VC_get V k hk4)), (sc_get XBc9.out HSL.out hk4 (by rw [HS.out, HSAL.out]))⟩ (fun hHeld => ?_)
            clear hK K
            refine norm_ (a' := ?_) ?_ ?_
            rotate_left
            · show Act.put _ (some 181) _ = _
              simp only [Act.put, List.setIfInBounds_toArray, List.set_cons_zero, List.set_cons_succ, i64_w, i32_w]
              rfl
            refine pure_ (i := 20) (N := some 182) (v := ?_) (a' := ?_) (lsb 22 2097151) rfl rfl (by as_aux_lemma => kernel_rfl) (fun _ _ _ h => h) (Or.inl ⟨by rfl, ?_⟩) ?_ ?_; rotate_left; (intro w'; go_simp; with_reducible rfl); rotate_left; (simp only [Act.put, List.setIfInBounds_toArray, List.set_cons_zero, List.set_cons_succ, i64_w, i32_w]; rfl)
            refine pure_ (i := 21) (N := some 183) (v := ?_) (a' := ?_) (lsb 22 4194303) rfl rfl (by as_aux_lemma => kernel_rfl) (fun _ _ _ h => h) (Or.inl ⟨by rfl, ?_⟩) ?_ ?_; rotate_left; (intro w'; go_simp; with_reducible rfl); rotate_left; (simp only [Act.put, List.setIfInBounds_toArray, List.set_cons_zero, List.set_cons_succ, i64_w, i32_w]; rfl)
            refine done_ (by kernel_rfl) ?_
            
            go_wp2_with fail
            try any_goals (exfalso; omega)
            go_roundw
            case rel => first | exact ⟨b + 1, by omega, by simp, F9, vs8, HF9, HTc9, FMc9, Vc9, XBc9, HBc9⟩ | ((repeat apply Exists.intro); refine ⟨?_, rfl⟩; exact ⟨b + 1, by omega, by simp, F9, vs8, HF9, HTc9, FMc9, Vc9, XBc9, HBc9⟩)
            case measure => simp [intOf]; omega
        have hbe : b = 4 := by omega
        subst hbe
        clear hlt hb4
        obtain ⟨kd, q1, q2, q3, hdec, hq1, hq2⟩ := dec_0 (vld_B HLO.out.1 HLO.out.2 HR2.out HRG.out)
        have HD0 := lhid hdec
        have HQ1 := lhid hq1
        have HQ2 := lhid hq2
        have HGA := lhid (gN_all (R := R) (sal := sal) HR5.out vs)
        have HDEC := lhid (show tender_Decide.f kd lots ((mkH (gN R sal r2 vs 4)).flatMap (·.off)) = some (q1, q2, q3, 0) by rw [HGA.out]; exact hdec)
        clear hdec hq1 hq2
        go_wp2_with fail
        try any_goals (exfalso; omega)
        have hcl := Close_t t t F wr lots 1 (mkH (gN R sal r2 vs 4)) kd q1 q2 q3 0 HTr.out (mk_few (fun k => gN_few HR2.out r2 vs 4 k)) (in_1 HLO.out.1) (fun q => Nat.lt_irrefl _ (HFr.out _ q)) HDEC.out
        rw [HGA.out] at hcl
        with_reducible refine hcl.mono ?_
        rintro e w500 ⟨vo, v0, v1, rfl, hO, hP0, hP1, ht, hch⟩
        clear hcl
        obtain ⟨Ao, co, rfl⟩ := Kd.R_slice hO
        obtain ⟨A0, c0, rfl⟩ := Kd.R_slice hP0
        obtain ⟨A5, c5, rfl⟩ := Kd.R_slice hP1
        have HO := lhid hO
        have HP0 := lhid hP0
        have HP1 := lhid hP1
        clear hP0 hP1 hO
        clear HFr
        have HBc10 := lhid (HBr.out.trans (hch.below HBr.out.size (fun k q => by rw [q]; exact HTS.out.2.1)))
        have FMc10 := lhid (FMr.out.far hch (fun k h1 h2 q => by have h3 := HTS.out; have h4 : k = t := q; omega))
        have Vc10 := lhid (hch.blk Vr.out (fun q => by have h3 := HTS.out; have h4 : sb = t := q; omega))
        have XBc10 := lhid (hch.blk XBr.out (fun q => HTS.out.2.2.2.2 q))
        have HTc10 := lhid (ht)
        clear hch HBr HTr FMr Vr XBr
        clear ht
        go_upto_region 32 with (fail)
        try any_goals (exfalso; omega)
        have hb := below_alloc (Below.refl w500.heap.size w500) (.cells #[.slice A0 q1.length c0, .slice A5 q2.length c5, .int .i64 q3] 44)
        have hn := blk_new w500 (.cells #[.slice A0 q1.length c0, .slice A5 q2.length c5, .int .i64 q3] 44)
        have HZ501 := lhid (show (World.alloc w500 (.cells #[.slice A0 q1.length c0, .slice A5 q2.length c5, .int .i64 q3] 44)).heap.size = w500.heap.size + 1 from by simp)
        generalize hq : World.alloc w500 (.cells #[.slice A0 q1.length c0, .slice A5 q2.length c5, .int .i64 q3] 44) = w501 at hb hn HZ501 ⊢
        clear hq
        have HB_116 := lhid (below_then HBc10.out HBc10.out.size hb)
        have HT_117 := lhid (HTc10.out.next hb)
        have FM_118 := lhid (FMc10.out.next hb)
        have V_119 := lhid (blk_below Vc10.out hb)
        have XB_120 := lhid (blk_below XBc10.out hb)
        have O_121 := lhid (Kd.R_below HO.out hb)
        have P0_122 := lhid (Kd.R_below HP0.out hb)
        have P1_123 := lhid (Kd.R_below HP1.out hb)
        clear HBc10 HTc10 FMc10 Vc10 XBc10 HO HP0 HP1 hb
        obtain ⟨x1, hx1⟩ : ∃ z, z = w500.heap.size := ⟨_, rfl⟩
        rw [← hx1] at hn ⊢
        have HAW := lhid hn
        clear hn hx1
        go_wp2_with fail
        try any_goals (exfalso; omega)
        with_reducible refine (tender_Decide.calls kd lots A4 c4 (allB R 4) q1 q2 q3 0 w501 (FM_118.out.cc (j := 4) (by omega) (upd_at _ _ _) H44.out).1 (FM_118.out.cc (j := 4) (by omega) (upd_at _ _ _) H44.out).2 HD0.out).mono ?_
        rintro e w600 ⟨u0, u1, rfl, hP2, hP3, hb⟩
        obtain ⟨A6, c6, rfl⟩ := Kd.R_slice hP2
        obtain ⟨A7, c7, rfl⟩ := Kd.R_slice hP3
        have HP2 := lhid hP2
        have HP3 := lhid hP3
        clear hP2 hP3
        have HB_124 := lhid (below_then HB_116.out HB_116.out.size hb)
        have HT_125 := lhid (HT_117.out.next hb)
        have FM_126 := lhid (FM_118.out.next hb)
        have V_127 := lhid (blk_below V_119.out hb)
        have XB_128 := lhid (blk_below XB_120.out hb)
        have O_129 := lhid (Kd.R_below O_121.out hb)
        have P0_130 := lhid (Kd.R_below P0_122.out hb)
        have P1_131 := lhid (Kd.R_below P1_123.out hb)
        have AW_132 := lhid (blk_below HAW.out hb)
        clear HB_116 HT_117 FM_118 V_119 XB_120 O_121 P0_122 P1_123 HAW hb
        go_upto_region 33 with (fail)
        try any_goals (exfalso; omega)
        have hb := below_alloc (Below.refl w600.heap.size w600) (.cells #[.slice A6 q1.length c6, .slice A7 q2.length c7, .int .i64 q3] 44)
        have hn := blk_new w600 (.cells #[.slice A6 q1.length c6, .slice A7 q2.length c7, .int .i64 q3] 44)
        have HZ601 := lhid (show (World.alloc w600 (.cells #[.slice A6 q1.length c6, .slice A7 q2.length c7, .int .i64 q3] 44)).heap.size = w600.heap.size + 1 from by simp)
        generalize hq : World.alloc w600 (.cells #[.slice A6 q1.length c6, .slice A7 q2.length c7, .int .i64 q3] 44) = w601 at hb hn HZ601 ⊢
        clear hq
        have HB_133 := lhid (below_then HB_124.out HB_124.out.size hb)
        have HT_134 := lhid (HT_125.out.next hb)
        have FM_135 := lhid (FM_126.out.next hb)
        have V_136 := lhid (blk_below V_127.out hb)
        have XB_137 := lhid (blk_below XB_128.out hb)
        have O_138 := lhid (Kd.R_below O_129.out hb)
        have P0_139 := lhid (Kd.R_below P0_130.out hb)
        have P1_140 := lhid (Kd.R_below P1_131.out hb)
        have AW_141 := lhid (blk_below AW_132.out hb)
        have P2_142 := lhid (Kd.R_below HP2.out hb)
        have P3_143 := lhid (Kd.R_below HP3.out hb)
        clear HB_124 HT_125 FM_126 V_127 XB_128 O_129 P0_130 P1_131 AW_132 HP2 HP3 hb
        obtain ⟨x2, hx2⟩ : ∃ z, z = w600.heap.size := ⟨_, rfl⟩
        rw [← hx2] at hn ⊢
        have HBW := lhid hn
        clear hn hx2
        go_wp2_with fail
        try any_goals (exfalso; omega)
        have hof := offers_eq w601 Ao A4 co c4 (allB R 4) (by have h1 := allB_len HR2.out 4 (by omega); omega) (R_C O_138.out) (Kd.R_reads' O_138.out).2.1 (FM_135.out.cc (j := 4) (by omega) (upd_at _ _ _) H44.out).1 (FM_135.out.cc (j := 4) (by omega) (upd_at _ _ _) H44.out).2
        with_reducible refine hof.mono ?_
        rintro e w620 ⟨rfl, hb⟩
        clear hof
        have HB_144 := lhid (below_then HB_133.out HB_133.out.size hb)
        have HT_145 := lhid (HT_134.out.next hb)
        have FM_146 := lhid (FM_135.out.next hb)
        have V_147 := lhid (blk_below V_136.out hb)
        have XB_148 := lhid (blk_below XB_137.out hb)
        have O_149 := lhid (Kd.R_below O_138.out hb)
        have P0_150 := lhid (Kd.R_below P0_139.out hb)
        have P1_151 := lhid (Kd.R_below P1_140.out hb)
        have AW_152 := lhid (blk_below AW_141.out hb)
        have P2_153 := lhid (Kd.R_below P2_142.out hb)
        have P3_154 := lhid (Kd.R_below P3_143.out hb)
        have BW_155 := lhid (blk_below HBW.out hb)
        clear HB_133 HT_134 FM_135 V_136 XB_137 O_138 P0_139 P1_140 AW_141 P2_142 P3_143 HBW hb
        obtain ⟨y0, y1, y2⟩ := three AW_152.out
        obtain ⟨z0, z1, z2⟩ := three BW_155.out
        go_wp2_with fail
        try any_goals (exfalso; omega)
        have haw := award_eq w620 A0 A5 A6 A7 c0 c5 c6 c7 q1 q2 q3 HQ1.out HQ2.out (R_Ci P0_150.out) (Kd.R_reads' P0_150.out).2.1 (R_Ci P1_151.out) (Kd.R_reads' P1_151.out).2.1 (R_Ci P2_153.out) (Kd.R_reads' P2_153.out).2.1 (R_Ci P3_154.out) (Kd.R_reads' P3_154.out).2.1
        with_reducible refine haw.mono ?_
        rintro e w640 ⟨rfl, hb⟩
        clear haw y0 y1 y2 z0 z1 z2
        have HB_156 := lhid (below_then HB_144.out HB_144.out.size hb)
        have HT_157 := lhid (HT_145.out.next hb)
        have FM_158 := lhid (FM_146.out.next hb)
        have V_159 := lhid (blk_below V_147.out hb)
        have XB_160 := lhid (blk_below XB_148.out hb)
        have O_161 := lhid (Kd.R_below O_149.out hb)
        have P0_162 := lhid (Kd.R_below P0_150.out hb)
        have P1_163 := lhid (Kd.R_below P1_151.out hb)
        have AW_164 := lhid (blk_below AW_152.out hb)
        have P2_165 := lhid (Kd.R_below P2_153.out hb)
        have P3_166 := lhid (Kd.R_below P3_154.out hb)
        have BW_167 := lhid (blk_below BW_155.out hb)
        clear HB_144 HT_145 FM_146 V_147 XB_148 O_149 P0_150 P1_151 AW_152 P2_153 P3_154 BW_155 hb
        go_wp2_with fail
        try any_goals (exfalso; omega)
        have hmi := Missing_t t t F w640 lots (clS lots 1) (mkH (gN R sal r2 vs 4)) HT_157.out
        rw [gN_mis HR5.out] at hmi
        with_reducible refine hmi.mono ?_
        rintro e w660 ⟨vm, rfl, hRm, hb⟩
        obtain ⟨Am, cm, rfl⟩ := Kd.R_slice hRm
        clear hmi hRm
        have HB_168 := lhid (below_then HB_156.out HB_156.out.size hb)
        have HT_169 := lhid (HT_157.out.next hb)
        have FM_170 := lhid (FM_158.out.next hb)
        have V_171 := lhid (blk_below V_159.out hb)
        have XB_172 := lhid (blk_below XB_160.out hb)
        have O_173 := lhid (Kd.R_below O_161.out hb)
        have P0_174 := lhid (Kd.R_below P0_162.out hb)
        have P1_175 := lhid (Kd.R_below P1_163.out hb)
        have AW_176 := lhid (blk_below AW_164.out hb)
        have P2_177 := lhid (Kd.R_below P2_165.out hb)
        have P3_178 := lhid (Kd.R_below P3_166.out hb)
        have BW_179 := lhid (blk_below BW_167.out hb)
        clear HB_156 HT_157 FM_158 V_159 XB_160 O_161 P0_162 P1_163 AW_164 P2_165 P3_166 BW_167 hb
        go_wp2_with fail
        try any_goals (exfalso; omega)
        with_reducible refine (alive_calls w660).mono ?_
        rintro e w1361 ⟨rfl, hb⟩
        have HB_180 := lhid (below_then HB_168.out HB_168.out.size hb)
        have HT_181 := lhid (HT_169.out.next hb)
        have FM_182 := lhid (FM_170.out.next hb)
        have V_183 := lhid (blk_below V_171.out hb)
        have XB_184 := lhid (blk_below XB_172.out hb)
        have O_185 := lhid (Kd.R_below O_173.out hb)
        have P0_186 := lhid (Kd.R_below P0_174.out hb)
        have P1_187 := lhid (Kd.R_below P1_175.out hb)
        have AW_188 := lhid (blk_below AW_176.out hb)
        have P2_189 := lhid (Kd.R_below P2_177.out hb)
        have P3_190 := lhid (Kd.R_below P3_178.out hb)
        have BW_191 := lhid (blk_below BW_179.out hb)
        clear HB_168 HT_169 FM_170 V_171 XB_172 O_173 P0_174 P1_175 AW_176 P2_177 P3_178 BW_179 hb
        go_wp2_with fail
        go_ret
        exact ⟨rfl, HB_180.out⟩
end Go.Proofs.Ythfdjccdelbeeaa.PT
end
section
namespace Go.Proofs.Ythfdjccdelbeeaa.Opn
open Go.RowKit Go.ChangeShapes Go.WideShapes
/-- An array of one-cell whole numbers: its cells are numbers. -/
theorem open_arr {H : Type} {enc : TypeId × Value → H} {P : Program} {w : World} {base : Nat} {spare : Nat → Bool} {held : Bool} {fuel : Nat} {t e : TypeId} {n : Nat} {k : IntKind} {cs : List Value} {x : DataW H × List MemPlace} (ht : P.underlying t = some (.array n e)) (he : P.underlying e = some (.int k)) (hc : P.cellsOf e = 1) (hn : P.cellsOf t = n)
    (h : DataW.trod enc P w base spare held fuel t cs = some x) : ∃ l : List Int, l.length = n ∧ cs = l.map (Value.int k) ∧ ∀ y ∈ l, (Lit.int k y).wf = true := by
  obtain ⟨xs, m, rfl, rfl, hl, hx, hi⟩ := DataW.trod_array ht h
  rw [hn] at hl
  have hget : ∀ i, i < n → ∃ y : Int, cs[i]? = some (.int k y) ∧ (Lit.int k y).wf = true := fun i hlt => by
    have h1 := hi i hlt
    rw [hc, Nat.mul_one, List.getElem?_eq_getElem (by omega)] at h1
    obtain ⟨y, hy, _, hw⟩ := DataW.trod_int he h1
    refine ⟨y, ?_, hw⟩
    have := congrArg (fun z => z[0]?) hy
    simpa using this
  refine ⟨cs.map (fun v => match v with | .int _ y => y | _ => 0), by rw [List.length_map]; exact hl, ?_, fun y hy => ?_⟩
  · apply List.ext_getElem?
    intro i
    by_cases hlt : i < n
    · obtain ⟨y, hy, _⟩ := hget i hlt
      rw [hy, List.getElem?_map, List.getElem?_map, hy]; rfl
    · rw [List.getElem?_eq_none (by omega), List.getElem?_eq_none (by simp; omega)]
  · obtain ⟨v, hv, rfl⟩ := List.mem_map.1 hy
    obtain ⟨i, hlt, e⟩ := List.getElem_of_mem hv
    obtain ⟨y, hy, hw⟩ := hget i (by omega)
    rw [List.getElem?_eq_getElem hlt, e] at hy
    cases hy
    exact hw
theorem okWide_array {P : Program} {w : World} {r : _} {base : Nat} {t e : TypeId} {n : Nat} {v : Value} (ht : P.underlying t = some (.array n e)) (h : Value.okWide P w r base t v) : ∃ cs, v = .agg cs ∧ cs.size = P.cellsOf t := by
  simp only [Value.okWide, ht] at h
  obtain ⟨cs, h1, h2, _⟩ := h
  exact ⟨cs, h1, h2⟩
end Go.Proofs.Ythfdjccdelbeeaa.Opn
end
