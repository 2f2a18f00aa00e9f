/-
  The texts that the theorem in YtfnlghjkjmppdaaZRowCp rests on, merged (part 14); only what it reaches.
-/
import Derived.Test.YtfnlghjkjmppdaaZCp1
import Derived.Test.YtfnlghjkjmppdaaZCp12
section
namespace Go.Proofs.Ytfnlghjkjmppdaa.PC
open Go.RowKit Go.Proofs.YtfnlghjkjmppdaaW.PrintWords Go.Proofs.YtfnlghjkjmppdaaW.PrintLast Go.Proofs.YtfnlghjkjmppdaaW.PrintMore Go.Proofs.Ytfnlghjkjmppdaa.Opn
set_option linter.unusedVariables false
set_option linter.unusedSimpArgs false
theorem played_same (l : List S37) : Same (runS s0 l) (madeF s0 [] l l.length) := by
  have h := madeF_s same_new l l.length (Nat.le_refl _)
  rwa [List.take_length] at h
theorem madeF_end {s : St} {M : List Int} (h : Same s M) (l : List S37) : Same (runS s l) (madeF s M l l.length) := by
  have h := madeF_s h l l.length (Nat.le_refl _)
  rwa [List.take_length] at h
set_option maxHeartbeats 12800000 in
set_option maxRecDepth 100000 in
theorem kimberlitelaw06_CustodyCopies.calls (k : Nat) (A0 : Option Addr) (c0 : Nat) (l0 : List (S37)) (A1 : Option Addr) (c1 : Nat) (l1 : List (S37)) (A2 : Option Addr) (c2 : Nat) (l2 : List (S37)) (w : World) (hr0 : Kd.C k37 w A0 l0.length l0) (hc0 : l0.length ≤ c0) (hr1 : Kd.C k37 w A1 l1.length l1) (hc1 : l1.length ≤ c1) (hr2 : Kd.C k37 w A2 l2.length l2) (hc2 : l2.length ≤ c2) (h : kimberlitelaw06_CustodyCopies.ok l0 l1 l2) : Calls Try.prog 12 #[.slice A0 l0.length c0, .slice A1 l1.length c1, .slice A2 l2.length c2] w fun e w' => e = .returned (.bool true) ∧ Below w.heap.size w w' := by
  have HR0 := lhid hr0
  have HC0 := lhid hc0
  have HR1 := lhid hr1
  have HC1 := lhid hc1
  have HR2 := lhid hr2
  have HC2 := lhid hc2
  have HK0 := lhid (show ∀ x ∈ l0, 0 ≤ x.f0 ∧ x.f0 < 256 from fun x hx => wf_u8 (h.1.2 x hx).1)
  have HK1 := lhid (show ∀ x ∈ l1, 0 ≤ x.f0 ∧ x.f0 < 256 from fun x hx => wf_u8 (h.2.1.2 x hx).1)
  have HK2 := lhid (show ∀ x ∈ l2, 0 ≤ x.f0 ∧ x.f0 < 256 from fun x hx => wf_u8 (h.2.2.1.2 x hx).1)
  have hu37 := Try.underlying37
  have hu51 := Try.underlying51
  clear hr0 hc0 hr1 hc1 hr2 hc2 h
  go_enter Try.func12, Try.ntmps12
  have HB_1 := lhid (Below.refl w.heap.size w)
  by_cases hfl0 : (l0.length : Int) ≤ 40
  rotate_left
  · go_wp2_with fail
    with_reducible refine (kimberlitelaw06_few.calls A0 c0 l0 false w (Kd.C_below HR0.out HB_1.out) HC0.out (by unfold kimberlitelaw06_few.f; exact congrArg some (decide_eq_false (by omega)))).mono ?_
    rintro e w1 ⟨rfl, nd, hq⟩
    have hb := pw_below_drewN (Below.refl w.heap.size w) nd
    rw [← hq] at hb
    clear hq
    have HB_2 := lhid (below_then HB_1.out HB_1.out.size hb)
    clear HB_1 hb
    go_wp2_with fail
    with_reducible refine (alive_calls w1).mono ?_
    rintro e w902 ⟨rfl, hb⟩
    have HB_3 := lhid (below_then HB_2.out HB_2.out.size hb)
    clear HB_2 hb
    go_wp2_with fail
    go_ret
    exact ⟨rfl, HB_3.out⟩
  go_wp2_with fail
  with_reducible refine (kimberlitelaw06_few.calls A0 c0 l0 true w (Kd.C_below HR0.out HB_1.out) HC0.out (by unfold kimberlitelaw06_few.f; exact congrArg some (decide_eq_true (by omega)))).mono ?_
  rintro e w1 ⟨rfl, nd, hq⟩
  have hb := pw_below_drewN (Below.refl w.heap.size w) nd
  rw [← hq] at hb
  clear hq
  have HB_4 := lhid (below_then HB_1.out HB_1.out.size hb)
  clear HB_1 hb
  by_cases hfl1 : (l1.length : Int) ≤ 40
  rotate_left
  · go_wp2_with fail
    with_reducible refine (kimberlitelaw06_few.calls A1 c1 l1 false w1 (Kd.C_below HR1.out HB_4.out) HC1.out (by unfold kimberlitelaw06_few.f; exact congrArg some (decide_eq_false (by omega)))).mono ?_
    rintro e w2 ⟨rfl, nd, hq⟩
    have hb := pw_below_drewN (Below.refl w1.heap.size w1) nd
    rw [← hq] at hb
    clear hq
    have HB_5 := lhid (below_then HB_4.out HB_4.out.size hb)
    clear HB_4 hb
    go_wp2_with fail
    with_reducible refine (alive_calls w2).mono ?_
    rintro e w903 ⟨rfl, hb⟩
    have HB_6 := lhid (below_then HB_5.out HB_5.out.size hb)
    clear HB_5 hb
    go_wp2_with fail
    go_ret
    exact ⟨rfl, HB_6.out⟩
  go_wp2_with fail
  with_reducible refine (kimberlitelaw06_few.calls A1 c1 l1 true w1 (Kd.C_below HR1.out HB_4.out) HC1.out (by unfold kimberlitelaw06_few.f; exact congrArg some (decide_eq_true (by omega)))).mono ?_
  rintro e w2 ⟨rfl, nd, hq⟩
  have hb := pw_below_drewN (Below.refl w1.heap.size w1) nd
  rw [← hq] at hb
  clear hq
  have HB_7 := lhid (below_then HB_4.out HB_4.out.size hb)
  clear HB_4 hb
  by_cases hfl2 : (l2.length : Int) ≤ 40
  rotate_left
  · go_wp2_with fail
    with_reducible refine (kimberlitelaw06_few.calls A2 c2 l2 false w2 (Kd.C_below HR2.out HB_7.out) HC2.out (by unfold kimberlitelaw06_few.f; exact congrArg some (decide_eq_false (by omega)))).mono ?_
    rintro e w3 ⟨rfl, nd, hq⟩
    have hb := pw_below_drewN (Below.refl w2.heap.size w2) nd
    rw [← hq] at hb
    clear hq
    have HB_8 := lhid (below_then HB_7.out HB_7.out.size hb)
    clear HB_7 hb
    go_wp2_with fail
    with_reducible refine (alive_calls w3).mono ?_
    rintro e w904 ⟨rfl, hb⟩
    have HB_9 := lhid (below_then HB_8.out HB_8.out.size hb)
    clear HB_8 hb
    go_wp2_with fail
    go_ret
    exact ⟨rfl, HB_9.out⟩
  go_wp2_with fail
  with_reducible refine (kimberlitelaw06_few.calls A2 c2 l2 true w2 (Kd.C_below HR2.out HB_7.out) HC2.out (by unfold kimberlitelaw06_few.f; exact congrArg some (decide_eq_true (by omega)))).mono ?_
  rintro e w3 ⟨rfl, nd, hq⟩
  have hb := pw_below_drewN (Below.refl w2.heap.size w2) nd
  rw [← hq] at hb
  clear hq
  have HB_10 := lhid (below_then HB_7.out HB_7.out.size hb)
  clear HB_7 hb
  have hf0 : l0.length ≤ 40 := by omega
  have hf1 : l1.length ≤ 40 := by omega
  have hf2 : l2.length ≤ 40 := by omega
  clear hfl0 hfl1 hfl2
  obtain ⟨wb, hwb⟩ : ∃ q : World, q = w3 := ⟨_, rfl⟩
  have HWB := lhid (show Below w.heap.size w wb by rw [hwb]; exact HB_10.out)
  rw [← hwb]
  clear hwb HB_10
  have HRB0 := lhid (Kd.C_below HR0.out HWB.out)
  have HRB1 := lhid (Kd.C_below HR1.out HWB.out)
  have HRB2 := lhid (Kd.C_below HR2.out HWB.out)
  clear HR0 HR1 HR2
  have HPL := lhid (played_calls A0 c0 l0 wb HRB0.out HC0.out HK0.out hf0)
  have HS := lhid (played_same l0)
  have HEL := lhid (show (runS s0 l0).E.length ≤ l0.length from by have h1 := (run_len l0 s0).2; have h2 : s0.E.length = 0 := rfl; omega)
  obtain ⟨s, hs⟩ : ∃ s : St, s = runS s0 l0 := ⟨_, rfl⟩
  obtain ⟨M, hM⟩ : ∃ M, M = madeF s0 [] l0 l0.length := ⟨_, rfl⟩
  rw [← hs, ← hM] at HPL HS
  rw [← hs] at HEL
  clear hs hM
  go_wp2_with fail
  try any_goals (exfalso; omega)
  with_reducible refine HPL.out.mono ?_
  rintro e w1 ⟨g, Fb, AG, cG, AE, cE, rfl, k1, k2, k3⟩
  have HBK := lhid k1
  have HBB := lhid k2
  have HST := lhid k3
  have hgs := HS.out.inv.1.1
  clear k1 k2 k3 HPL
  have HB1 := lhid (Below.refl w1.heap.size w1)
  have HBB_sz := lhid (show wb.heap.size ≤ w1.heap.size from HBB.out.size)
  have HFL := lhid (show ∀ k, Fb k → wb.heap.size ≤ k ∧ k < w1.heap.size from HBK.out.fb)
  go_upto_region 4 with (fail)
  have hb := below_alloc (Below.refl w1.heap.size w1) (.cells #[.slice AG (refG s.G M).length cG, .slice AE s.E.length cE, .int .i64 s.day] 51)
  have hn := blk_new w1 (.cells #[.slice AG (refG s.G M).length cG, .slice AE s.E.length cE, .int .i64 s.day] 51)
  have HZ11 := lhid (show (World.alloc w1 (.cells #[.slice AG (refG s.G M).length cG, .slice AE s.E.length cE, .int .i64 s.day] 51)).heap.size = w1.heap.size + 1 from by simp)
  generalize hq : World.alloc w1 (.cells #[.slice AG (refG s.G M).length cG, .slice AE s.E.length cE, .int .i64 s.day] 51) = w11 at hb hn HZ11 ⊢
  clear hq
  have HBK_11 := lhid (HBK.out.next hb)
  have HB_12 := lhid (below_then HBB.out HBB.out.size hb)
  have B1_13 := lhid (below_then HB1.out HB1.out.size hb)
  clear HBK HBB HB1 hb
  have RZ_14 := lhid (hn)
  clear hn
  obtain ⟨rb, hrb⟩ : ∃ q, q = w1.heap.size := ⟨_, rfl⟩
  rw [← hrb] at RZ_14 ⊢
  have HRB := lhid hrb
  clear hrb
  have HW2 := lhid (show w11.heap.size = rb + 1 by have h1 := HZ11.out; have h2 := HRB.out; omega)
  skip
  go_wp2_with fail
  try any_goals (exfalso; omega)
  with_reducible refine (Copy_ok wb.heap.size g Fb w11 s.day s.G s.E HBK_11.out (by omega) (by have h1 := HEL.out; omega)).mono ?_
  rintro e w30 ⟨gc, Fc, rfl, k1, hb⟩
  have HW23 := lhid (show w11.heap.size ≤ w30.heap.size from hb.size)
  have HCF := lhid (show ∀ k, Fc k → rb < k ∧ k < w30.heap.size from fun k q => by have h1 := k1.fb k q; have h2 := HW2.out; omega)
  have HCK := lhid (BK.lower k1 HB_12.out.size)
  clear k1
  have HBK_15 := lhid (HBK_11.out.next hb)
  have HB_16 := lhid (below_then HB_12.out HB_12.out.size hb)
  have B1_17 := lhid (below_then B1_13.out B1_13.out.size hb)
  have RZ_18 := lhid (blk_below RZ_14.out hb)
  clear HBK_11 HB_12 B1_13 RZ_14 hb
  obtain ⟨r0, r1, r2⟩ := three RZ_18.out
  go_upto_region 10 with (fail)
  try any_goals (exfalso; omega)
  clear r0 r1 r2
  have hb := below_alloc (Below.refl w30.heap.size w30) (.cells #[.slice AG (refG s.G M).length cG, .slice AE s.E.length cE, .int .i64 s.day] 51)
  have hn := blk_new w30 (.cells #[.slice AG (refG s.G M).length cG, .slice AE s.E.length cE, .int .i64 s.day] 51)
  have HZ31 := lhid (show (World.alloc w30 (.cells #[.slice AG (refG s.G M).length cG, .slice AE s.E.length cE, .int .i64 s.day] 51)).heap.size = w30.heap.size + 1 from by simp)
  generalize hq : World.alloc w30 (.cells #[.slice AG (refG s.G M).length cG, .slice AE s.E.length cE, .int .i64 s.day] 51) = w31 at hb hn HZ31 ⊢
  clear hq
  have HBK_19 := lhid (HBK_15.out.next hb)
  have HB_20 := lhid (below_then HB_16.out HB_16.out.size hb)
  have B1_21 := lhid (below_then B1_17.out B1_17.out.size hb)
  have RZ_22 := lhid (blk_below RZ_18.out hb)
  have CK_23 := lhid (HCK.out.next hb)
  clear HBK_15 HB_16 B1_17 RZ_18 HCK hb
  have XZ_24 := lhid (hn)
  clear hn
  obtain ⟨xb, hxb⟩ : ∃ q, q = w30.heap.size := ⟨_, rfl⟩
  rw [← hxb] at XZ_24 ⊢
  have HXB := lhid hxb
  clear hxb
  have HW3 := lhid (show w31.heap.size = xb + 1 by have h1 := HZ31.out; have h2 := HXB.out; omega)
  obtain ⟨ws, hws⟩ : ∃ q : World, q = w31 := ⟨_, rfl⟩
  have HBW := lhid (show Below wb.heap.size wb ws by rw [hws]; exact HB_20.out)
  have HNB := lhid (show wb.heap.size ≤ rb ∧ rb < xb ∧ (∀ k, Fb k → wb.heap.size ≤ k ∧ k < rb) ∧ (∀ k, Fc k → rb < k ∧ k < xb) ∧ ws.heap.size = xb + 1 from by
    have h1 := HRB.out
    have h2 := HXB.out
    have h3 := HW2.out
    have h4 := HBB_sz.out
    have h5 := HW23.out
    refine ⟨by omega, by omega, fun k q => ?_, fun k q => ?_, by rw [hws]; exact HW3.out⟩
    · have h6 := HFL.out k q; omega
    · have h6 := HCF.out k q; omega)
  rw [← hws] at HBK_19 B1_21 RZ_22 CK_23 XZ_24 ⊢
  clear hws
  have HQC := lhid (show ∀ k, (Fb k ∨ k = rb ∨ k = xb) → ¬ Fc k ∧ wb.heap.size ≤ k ∧ k < ws.heap.size from fun k q => by
    obtain ⟨h1, h2, h3, h4, h5⟩ := HNB.out
    have h6 := h4 k
    rcases q with q | q | q
    · have h7 := h3 k q; exact ⟨fun z => by have h8 := h6 z; omega, by omega, by omega⟩
    · exact ⟨fun z => by have h8 := h6 z; omega, by omega, by omega⟩
    · exact ⟨fun z => by have h8 := h6 z; omega, by omega, by omega⟩)
  have HFC := lhid (show ∀ k, (Fc k ∨ k = xb) → wb.heap.size ≤ k from fun k q => by
    obtain ⟨h1, h2, h3, h4, h5⟩ := HNB.out
    rcases q with q | q
    · have h6 := h4 k q; omega
    · omega)
  have HSA := lhid (show Stay (fun k => Fb k ∨ Fc k ∨ k = rb ∨ k = xb) ws AG cG (refG s.G M) AE cE s.E from (stay_box HST.out B1_21.out).sub (fun k hk q => by
    obtain ⟨h1, h2, h3, h4, h5⟩ := HNB.out
    have h6 := HRB.out
    have h7 := h4 k
    rcases q with q | q | q | q
    · exact Or.inl q
    · have h8 := h7 q; exact Or.inr ⟨by omega, by omega⟩
    · exact Or.inr ⟨by omega, by omega⟩
    · exact Or.inr ⟨by omega, by omega⟩))
  have HP0 := lhid (show PlayQ (fun k => Fb k ∨ k = rb ∨ k = xb) Fc ws wb.heap.size ws gc xb s M from ⟨Fc, AG, cG, AE, cE, CK_23.out, HQC.out, Or.inr (Or.inr rfl), XZ_24.out, HSA.out.sub (fun k hk q => by
    rcases q with q | q | q | q
    · exact Or.inr (Or.inl q)
    · exact Or.inl q
    · exact Or.inr (Or.inr (Or.inl q))
    · exact Or.inr (Or.inr (Or.inr q))), fun k q => Or.inl q, Chg.refl _ _⟩)
  have HBKs := lhid (HBK_19.out)
  have HRZs := lhid (RZ_22.out)
  have HCKs := lhid (CK_23.out)
  clear HBK_19 HB_20 B1_21 RZ_22 CK_23 XZ_24
  go_upto_region 11 with (fail)
  try any_goals (exfalso; omega)
  go_loopw [9, 12] (fun ok t wr => ∃ i : Nat, i ≤ l1.length ∧ ok = .bool true ∧ t = .int .i64 i ∧ Hid (PlayQ (fun k => Fb k ∨ k = rb ∨ k = xb) Fc ws wb.heap.size wr gc xb (runS s (l1.take i)) (madeF s M l1 i))) (fun ok t _ => l1.length - (intOf t).toNat)
  case atStart => exact ⟨0, Nat.zero_le _, rfl, rfl, HP0⟩
  case round =>
    obtain ⟨i, hi, rfl, rfl, HPr⟩ := hrel
    clear HP0
    by_cases hlt : i < l1.length
    · have hlt2 : (i : Int) < (l1.length : Int) := by omega
      have HSX := lhid (runS_take s l1 i hlt)
      have HSM := lhid (madeF_s HS.out l1 i (by omega))
      have HMX := lhid (show madeF s M l1 (i + 1) = madeS (runS s (l1.take i)) (madeF s M l1 i) (l1.getD i z37) from rfl)
      have HEL := lhid (show (runS s (l1.take i)).E.length ≤ 100 by have h1 := (run_len (l1.take i) s).2; rw [List.length_take] at h1; have h2 := (show s.E.length + l1.length ≤ 100 by have h3 := HEL.out; omega); omega)
      obtain ⟨x, hx⟩ : ∃ x, x = l1.getD i z37 := ⟨_, rfl⟩
      have HKX := lhid (HK1.out _ (mem_getD hlt))
      rw [← hx] at HSX HKX HMX
      obtain ⟨sv, hs⟩ : ∃ q : St, q = runS s (l1.take i) := ⟨_, rfl⟩
      obtain ⟨M1, hM⟩ : ∃ M1, M1 = madeF s M l1 i := ⟨_, rfl⟩
      rw [← hs] at HSX HSM HMX HEL HPr
      rw [← hM] at HSM HMX HPr
      have HX := lhid hx
      clear hs hM hx
      obtain ⟨F, AG, cG, AE, cE, hbk, hq, hqr, hrz, hst, hf0, hch⟩ := HPr.out
      have HBK := lhid hbk
      have HQ := lhid hq
      have HQR := lhid hqr
      have HRZ := lhid hrz
      have HST := lhid hst
      have HF := lhid hf0
      have HCH := lhid hch
      clear hbk hq hqr hrz hst hf0 hch HPr
      have HBQ := lhid (show Bk wb.heap.size F wr gc sv from HBK.out)
      obtain ⟨ad, eA, -⟩ := at_T37 (Kd.C_below HRB1.out (HBW.out.trans (HCH.out.below (by have h1 := HCH.out.size; have h2 := HBW.out.size; exact h2) HFC.out))) (i : Int) (by omega) (by omega)
      subst eA
      go_upto_region 13 with (fail)
      try any_goals (exfalso; omega)
      have hb := below_drew1 (Below.refl wr.heap.size wr)
      have HBK_25 := lhid (HBK.out.next hb)
      have RZ_26 := lhid (blk_below HRZ.out hb)
      have ST_27 := lhid (HST.out.next (Chg.of_below hb) (fun _ _ q => q))
      have CH_28 := lhid (HCH.out.next hb)
      have BQ_29 := lhid (show Bk wb.heap.size F _ gc sv from BK.next HBQ.out hb)
      clear HBK HRZ HST HCH HBQ hb
      refine start_ (n := 12) (S := fun w' => w'.cell? ⟨xb, 0, none⟩ = some (.slice AG (refG sv.G M1).length cG) ∧ w'.cell? ⟨xb, 1, none⟩ = some (.slice AE sv.E.length cE) ∧ w'.cell? ⟨xb, 2, none⟩ = some (.int .i64 sv.day) ∧ w'.cell? (ad.add (i * 11)) = some (.int .u8 x.f0) ∧ w'.cell? ⟨(ad.add (i * 11)).block, (ad.add (i * 11)).off + 1, none⟩ = some (.int .i64 x.f1) ∧ w'.cell? ⟨(ad.add (i * 11)).block, (ad.add (i * 11)).off + 2, none⟩ = some (.int .i64 x.f2) ∧ w'.cell? ⟨(ad.add (i * 11)).block, (ad.add (i * 11)).off + 3, none⟩ = some (.int .i64 x.f3) ∧ w'.cell? ⟨(ad.add (i * 11)).block, (ad.add (i * 11)).off + 4, none⟩ = some (.int .i64 x.f4) ∧ w'.cell? ⟨(ad.add (i * 11)).block, (ad.add (i * 11)).off + 5, none⟩ = some (.int .i64 x.f5) ∧ w'.cell? ⟨(ad.add (i * 11)).block, (ad.add (i * 11)).off + 6, none⟩ = some (.int .i64 x.f6) ∧ w'.cell? ⟨(ad.add (i * 11)).block, (ad.add (i * 11)).off + 7, none⟩ = some (.int .i64 x.f7) ∧ w'.cell? ⟨(ad.add (i * 11)).block, (ad.add (i * 11)).off + 8, none⟩ = some (.int .i64 x.f8) ∧ w'.cell? ⟨(ad.add (i * 11)).block, (ad.add (i * 11)).off + 9, none⟩ = some (.int .i64 x.f9) ∧ w'.cell? ⟨(ad.add (i * 11)).block, (ad.add (i * 11)).off + 10, none⟩ = some (.int .i64 x.f10)) (ds := [6, 10]) (lsb 12 0) (by kernel_rfl) rfl (by kernel_rfl) ⟨(three RZ_26.out).1, (three RZ_26.out).2.1, (three RZ_26.out).2.2, (by obtain ⟨ad', eA', x0, x1, x2, x3, x4, x5, x6, x7, x8, x9, x10⟩ := at_T37 (Kd.C_below HRB1.out (HBW.out.trans (CH_28.out.below (by have h1 := CH_28.out.size; have h2 := HBW.out.size; exact h2) HFC.out))) (i : Int) (by omega) (by omega); cases eA'; simp only [rd_T37, Int.toNat_natCast] at x0; rw [HX.out]; exact x0), (by obtain ⟨ad', eA', x0, x1, x2, x3, x4, x5, x6, x7, x8, x9, x10⟩ := at_T37 (Kd.C_below HRB1.out (HBW.out.trans (CH_28.out.below (by have h1 := CH_28.out.size; have h2 := HBW.out.size; exact h2) HFC.out))) (i : Int) (by omega) (by omega); cases eA'; simp only [rd_T37, Int.toNat_natCast] at x1; rw [HX.out]; exact x1), (by obtain ⟨ad', eA', x0, x1, x2, x3, x4, x5, x6, x7, x8, x9, x10⟩ := at_T37 (Kd.C_below HRB1.out (HBW.out.trans (CH_28.out.below (by have h1 := CH_28.out.size; have h2 := HBW.out.size; exact h2) HFC.out))) (i : Int) (by omega) (by omega); cases eA'; simp only [rd_T37, Int.toNat_natCast] at x2; rw [HX.out]; exact x2), (by obtain ⟨ad', eA', x0, x1, x2, x3, x4, x5, x6, x7, x8, x9, x10⟩ := at_T37 (Kd.C_below HRB1.out (HBW.out.trans (CH_28.out.below (by have h1 := CH_28.out.size; have h2 := HBW.out.size; exact h2) HFC.out))) (i : Int) (by omega) (by omega); cases eA'; simp only [rd_T37, Int.toNat_natCast] at x3; rw [HX.out]; exact x3), (by obtain ⟨ad', eA', x0, x1, x2, x3, x4, x5, x6, x7, x8, x9, x10⟩ := at_T37 (Kd.C_below HRB1.out (HBW.out.trans (CH_28.out.below (by have h1 := CH_28.out.size; have h2 := HBW.out.size; exact h2) HFC.out))) (i : Int) (by omega) (by omega); cases eA'; simp only [rd_T37, Int.toNat_natCast] at x4; rw [HX.out]; exact x4), (by obtain ⟨ad', eA', x0, x1, x2, x3, x4, x5, x6, x7, x8, x9, x10⟩ := at_T37 (Kd.C_below HRB1.out (HBW.out.trans (CH_28.out.below (by have h1 := CH_28.out.size; have h2 := HBW.out.size; exact h2) HFC.out))) (i : Int) (by omega) (by omega); cases eA'; simp only [rd_T37, Int.toNat_natCast] at x5; rw [HX.out]; exact x5), (by obtain ⟨ad', eA', x0, x1, x2, x3, x4, x5, x6, x7, x8, x9, x10⟩ := at_T37 (Kd.C_below HRB1.out (HBW.out.trans (CH_28.out.below (by have h1 := CH_28.out.size; have h2 := HBW.out.size; exact h2) HFC.out))) (i : Int) (by omega) (by omega); cases eA'; simp only [rd_T37, Int.toNat_natCast] at x6; rw [HX.out]; exact x6), (by obtain ⟨ad', eA', x0, x1, x2, x3, x4, x5, x6, x7, x8, x9, x10⟩ := at_T37 (Kd.C_below HRB1.out (HBW.out.trans (CH_28.out.below (by have h1 := CH_28.out.size; have h2 := HBW.out.size; exact h2) HFC.out))) (i : Int) (by omega) (by omega); cases eA'; simp only [rd_T37, Int.toNat_natCast] at x7; rw [HX.out]; exact x7), (by obtain ⟨ad', eA', x0, x1, x2, x3, x4, x5, x6, x7, x8, x9, x10⟩ := at_T37 (Kd.C_below HRB1.out (HBW.out.trans (CH_28.out.below (by have h1 := CH_28.out.size; have h2 := HBW.out.size; exact h2) HFC.out))) (i : Int) (by omega) (by omega); cases eA'; simp only [rd_T37, Int.toNat_natCast] at x8; rw [HX.out]; exact x8), (by obtain ⟨ad', eA', x0, x1, x2, x3, x4, x5, x6, x7, x8, x9, x10⟩ := at_T37 (Kd.C_below HRB1.out (HBW.out.trans (CH_28.out.below (by have h1 := CH_28.out.size; have h2 := HBW.out.size; exact h2) HFC.out))) (i : Int) (by omega) (by omega); cases eA'; simp only [rd_T37, Int.toNat_natCast] at x9; rw [HX.out]; exact x9), (by obtain ⟨ad', eA', x0, x1, x2, x3, x4, x5, x6, x7, x8, x9, x10⟩ := at_T37 (Kd.C_below HRB1.out (HBW.out.trans (CH_28.out.below (by have h1 := CH_28.out.size; have h2 := HBW.out.size; exact h2) HFC.out))) (i : Int) (by omega) (by omega); cases eA'; simp only [rd_T37, Int.toNat_natCast] at x10; rw [HX.out]; exact x10)⟩ (fun hHeld => ?_)
      generalize wr.drew = w41 at HBK_25 RZ_26 ST_27 CH_28 BQ_29 hHeld ⊢
      refine pure_ (i := 0) (N := some 51) (v := ?_) (a' := ?_) (lsb 12 1) rfl rfl (by as_aux_lemma => kernel_rfl) (fun _ _ _ h => h) (Or.inl ⟨by rfl, ?_⟩) ?_ ?_; rotate_left; (intro w'; go_simp; with_reducible rfl); rotate_left; (simp only [Act.put, List.setIfInBounds_toArray, List.set_cons_zero, List.set_cons_succ, i64_w, i32_w]; rfl)
      refine pure_ (i := 2) (N := some 53) (v := ?_) (a' := ?_) (lsb 12 5) rfl rfl (by as_aux_lemma => kernel_rfl) (fun _ _ _ h => h) (Or.inl ⟨by rfl, ?_⟩) ?_ ?_; rotate_left; (intro w'; go_simp; with_reducible rfl); rotate_left; (simp only [Act.put, List.setIfInBounds_toArray, List.set_cons_zero, List.set_cons_succ, i64_w, i32_w]; rfl)
      refine pure_ (i := 3) (N := some 54) (v := ?_) (a' := ?_) (lsb 12 13) rfl rfl (by as_aux_lemma => kernel_rfl) (fun _ _ _ h => h) (Or.inl ⟨by rfl, ?_⟩) ?_ ?_; rotate_left; (intro w'; go_simp; with_reducible rfl); rotate_left; (simp only [Act.put, List.setIfInBounds_toArray, List.set_cons_zero, List.set_cons_succ, i64_w, i32_w]; rfl)
      refine pure_ (i := 4) (N := some 55) (v := ?_) (a' := ?_) (lsb 12 29) rfl rfl (by as_aux_lemma => kernel_rfl) (fun _ _ _ h => h) (Or.inl ⟨by rfl, ?_⟩) ?_ ?_; rotate_left; (intro w'; go_simp; with_reducible rfl); rotate_left; (simp only [Act.put, List.setIfInBounds_toArray, List.set_cons_zero, List.set_cons_succ, i64_w, i32_w]; rfl)
      refine take_ (i := 1) (N := some 52) (v := ?_) (a' := ?_) (lsb 12 31) rfl rfl (by as_aux_lemma => kernel_rfl) (fun _ _ _ h => h) (Or.inl ⟨by rfl, ?_⟩) hHeld ?_ ?_; rotate_left; (rintro w' ⟨s0, s1, s2, s3, s4, s5, s6, s7, s8, s9, s10, s11, s12, s13⟩; go_simp; with_reducible rfl); rotate_left; (simp only [Act.put, List.setIfInBounds_toArray, List.set_cons_zero, List.set_cons_succ, i64_w, i32_w]; rfl)
      refine take_ (i := 5) (N := some 56) (v := ?_) (a' := ?_) (lsb 12 63) rfl rfl (by as_aux_lemma => kernel_rfl) (fun _ _ _ h => h) (Or.inl ⟨by rfl, ?_⟩) hHeld ?_ ?_; rotate_left; (rintro w' ⟨s0, s1, s2, s3, s4, s5, s6, s7, s8, s9, s10, s11, s12, s13⟩; go_simp; with_reducible rfl); rotate_left; (simp only [Act.put, List.setIfInBounds_toArray, List.set_cons_zero, List.set_cons_succ, i64_w, i32_w]; rfl)
      refine last_ (i := 6) (N := some 57) (lsb 12 127) rfl rfl (by kernel_rfl) (by decide) (fun K hK => ?_)
      refine goes_ Try.func36 (by kernel_rfl) rfl #[.pointer (some ⟨gc, 0, none⟩), .agg #[.slice AG (refG sv.G M1).length cG, .slice AE sv.E.length cE, .int .i64 sv.day], .agg #[.int .u8 x.f0, .int .i64 x.f1, .int .i64 x.f2, .int .i64 x.f3, .int .i64 x.f4, .int .i64 x.f5, .int .i64 x.f6, .int .i64 x.f7, .int .i64 x.f8, .int .i64 x.f9, .int .i64 x.f10]] (by rfl) rfl rfl (by (try simp only [List.map_toArray, List.map_cons, List.map_nil]); first | done | rfl) ?_
      with_reducible refine (do_calls wb.heap.size gc F _ sv M1 x AG cG (refG sv.G M1) AE cE sv.E sv.day BQ_29.out (fun k => Fb k ∨ k = rb ∨ k = xb) ST_27.out (fun k q => Nat.lt_of_lt_of_le (HQ.out k q).2.2 CH_28.out.size) HSM.out rfl rfl rfl HKX.out HEL.out).mono ?_
      rintro e w9 ⟨b, F4, rfl, h1, h2, h3, ⟨A1, c1, A2, c2, rfl, h4⟩⟩
      refine ⟨_, rfl, ?_⟩
      have K1 := lhid h1
      have K2 := lhid h2
      have K3 := lhid h3
      have K4 := lhid h4
      have K5 := lhid (h3.blk RZ_26.out (HQ.out _ HQR.out).1)
      clear h1 h2 h3 h4
      refine hK.out _ _ ?_
      clear hK K
      refine norm_ (a' := ?_) ?_ ?_
      rotate_left
      · show Act.put _ (some 57) _ = _
        simp only [Act.put, List.setIfInBounds_toArray, List.set_cons_zero, List.set_cons_succ, i64_w, i32_w]
        rfl
      refine pure_ (i := 7) (N := some 50) (v := ?_) (a' := ?_) (lsb 12 255) rfl rfl (by as_aux_lemma => kernel_rfl) (fun _ _ _ h => h) (Or.inl ⟨by rfl, ?_⟩) ?_ ?_; rotate_left; (intro w'; go_simp; with_reducible rfl); rotate_left; (simp only [Act.put, List.setIfInBounds_toArray, List.set_cons_zero, List.set_cons_succ, i64_w, i32_w]; rfl)
      refine pure_ (i := 8) (N := some 58) (v := ?_) (a' := ?_) (lsb 12 511) rfl rfl (by as_aux_lemma => kernel_rfl) (fun _ _ _ h => h) (Or.inl ⟨by rfl, ?_⟩) ?_ ?_; rotate_left; (intro w'; go_simp; with_reducible rfl); rotate_left; (simp only [Act.put, List.setIfInBounds_toArray, List.set_cons_zero, List.set_cons_succ, i64_w, i32_w]; rfl)
      refine pure_ (i := 9) (N := some 59) (v := ?_) (a' := ?_) (lsb 12 1023) rfl rfl (by as_aux_lemma => kernel_rfl) (fun _ _ _ h => h) (Or.inl ⟨by rfl, ?_⟩) ?_ ?_; rotate_left; (intro w'; go_simp; with_reducible rfl); rotate_left; (simp only [Act.put, List.setIfInBounds_toArray, List.set_cons_zero, List.set_cons_succ, i64_w, i32_w]; rfl)
      refine last_ (i := 10) (N := none) (lsb 12 2047) rfl rfl (by kernel_rfl) (by decide) (fun K hK => ?_)
      obtain ⟨r0, r1, r2⟩ := three K5.out
      have hfz := fun o => blk_frozen K5.out o
      refine skip_ (w1 := ?_) (by rfl) rfl ?_ ?_
      rotate_left
      · go_simp
        rfl
      clear r0 r1 r2 hfz
      refine hK.out _ _ ?_
      clear hK K
      refine pure_ (i := 11) (N := some 9) (v := ?_) (a' := ?_) (lsb 12 4095) rfl rfl (by as_aux_lemma => kernel_rfl) (fun _ _ _ h => h) (Or.inl ⟨by rfl, ?_⟩) ?_ ?_; rotate_left; (intro w'; go_simp; with_reducible rfl); rotate_left; (simp only [Act.put, List.setIfInBounds_toArray, List.set_cons_zero, List.set_cons_succ, i64_w, i32_w]; rfl)
      refine done_ (by kernel_rfl) ?_
      
      have hp : PlayQ (fun k => Fb k ∨ k = rb ∨ k = xb) Fc ws wb.heap.size (World.setCell (World.setCell (World.setCell w9 ⟨xb, 0, none⟩ (.slice A1 (refS sv M1 x).length c1)) ⟨xb, 1, none⟩ (.slice A2 (stepS sv x).E.length c2)) ⟨xb, 2, none⟩ (.int .i64 (stepS sv x).day)) gc xb (stepS sv x) (madeS sv M1 x) := PlayQ.step (t := stepS sv x) (N := madeS sv M1 x) HBK_25.out.fb HQ.out HQR.out RZ_26.out rfl HF.out CH_28.out K1.out K2.out K3.out K4.out
      generalize (World.setCell (World.setCell (World.setCell w9 ⟨xb, 0, none⟩ (.slice A1 (refS sv M1 x).length c1)) ⟨xb, 1, none⟩ (.slice A2 (stepS sv x).E.length c2)) ⟨xb, 2, none⟩ (.int .i64 (stepS sv x).day)) = w30 at hp ⊢
      have HPN := lhid hp
      clear hp HBK_25 RZ_26 ST_27 CH_28 BQ_29 K1 K2 K3 K4 K5
      go_wp2_with fail
      try any_goals (exfalso; omega)
      go_roundw
      case rel => exact ⟨i + 1, by omega, rfl, by simp, lhid (by rw [HSX.out, HMX.out]; exact HPN.out)⟩
      case measure => simp [intOf]; omega
    have hie : i = l1.length := by omega
    subst hie
    rw [List.take_length] at HPr
    have hlt2 : ¬ (l1.length : Int) < (l1.length : Int) := by omega
    clear hi hlt
    have HSx := lhid (madeF_end HS.out l1)
    have HELx := lhid (show (runS s l1).E.length ≤ 100 by have h1 := (run_len l1 s).2; have h2 := HEL.out; omega)
    obtain ⟨sx, hs⟩ : ∃ q : St, q = runS s l1 := ⟨_, rfl⟩
    obtain ⟨Mx, hM⟩ : ∃ q, q = madeF s M l1 l1.length := ⟨_, rfl⟩
    rw [← hs, ← hM] at HPr HSx
    rw [← hs] at HELx
    clear hs hM
    obtain ⟨w2, hw2⟩ : ∃ q : World, q = wr := ⟨_, rfl⟩
    rw [← hw2] at HPr ⊢
    clear hw2
    obtain ⟨F1, AGx, cGx, AEx, cEx, hbk, hq, hqr, hrz, hst, hf0, hch⟩ := HPr.out
    have HXK := lhid hbk
    have HXQ := lhid hq
    have HXZ := lhid hrz
    have HXS := lhid hst
    have HXF := lhid hf0
    have HXC := lhid hch
    clear hbk hq hqr hrz hst hf0 hch HPr
    have HBW2 := lhid (show Below wb.heap.size wb w2 from HBW.out.trans (HXC.out.below HBW.out.size HFC.out))
    have HBK2 := lhid (show BK wb.heap.size Fb w2 g s.day s.G s.E from HBKs.out.far HXC.out (fun k q z => by
      obtain ⟨h1, h2, h3, h4, h5⟩ := HNB.out
      have h6 := h3 k q
      rcases z with z | z
      · have h7 := h4 k z; omega
      · omega))
    have HRZ2 := lhid (show w2.heap[rb]? = some (.cells #[.slice AG (refG s.G M).length cG, .slice AE s.E.length cE, .int .i64 s.day] 51) from HXC.out.blk HRZs.out (fun z => by
      obtain ⟨h1, h2, h3, h4, h5⟩ := HNB.out
      rcases z with z | z
      · have h7 := h4 rb z; omega
      · omega))
    have HQB := lhid (show ∀ k, (F1 k ∨ k = xb ∨ k = rb) → ¬ Fb k ∧ wb.heap.size ≤ k ∧ k < w2.heap.size from fun k q => by
      obtain ⟨h1, h2, h3, h4, h5⟩ := HNB.out
      have hs := HXC.out.size
      have h6 := h3 k
      rcases q with q | q | q
      · have h7 := HXK.out.fb k q
        refine ⟨fun z => ?_, h7⟩
        have h8 := h6 z
        rcases HXF.out k q with r | r
        · have h9 := h4 k r; omega
        · omega
      · exact ⟨fun z => by have h8 := h6 z; omega, by omega, by omega⟩
      · exact ⟨fun z => by have h8 := h6 z; omega, by omega, by omega⟩)
    have HFB := lhid (show ∀ k, (Fb k ∨ k = rb) → wb.heap.size ≤ k from fun k q => by
      obtain ⟨h1, h2, h3, h4, h5⟩ := HNB.out
      rcases q with q | q
      · exact (h3 k q).1
      · omega)
    have HST2 := lhid (show Stay (fun k => Fb k ∨ (F1 k ∨ k = xb ∨ k = rb)) w2 AG cG (refG s.G M) AE cE s.E from HSA.out.next (HXC.out.mono (fun k _ q => q.elim (fun z => Or.inr (Or.inl z)) (fun z => Or.inr (Or.inr (Or.inr z))))) (fun k hk q => by
      rcases q with q | q | q | q
      · exact Or.inl q
      · rcases HXF.out k q with r | r
        · exact Or.inr (Or.inl r)
        · omega
      · exact Or.inr (Or.inr (Or.inr q))
      · exact Or.inr (Or.inr (Or.inl q))))
    have HP1 := lhid (show PlayQ (fun k => F1 k ∨ k = xb ∨ k = rb) Fb w2 wb.heap.size w2 g rb s M from ⟨Fb, AG, cG, AE, cE, HBK2.out, HQB.out, Or.inr (Or.inr rfl), HRZ2.out, HST2.out, fun k q => Or.inl q, Chg.refl _ _⟩)
    clear HBK2 HRZ2 HST2 HSA HBKs HRZs HCKs HXC
    go_upto_region 15 with (fail)
    try any_goals (exfalso; omega)
    go_loopw [9, 13] (fun ok t wr => ∃ i : Nat, i ≤ l2.length ∧ ok = .bool true ∧ t = .int .i64 i ∧ Hid (PlayQ (fun k => F1 k ∨ k = xb ∨ k = rb) Fb w2 wb.heap.size wr g rb (runS s (l2.take i)) (madeF s M l2 i))) (fun ok t _ => l2.length - (intOf t).toNat)
    case atStart => exact ⟨0, Nat.zero_le _, rfl, rfl, HP1⟩
    case round =>
      obtain ⟨i, hi, rfl, rfl, HPr⟩ := hrel
      clear HP1
      by_cases hlt : i < l2.length
      · have hlt2 : (i : Int) < (l2.length : Int) := by omega
        have HSX := lhid (runS_take s l2 i hlt)
        have HSM := lhid (madeF_s HS.out l2 i (by omega))
        have HMX := lhid (show madeF s M l2 (i + 1) = madeS (runS s (l2.take i)) (madeF s M l2 i) (l2.getD i z37) from rfl)
        have HEL := lhid (show (runS s (l2.take i)).E.length ≤ 100 by have h1 := (run_len (l2.take i) s).2; rw [List.length_take] at h1; have h2 := (show s.E.length + l2.length ≤ 100 by have h3 := HEL.out; omega); omega)
        obtain ⟨x, hx⟩ : ∃ x, x = l2.getD i z37 := ⟨_, rfl⟩
        have HKX := lhid (HK2.out _ (mem_getD hlt))
        rw [← hx] at HSX HKX HMX
        obtain ⟨sv, hs⟩ : ∃ q : St, q = runS s (l2.take i) := ⟨_, rfl⟩
        obtain ⟨M1, hM⟩ : ∃ M1, M1 = madeF s M l2 i := ⟨_, rfl⟩
        rw [← hs] at HSX HSM HMX HEL HPr
        rw [← hM] at HSM HMX HPr
        have HX := lhid hx
        clear hs hM hx
        obtain ⟨F, AG, cG, AE, cE, hbk, hq, hqr, hrz, hst, hf0, hch⟩ := HPr.out
        have HBK := lhid hbk
        have HQ := lhid hq
        have HQR := lhid hqr
        have HRZ := lhid hrz
        have HST := lhid hst
        have HF := lhid hf0
        have HCH := lhid hch
        clear hbk hq hqr hrz hst hf0 hch HPr
        have HBQ := lhid (show Bk wb.heap.size F wr g sv from HBK.out)
        obtain ⟨ad, eA, -⟩ := at_T37 (Kd.C_below HRB2.out (HBW2.out.trans (HCH.out.below (by have h1 := HCH.out.size; have h2 := HBW2.out.size; exact h2) HFB.out))) (i : Int) (by omega) (by omega)
        subst eA
        go_upto_region 17 with (fail)
        try any_goals (exfalso; omega)
        have hb := below_drew1 (Below.refl wr.heap.size wr)
        have HBK_30 := lhid (HBK.out.next hb)
        have RZ_31 := lhid (blk_below HRZ.out hb)
        have ST_32 := lhid (HST.out.next (Chg.of_below hb) (fun _ _ q => q))
        have CH_33 := lhid (HCH.out.next hb)
        have BQ_34 := lhid (show Bk wb.heap.size F _ g sv from BK.next HBQ.out hb)
        clear HBK HRZ HST HCH HBQ hb
        refine start_ (n := 12) (S := fun w' => w'.cell? ⟨rb, 0, none⟩ = some (.slice AG (refG sv.G M1).length cG) ∧ w'.cell? ⟨rb, 1, none⟩ = some (.slice AE sv.E.length cE) ∧ w'.cell? ⟨rb, 2, none⟩ = some (.int .i64 sv.day) ∧ w'.cell? (ad.add (i * 11)) = some (.int .u8 x.f0) ∧ w'.cell? ⟨(ad.add (i * 11)).block, (ad.add (i * 11)).off + 1, none⟩ = some (.int .i64 x.f1) ∧ w'.cell? ⟨(ad.add (i * 11)).block, (ad.add (i * 11)).off + 2, none⟩ = some (.int .i64 x.f2) ∧ w'.cell? ⟨(ad.add (i * 11)).block, (ad.add (i * 11)).off + 3, none⟩ = some (.int .i64 x.f3) ∧ w'.cell? ⟨(ad.add (i * 11)).block, (ad.add (i * 11)).off + 4, none⟩ = some (.int .i64 x.f4) ∧ w'.cell? ⟨(ad.add (i * 11)).block, (ad.add (i * 11)).off + 5, none⟩ = some (.int .i64 x.f5) ∧ w'.cell? ⟨(ad.add (i * 11)).block, (ad.add (i * 11)).off + 6, none⟩ = some (.int .i64 x.f6) ∧ w'.cell? ⟨(ad.add (i * 11)).block, (ad.add (i * 11)).off + 7, none⟩ = some (.int .i64 x.f7) ∧ w'.cell? ⟨(ad.add (i * 11)).block, (ad.add (i * 11)).off + 8, none⟩ = some (.int .i64 x.f8) ∧ w'.cell? ⟨(ad.add (i * 11)).block, (ad.add (i * 11)).off + 9, none⟩ = some (.int .i64 x.f9) ∧ w'.cell? ⟨(ad.add (i * 11)).block, (ad.add (i * 11)).off + 10, none⟩ = some (.int .i64 x.f10)) (ds := [6, 10]) (lsb 12 0) (by kernel_rfl) rfl (by kernel_rfl) ⟨(three RZ_31.out).1, (three RZ_31.out).2.1, (three RZ_31.out).2.2, (by obtain ⟨ad', eA', x0, x1, x2, x3, x4, x5, x6, x7, x8, x9, x10⟩ := at_T37 (Kd.C_below HRB2.out (HBW2.out.trans (CH_33.out.below (by have h1 := CH_33.out.size; have h2 := HBW2.out.size; exact h2) HFB.out))) (i : Int) (by omega) (by omega); cases eA'; simp only [rd_T37, Int.toNat_natCast] at x0; rw [HX.out]; exact x0), (by obtain ⟨ad', eA', x0, x1, x2, x3, x4, x5, x6, x7, x8, x9, x10⟩ := at_T37 (Kd.C_below HRB2.out (HBW2.out.trans (CH_33.out.below (by have h1 := CH_33.out.size; have h2 := HBW2.out.size; exact h2) HFB.out))) (i : Int) (by omega) (by omega); cases eA'; simp only [rd_T37, Int.toNat_natCast] at x1; rw [HX.out]; exact x1), (by obtain ⟨ad', eA', x0, x1, x2, x3, x4, x5, x6, x7, x8, x9, x10⟩ := at_T37 (Kd.C_below HRB2.out (HBW2.out.trans (CH_33.out.below (by have h1 := CH_33.out.size; have h2 := HBW2.out.size; exact h2) HFB.out))) (i : Int) (by omega) (by omega); cases eA'; simp only [rd_T37, Int.toNat_natCast] at x2; rw [HX.out]; exact x2), (by obtain ⟨ad', eA', x0, x1, x2, x3, x4, x5, x6, x7, x8, x9, x10⟩ := at_T37 (Kd.C_below HRB2.out (HBW2.out.trans (CH_33.out.below (by have h1 := CH_33.out.size; have h2 := HBW2.out.size; exact h2) HFB.out))) (i : Int) (by omega) (by omega); cases eA'; simp only [rd_T37, Int.toNat_natCast] at x3; rw [HX.out]; exact x3), (by obtain ⟨ad', eA', x0, x1, x2, x3, x4, x5, x6, x7, x8, x9, x10⟩ := at_T37 (Kd.C_below HRB2.out (HBW2.out.trans (CH_33.out.below (by have h1 := CH_33.out.size; have h2 := HBW2.out.size; exact h2) HFB.out))) (i : Int) (by omega) (by omega); cases eA'; simp only [rd_T37, Int.toNat_natCast] at x4; rw [HX.out]; exact x4), (by obtain ⟨ad', eA', x0, x1, x2, x3, x4, x5, x6, x7, x8, x9, x10⟩ := at_T37 (Kd.C_below HRB2.out (HBW2.out.trans (CH_33.out.below (by have h1 := CH_33.out.size; have h2 := HBW2.out.size; exact h2) HFB.out))) (i : Int) (by omega) (by omega); cases eA'; simp only [rd_T37, Int.toNat_natCast] at x5; rw [HX.out]; exact x5), (by obtain ⟨ad', eA', x0, x1, x2, x3, x4, x5, x6, x7, x8, x9, x10⟩ := at_T37 (Kd.C_below HRB2.out (HBW2.out.trans (CH_33.out.below (by have h1 := CH_33.out.size; have h2 := HBW2.out.size; exact h2) HFB.out))) (i : Int) (by omega) (by omega); cases eA'; simp only [rd_T37, Int.toNat_natCast] at x6; rw [HX.out]; exact x6), (by obtain ⟨ad', eA', x0, x1, x2, x3, x4, x5, x6, x7, x8, x9, x10⟩ := at_T37 (Kd.C_below HRB2.out (HBW2.out.trans (CH_33.out.below (by have h1 := CH_33.out.size; have h2 := HBW2.out.size; exact h2) HFB.out))) (i : Int) (by omega) (by omega); cases eA'; simp only [rd_T37, Int.toNat_natCast] at x7; rw [HX.out]; exact x7), (by obtain ⟨ad', eA', x0, x1, x2, x3, x4, x5, x6, x7, x8, x9, x10⟩ := at_T37 (Kd.C_below HRB2.out (HBW2.out.trans (CH_33.out.below (by have h1 := CH_33.out.size; have h2 := HBW2.out.size; exact h2) HFB.out))) (i : Int) (by omega) (by omega); cases eA'; simp only [rd_T37, Int.toNat_natCast] at x8; rw [HX.out]; exact x8), (by obtain ⟨ad', eA', x0, x1, x2, x3, x4, x5, x6, x7, x8, x9, x10⟩ := at_T37 (Kd.C_below HRB2.out (HBW2.out.trans (CH_33.out.below (by have h1 := CH_33.out.size; have h2 := HBW2.out.size; exact h2) HFB.out))) (i : Int) (by omega) (by omega); cases eA'; simp only [rd_T37, Int.toNat_natCast] at x9; rw [HX.out]; exact x9), (by obtain ⟨ad', eA', x0, x1, x2, x3, x4, x5, x6, x7, x8, x9, x10⟩ := at_T37 (Kd.C_below HRB2.out (HBW2.out.trans (CH_33.out.below (by have h1 := CH_33.out.size; have h2 := HBW2.out.size; exact h2) HFB.out))) (i : Int) (by omega) (by omega); cases eA'; simp only [rd_T37, Int.toNat_natCast] at x10; rw [HX.out]; exact x10)⟩ (fun hHeld => ?_)
        generalize wr.drew = w121 at HBK_30 RZ_31 ST_32 CH_33 BQ_34 hHeld ⊢
        refine pure_ (i := 0) (N := some 70) (v := ?_) (a' := ?_) (lsb 12 1) rfl rfl (by as_aux_lemma => kernel_rfl) (fun _ _ _ h => h) (Or.inl ⟨by rfl, ?_⟩) ?_ ?_; rotate_left; (intro w'; go_simp; with_reducible rfl); rotate_left; (simp only [Act.put, List.setIfInBounds_toArray, List.set_cons_zero, List.set_cons_succ, i64_w, i32_w]; rfl)
        refine pure_ (i := 2) (N := some 72) (v := ?_) (a' := ?_) (lsb 12 5) rfl rfl (by as_aux_lemma => kernel_rfl) (fun _ _ _ h => h) (Or.inl ⟨by rfl, ?_⟩) ?_ ?_; rotate_left; (intro w'; go_simp; with_reducible rfl); rotate_left; (simp only [Act.put, List.setIfInBounds_toArray, List.set_cons_zero, List.set_cons_succ, i64_w, i32_w]; rfl)
        refine pure_ (i := 3) (N := some 73) (v := ?_) (a' := ?_) (lsb 12 13) rfl rfl (by as_aux_lemma => kernel_rfl) (fun _ _ _ h => h) (Or.inl ⟨by rfl, ?_⟩) ?_ ?_; rotate_left; (intro w'; go_simp; with_reducible rfl); rotate_left; (simp only [Act.put, List.setIfInBounds_toArray, List.set_cons_zero, List.set_cons_succ, i64_w, i32_w]; rfl)
        refine pure_ (i := 4) (N := some 74) (v := ?_) (a' := ?_) (lsb 12 29) rfl rfl (by as_aux_lemma => kernel_rfl) (fun _ _ _ h => h) (Or.inl ⟨by rfl, ?_⟩) ?_ ?_; rotate_left; (intro w'; go_simp; with_reducible rfl); rotate_left; (simp only [Act.put, List.setIfInBounds_toArray, List.set_cons_zero, List.set_cons_succ, i64_w, i32_w]; rfl)
        refine take_ (i := 1) (N := some 71) (v := ?_) (a' := ?_) (lsb 12 31) rfl rfl (by as_aux_lemma => kernel_rfl) (fun _ _ _ h => h) (Or.inl ⟨by rfl, ?_⟩) hHeld ?_ ?_; rotate_left; (rintro w' ⟨s0, s1, s2, s3, s4, s5, s6, s7, s8, s9, s10, s11, s12, s13⟩; go_simp; with_reducible rfl); rotate_left; (simp only [Act.put, List.setIfInBounds_toArray, List.set_cons_zero, List.set_cons_succ, i64_w, i32_w]; rfl)
        refine take_ (i := 5) (N := some 75) (v := ?_) (a' := ?_) (lsb 12 63) rfl rfl (by as_aux_lemma => kernel_rfl) (fun _ _ _ h => h) (Or.inl ⟨by rfl, ?_⟩) hHeld ?_ ?_; rotate_left; (rintro w' ⟨s0, s1, s2, s3, s4, s5, s6, s7, s8, s9, s10, s11, s12, s13⟩; go_simp; with_reducible rfl); rotate_left; (simp only [Act.put, List.setIfInBounds_toArray, List.set_cons_zero, List.set_cons_succ, i64_w, i32_w]; rfl)
        refine last_ (i := 6) (N := some 76) (lsb 12 127) rfl rfl (by kernel_rfl) (by decide) (fun K hK => ?_)
        refine goes_ Try.func36 (by kernel_rfl) rfl #[.pointer (some ⟨g, 0, none⟩), .agg #[.slice AG (refG sv.G M1).length cG, .slice AE sv.E.length cE, .int .i64 sv.day], .agg #[.int .u8 x.f0, .int .i64 x.f1, .int .i64 x.f2, .int .i64 x.f3, .int .i64 x.f4, .int .i64 x.f5, .int .i64 x.f6, .int .i64 x.f7, .int .i64 x.f8, .int .i64 x.f9, .int .i64 x.f10]] (by rfl) rfl rfl (by (try simp only [List.map_toArray, List.map_cons, List.map_nil]); first | done | rfl) ?_
        with_reducible refine (do_calls wb.heap.size g F _ sv M1 x AG cG (refG sv.G M1) AE cE sv.E sv.day BQ_34.out (fun k => F1 k ∨ k = xb ∨ k = rb) ST_32.out (fun k q => Nat.lt_of_lt_of_le (HQ.out k q).2.2 CH_33.out.size) HSM.out rfl rfl rfl HKX.out HEL.out).mono ?_
        rintro e w9 ⟨b, F4, rfl, h1, h2, h3, ⟨A1, c1, A2, c2, rfl, h4⟩⟩
        refine ⟨_, rfl, ?_⟩
        have K1 := lhid h1
        have K2 := lhid h2
        have K3 := lhid h3
        have K4 := lhid h4
        have K5 := lhid (h3.blk RZ_31.out (HQ.out _ HQR.out).1)
        clear h1 h2 h3 h4
        refine hK.out _ _ ?_
        clear hK K
        refine norm_ (a' := ?_) ?_ ?_
        rotate_left
        · show Act.put _ (some 76) _ = _
          simp only [Act.put, List.setIfInBounds_toArray, List.set_cons_zero, List.set_cons_succ, i64_w, i32_w]
          rfl
        refine pure_ (i := 7) (N := some 69) (v := ?_) (a' := ?_) (lsb 12 255) rfl rfl (by as_aux_lemma => kernel_rfl) (fun _ _ _ h => h) (Or.inl ⟨by rfl, ?_⟩) ?_ ?_; rotate_left; (intro w'; go_simp; with_reducible rfl); rotate_left; (simp only [Act.put, List.setIfInBounds_toArray, List.set_cons_zero, List.set_cons_succ, i64_w, i32_w]; rfl)
        refine pure_ (i := 8) (N := some 77) (v := ?_) (a' := ?_) (lsb 12 511) rfl rfl (by as_aux_lemma => kernel_rfl) (fun _ _ _ h => h) (Or.inl ⟨by rfl, ?_⟩) ?_ ?_; rotate_left; (intro w'; go_simp; with_reducible rfl); rotate_left; (simp only [Act.put, List.setIfInBounds_toArray, List.set_cons_zero, List.set_cons_succ, i64_w, i32_w]; rfl)
        refine pure_ (i := 9) (N := some 78) (v := ?_) (a' := ?_) (lsb 12 1023) rfl rfl (by as_aux_lemma => kernel_rfl) (fun _ _ _ h => h) (Or.inl ⟨by rfl, ?_⟩) ?_ ?_; rotate_left; (intro w'; go_simp; with_reducible rfl); rotate_left; (simp only [Act.put, List.setIfInBounds_toArray, List.set_cons_zero, List.set_cons_succ, i64_w, i32_w]; rfl)
        refine last_ (i := 10) (N := none) (lsb 12 2047) rfl rfl (by kernel_rfl) (by decide) (fun K hK => ?_)
        obtain ⟨r0, r1, r2⟩ := three K5.out
        have hfz := fun o => blk_frozen K5.out o
        refine skip_ (w1 := ?_) (by rfl) rfl ?_ ?_
        rotate_left
        · go_simp
          rfl
        clear r0 r1 r2 hfz
        refine hK.out _ _ ?_
        clear hK K
        refine pure_ (i := 11) (N := some 9) (v := ?_) (a' := ?_) (lsb 12 4095) rfl rfl (by as_aux_lemma => kernel_rfl) (fun _ _ _ h => h) (Or.inl ⟨by rfl, ?_⟩) ?_ ?_; rotate_left; (intro w'; go_simp; with_reducible rfl); rotate_left; (simp only [Act.put, List.setIfInBounds_toArray, List.set_cons_zero, List.set_cons_succ, i64_w, i32_w]; rfl)
        refine done_ (by kernel_rfl) ?_
        
        have hp : PlayQ (fun k => F1 k ∨ k = xb ∨ k = rb) Fb w2 wb.heap.size (World.setCell (World.setCell (World.setCell w9 ⟨rb, 0, none⟩ (.slice A1 (refS sv M1 x).length c1)) ⟨rb, 1, none⟩ (.slice A2 (stepS sv x).E.length c2)) ⟨rb, 2, none⟩ (.int .i64 (stepS sv x).day)) g rb (stepS sv x) (madeS sv M1 x) := PlayQ.step (t := stepS sv x) (N := madeS sv M1 x) HBK_30.out.fb HQ.out HQR.out RZ_31.out rfl HF.out CH_33.out K1.out K2.out K3.out K4.out
        generalize (World.setCell (World.setCell (World.setCell w9 ⟨rb, 0, none⟩ (.slice A1 (refS sv M1 x).length c1)) ⟨rb, 1, none⟩ (.slice A2 (stepS sv x).E.length c2)) ⟨rb, 2, none⟩ (.int .i64 (stepS sv x).day)) = w30 at hp ⊢
        have HPN := lhid hp
        clear hp HBK_30 RZ_31 ST_32 CH_33 BQ_34 K1 K2 K3 K4 K5
        go_wp2_with fail
        try any_goals (exfalso; omega)
        go_roundw
        case rel => exact ⟨i + 1, by omega, rfl, by simp, lhid (by rw [HSX.out, HMX.out]; exact HPN.out)⟩
        case measure => simp [intOf]; omega
      have hie : i = l2.length := by omega
      subst hie
      rw [List.take_length] at HPr
      have hlt2 : ¬ (l2.length : Int) < (l2.length : Int) := by omega
      clear hi hlt
      have HSy := lhid (madeF_end HS.out l2)
      have HELy := lhid (show (runS s l2).E.length ≤ 100 by have h1 := (run_len l2 s).2; have h2 := HEL.out; omega)
      obtain ⟨sy, hs⟩ : ∃ q : St, q = runS s l2 := ⟨_, rfl⟩
      obtain ⟨My, hM⟩ : ∃ q, q = madeF s M l2 l2.length := ⟨_, rfl⟩
      rw [← hs, ← hM] at HPr HSy
      rw [← hs] at HELy
      clear hs hM
      obtain ⟨F2, AGy, cGy, AEy, cEy, hbk, hq, hqr, hrz, hst, hf0, hch⟩ := HPr.out
      have HYK := lhid hbk
      have HYZ := lhid hrz
      have HYS := lhid (hst.rb (Below.refl _ _))
      have HXK2 := lhid (show BK wb.heap.size F1 wr gc sx.day sx.G sx.E from HXK.out.far hch (fun k q z => by
        rcases z with z | z
        · exact (HQB.out k (Or.inl q)).1 z
        · exact (HXQ.out rb (Or.inr (Or.inl rfl))).1 (z ▸ q)))
      have HXZ2 := lhid (show wr.heap[xb]? = some (.cells #[.slice AGx (refG sx.G Mx).length cGx, .slice AEx sx.E.length cEx, .int .i64 sx.day] 51) from hch.blk HXZ.out (fun z => by
        obtain ⟨h1, h2, h3, h4, h5⟩ := HNB.out
        rcases z with z | z
        · have h7 := h3 xb z; omega
        · omega))
      have HXS2 := lhid (HXS.out wr (hch.mono (fun k _ q => q.elim (fun z => Or.inr (Or.inl z)) (fun z => Or.inr (Or.inr (Or.inl z))))))
      have HBX := lhid (show Below wb.heap.size wb wr from HBW2.out.trans (hch.below HBW2.out.size HFB.out))
      clear hbk hq hqr hrz hst hf0 hch HPr
      have HSH := lhid (shows_calls wb.heap.size gc F1 wr sx Mx _ _ (refG (sx).G (Mx)) _ _ (sx).E (sx).day HXK2.out HXS2.out HSx.out rfl rfl rfl HELx.out)
      obtain ⟨r0, r1, r2⟩ := three HXZ2.out
      go_wp2_with fail
      try any_goals (exfalso; omega)
      with_reducible refine HSH.out.mono ?_
      rintro e w801 ⟨rfl, hb⟩
      clear HSH r0 r1 r2
      have XK_35 := lhid (HXK2.out.next hb)
      have XZ_36 := lhid (blk_below HXZ2.out hb)
      have XS_37 := lhid (HXS2.out.next hb)
      have YK_38 := lhid (HYK.out.next hb)
      have YZ_39 := lhid (blk_below HYZ.out hb)
      have YS_40 := lhid (HYS.out.next hb)
      have HB_41 := lhid (below_then HBX.out HBX.out.size hb)
      clear HXK2 HXZ2 HXS2 HYK HYZ HYS HBX hb
      have HSH := lhid (shows_calls wb.heap.size g F2 w801 sy My _ _ (refG (sy).G (My)) _ _ (sy).E (sy).day YK_38.out YS_40.out HSy.out rfl rfl rfl HELy.out)
      obtain ⟨r0, r1, r2⟩ := three YZ_39.out
      go_wp2_with fail
      try any_goals (exfalso; omega)
      with_reducible refine HSH.out.mono ?_
      rintro e w802 ⟨rfl, hb⟩
      clear HSH r0 r1 r2
      have XK_42 := lhid (XK_35.out.next hb)
      have XZ_43 := lhid (blk_below XZ_36.out hb)
      have XS_44 := lhid (XS_37.out.next hb)
      have YK_45 := lhid (YK_38.out.next hb)
      have YZ_46 := lhid (blk_below YZ_39.out hb)
      have YS_47 := lhid (YS_40.out.next hb)
      have HB_48 := lhid (below_then HB_41.out HB_41.out.size hb)
      clear XK_35 XZ_36 XS_37 YK_38 YZ_39 YS_40 HB_41 hb
      have HBZ := lhid (below_then HWB.out HWB.out.size (show Below wb.heap.size wb w802 from HB_48.out))
      go_wp2_with fail
      with_reducible refine (alive_calls w802).mono ?_
      rintro e w1203 ⟨rfl, hb⟩
      have HB_49 := lhid (below_then HBZ.out HBZ.out.size hb)
      clear HBZ hb
      go_wp2_with fail
      go_ret
      exact ⟨rfl, HB_49.out⟩
theorem custodyCopies_pure : kimberlitelaw06_CustodyCopies.Pure2 := fun _ _ _ h0 h1 h2 => ⟨0, h0, h1, h2, trivial⟩
end Go.Proofs.Ytfnlghjkjmppdaa.PC
end
