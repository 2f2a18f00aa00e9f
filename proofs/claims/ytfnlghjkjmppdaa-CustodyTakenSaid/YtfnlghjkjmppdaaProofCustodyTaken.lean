/- CustodyTaken: what a revocation takes, and that it stays taken. The law's function walked by hand. -/
import Derived.Test.YtfnlghjkjmppdaaPCxPureCustodyTaken
import Derived.Test.YtfnlghjkjmppdaaCBn
import Derived.Test.YtfnlghjkjmppdaaPCx2
namespace Go.Proofs.Ytfnlghjkjmppdaa.PC
open Go.RowKit Go.Proofs.YtfnlghjkjmppdaaW.PrintWords Go.Proofs.YtfnlghjkjmppdaaW.PrintLast Go.Proofs.YtfnlghjkjmppdaaW.PrintMore Go.Proofs.Ytfnlghjkjmppdaa.Opn
set_option linter.unusedVariables false
set_option linter.unusedSimpArgs false
set_option maxHeartbeats 12800000 in
set_option maxRecDepth 100000 in
theorem kimberlitelaw06_CustodyTaken.calls (k : Nat) (A0 : Option Addr) (c0 : Nat) (l0 : List (S37)) (a1 a2 : Int) (A3 : Option Addr) (c3 : Nat) (l3 : List (S37)) (w : World) (hr0 : Kd.C k37 w A0 l0.length l0) (hc0 : l0.length ≤ c0) (hr3 : Kd.C k37 w A3 l3.length l3) (hc3 : l3.length ≤ c3) (h : kimberlitelaw06_CustodyTaken.ok l0 a1 a2 l3) : Calls Try.prog 7 #[.slice A0 l0.length c0, .int .i64 a1, .int .i64 a2, .slice A3 l3.length c3] w fun e w' => e = .returned (.bool true) ∧ Below w.heap.size w w' := by
  have hu37 := Try.underlying37
  have HR0 := lhid hr0
  have HC0 := lhid hc0
  have HR3 := lhid hr3
  have HC3 := lhid hc3
  have HK0 := lhid (show ∀ x ∈ l0, 0 ≤ x.f0 ∧ x.f0 < 256 from fun x hx => wf_u8 (h.1.2 x hx).1)
  have HK3 := lhid (show ∀ x ∈ l3, 0 ≤ x.f0 ∧ x.f0 < 256 from fun x hx => wf_u8 (h.2.2.2.1.2 x hx).1)
  clear hr0 hc0 hr3 hc3 h
  go_enter Try.func7, Try.ntmps7
  have HB_1 := lhid (Below.refl w.heap.size w)
  by_cases hfl0 : (l0.length : Int) ≤ 40
  rotate_left
  · go_wp2_with fail
    with_reducible refine (kimberlitelaw06_few.calls A0 c0 l0 false w (Kd.C_below HR0.out HB_1.out) HC0.out (by unfold kimberlitelaw06_few.f; exact congrArg some (decide_eq_false (by omega)))).mono ?_
    rintro e w1 ⟨rfl, nd, hq⟩
    have hb := pw_below_drewN (Below.refl w.heap.size w) nd
    rw [← hq] at hb
    clear hq
    have HB_2 := lhid (below_then HB_1.out HB_1.out.size hb)
    clear HB_1 hb
    go_wp2_with fail
    with_reducible refine (alive_calls w1).mono ?_
    rintro e w902 ⟨rfl, hb⟩
    have HB_3 := lhid (below_then HB_2.out HB_2.out.size hb)
    clear HB_2 hb
    go_wp2_with fail
    go_ret
    exact ⟨rfl, HB_3.out⟩
  go_wp2_with fail
  with_reducible refine (kimberlitelaw06_few.calls A0 c0 l0 true w (Kd.C_below HR0.out HB_1.out) HC0.out (by unfold kimberlitelaw06_few.f; exact congrArg some (decide_eq_true (by omega)))).mono ?_
  rintro e w1 ⟨rfl, nd, hq⟩
  have hb := pw_below_drewN (Below.refl w.heap.size w) nd
  rw [← hq] at hb
  clear hq
  have HB_4 := lhid (below_then HB_1.out HB_1.out.size hb)
  clear HB_1 hb
  by_cases hfl3 : (l3.length : Int) ≤ 40
  rotate_left
  · go_wp2_with fail
    with_reducible refine (kimberlitelaw06_few.calls A3 c3 l3 false w1 (Kd.C_below HR3.out HB_4.out) HC3.out (by unfold kimberlitelaw06_few.f; exact congrArg some (decide_eq_false (by omega)))).mono ?_
    rintro e w2 ⟨rfl, nd, hq⟩
    have hb := pw_below_drewN (Below.refl w1.heap.size w1) nd
    rw [← hq] at hb
    clear hq
    have HB_5 := lhid (below_then HB_4.out HB_4.out.size hb)
    clear HB_4 hb
    go_wp2_with fail
    with_reducible refine (alive_calls w2).mono ?_
    rintro e w903 ⟨rfl, hb⟩
    have HB_6 := lhid (below_then HB_5.out HB_5.out.size hb)
    clear HB_5 hb
    go_wp2_with fail
    go_ret
    exact ⟨rfl, HB_6.out⟩
  go_wp2_with fail
  with_reducible refine (kimberlitelaw06_few.calls A3 c3 l3 true w1 (Kd.C_below HR3.out HB_4.out) HC3.out (by unfold kimberlitelaw06_few.f; exact congrArg some (decide_eq_true (by omega)))).mono ?_
  rintro e w2 ⟨rfl, nd, hq⟩
  have hb := pw_below_drewN (Below.refl w1.heap.size w1) nd
  rw [← hq] at hb
  clear hq
  have HB_7 := lhid (below_then HB_4.out HB_4.out.size hb)
  clear HB_4 hb
  have hf : l0.length ≤ 40 := by omega
  have hf3 : l3.length ≤ 40 := by omega
  clear hfl0 hfl3
  have HRB := lhid (Kd.C_below HR0.out HB_7.out)
  have HRB3 := lhid (Kd.C_below HR3.out HB_7.out)
  obtain ⟨wb, hwb⟩ : ∃ q : World, q = w2 := ⟨_, rfl⟩
  have HWB := lhid (show Below w.heap.size w wb by rw [hwb]; exact HB_7.out)
  rw [← hwb] at HRB HRB3 ⊢
  clear hwb HB_7
  go_wp2_with fail
  with_reducible refine (book_calls wb A0 c0 l0 HRB.out HC0.out hf HK0.out).mono ?_
  rintro e w1 ⟨g, rfl, h1⟩
  obtain ⟨s, hs⟩ : ∃ s : St, s = runS s0 l0 := ⟨_, rfl⟩
  have HNR := lhid (show Nar s.G by rw [hs]; exact run_nar (s := s0) nil_nar l0)
  have HEL := lhid (show s.E.length ≤ 40 by rw [hs]; have := (run_len l0 s0).2; have h0 : s0.E.length = 0 := rfl; omega)
  rw [← hs] at h1
  clear hs
  obtain ⟨⟨F, hk⟩, hb1, hz1⟩ := h1
  have HBK := lhid hk
  have HBB := lhid hb1
  have HIG := lhid HNR.out.1
  have HTG := lhid HNR.out.1.1
  clear hk hb1
  have htl := HTG.out.1
  go_wp2_with fail
  with_reducible refine (grants_calls wb.heap.size g F w1 s.day s.G s.E HBK.out HTG.out).mono ?_
  rintro e w11 ⟨vG, rfl, hG, hb⟩
  obtain ⟨AG, cG, rfl⟩ := Kd.R_slice hG
  clear hG
  have HBK_8 := lhid (HBK.out.next hb)
  have HB_9 := lhid (below_then HBB.out HBB.out.size hb)
  clear HBK HBB hb
  go_upto_region 5 with (fail)
  have HFL := lhid (show ∀ k, F k → k < w11.heap.size from fun k q => (HBK_8.out.fb k q).2)
  have HS1 := lhid (HBK_8.out.size)
  go_upto_region 7 with (((with_reducible refine gate_dst (N := 46) rfl ?_); refine Kd.R_make Kd.bool (w0 := w11) w11.heap.size 4 rfl (N := 46) rfl 56 _ _ rfl ((s.G.length : Int) + 1) rfl rfl Try.underlying56 (.bool false) 1 info4 rfl (by decide) (by decide) false (ok := fun _ => True) (okp := fun _ => True) rfl (fun _ hk => hk) trivial (by omega) (by omega) (Below.refl _ _) (Nat.le_refl _) ?_; intro v1 w12 ho1 hb1 hg1 hn1; rw [show ((s.G.length : Int) + 1).toNat = s.G.length + 1 by omega] at ho1; obtain ⟨A1, cbw, hv1⟩ := Kd.R_slice ho1; rw [List.length_replicate] at hv1; subst hv1; obtain ⟨bw, hA1, hbw, -⟩ := bool_ad ho1 (by simp); subst hA1; have HQbw := lhid (BBw.of_R ho1 (by simp)); have HLbw := lhid hb1; have HGbw := lhid hbw; clear ho1 hb1 hg1 hn1 hbw))
  have hb := HLbw.out
  have HBK_10 := lhid (HBK_8.out.next hb)
  have HB_11 := lhid (below_then HB_9.out HB_9.out.size hb)
  clear HBK_8 HB_9 hb
  clear HLbw
  have HW0 := lhid (show BBw w12 bw (wasL s.day s.G 0) from HQbw.out)
  clear HQbw
  have HFW := lhid (show ¬ F bw from fun q => by have := HFL.out bw q; have := HGbw.out; omega)
  have HBE := lhid (show wb.heap.size ≤ bw from Nat.le_trans HS1.out HGbw.out)
  clear HGbw HS1 HFL
  go_loopw [12] (fun t wr => ∃ k : Nat, k ≤ s.G.length ∧ t = .int .i64 ((k : Int) + 1) ∧ Hid (BK wb.heap.size F wr g s.day s.G s.E) ∧ Hid (Below wb.heap.size wb wr) ∧ Hid (BBw wr bw (wasL s.day s.G k))) (fun t _ => s.G.length + 1 - (intOf t).toNat)
  case atStart => exact ⟨0, Nat.zero_le _, rfl, HBK_10, HB_11, HW0⟩
  case round =>
    obtain ⟨k, hk, rfl, HBKr_12, HBr_13, HWr_14⟩ := hrel
    clear HBK_10 HB_11 HW0
    by_cases hlt : k < s.G.length
    · have hlt2 : (k : Int) + 1 ≤ (s.G.length : Int) := by omega
      have hst := Stands_ok wb.heap.size g F wr s.day s.G s.E ((k : Int) + 1) HBKr_12.out HTG.out (by omega) (by omega)
      rw [show ((k : Int) + 1).toNat = k + 1 by omega] at hst
      obtain ⟨a, ha⟩ : ∃ a, a = stB s.day s.G (k + 1) := ⟨_, rfl⟩
      rw [← ha] at hst
      have HST := lhid hst
      have HA := lhid ha
      clear hst ha
      go_wp2_with fail
      with_reducible refine (HST.out).mono ?_
      rintro e w13 ⟨rfl, hb⟩
      have HBK_15 := lhid (HBKr_12.out.next hb)
      have HB_16 := lhid (below_then HBr_13.out HBr_13.out.size hb)
      have HW_17 := lhid (HWr_14.out.next hb)
      clear HBKr_12 HBr_13 HWr_14 hb
      clear HST
      have hcb := BBw.cell HW_17.out (k + 1) (by rw [wasL_len]; omega)
      have hfz : ∀ o, w13.frozen? ⟨bw, o, none⟩ = false := fun o => BBw.frz HW_17.out o
      go_upto_region 8 with (fail)
      try any_goals (exfalso; omega)
      clear hcb hfz
      have HBK_18 := lhid (BK.set HBK_15.out (p := ⟨bw, k + 1, none⟩) HFW.out (.bool a))
      have HB_19 := lhid ((HB_16.out).setCell (p := ⟨bw, k + 1, none⟩) HBE.out (.bool a))
      have HW_20 := lhid (show BBw _ bw (wasL s.day s.G (k + 1)) by rw [wasL, ← HA.out]; exact BBw.set HW_17.out (k + 1) (by rw [wasL_len]; omega) a)
      clear HBK_15 HB_16 HW_17
      generalize World.setCell w13 ⟨bw, k + 1, none⟩ (.bool a) = w14 at HBK_18 HB_19 HW_20 ⊢
      go_wp2_with fail
      go_roundw
      case rel => exact ⟨k + 1, by omega, by simp, HBK_18, HB_19, HW_20⟩
      case measure => simp [intOf]; omega
    · have hke : k = s.G.length := by omega
      subst hke
      clear hlt hk
      have HRV := lhid (Revoke_calls wb.heap.size g F wr s.day s.G s.E a1 a2 HBKr_12.out HTG.out)
      go_wp2_with fail
      with_reducible refine HRV.out.mono ?_
      rintro e w40 ⟨he, hg⟩
      clear HRV
      by_cases hc : revC s.G a1 a2 = 0
      · rw [if_pos hc, hc] at he
        rw [if_pos hc] at hg
        obtain ⟨⟨c1, c2⟩, -, -, -⟩ := revC_zero hc
        obtain ⟨m, rfl⟩ : ∃ m : Nat, a1 = (m : Int) := ⟨a1.toNat, by omega⟩
        have hm1 : 1 ≤ m := by omega
        have hm2 : m ≤ s.G.length := by omega
        rw [Int.toNat_natCast] at hg
        rw [cnt_end HTG.out hm1 hm2] at he
        subst he
        clear hc
        have hb3 := (Has.got HBKr_12.out HBr_13.out (Nat.le_refl _) hg).2.1
        obtain ⟨F2, hk2, hf2, hw2⟩ := got_far hg HFW.out (BBw.lt HWr_14.out)
        have HBK2 := lhid hk2
        have HB2 := lhid hb3
        have HFW2 := lhid hf2
        have HW2 := lhid (BBw.keep HWr_14.out hw2)
        clear hg hk2 hf2 hw2 hb3 HBKr_12 HBr_13 HWr_14 HFW
        obtain ⟨H, hH⟩ : ∃ H, H = put8 s.G m true := ⟨_, rfl⟩
        have HHI := lhid (show Inv H by rw [hH]; exact inv_put8 HIG.out hm1 hm2 true)
        have HHL := lhid (show H.length = s.G.length by rw [hH]; exact put8_len _ _ _)
        have HHS := lhid (show ∀ i, 1 ≤ i → i ≤ s.G.length → stB s.day H i = (stB s.day s.G i && !goneB s.G m i) from fun i q1 q2 => by rw [hH]; exact stB_put8 HIG.out hm1 hm2 q1 q2)
        have HHB := lhid (show belowL H m = belowL s.G m by rw [hH]; exact belowL_put8 HIG.out hm1 hm2 true)
        have HKP := lhid (show Kept s.G.length s.E.length (goneB s.G m) ⟨s.day, H, s.E⟩ by rw [hH]; exact kept_new HIG.out hm1 hm2)
        rw [← hH] at HBK2
        clear hH
        obtain ⟨fell, hfell⟩ : ∃ q : Int, q = (cntG s.day s.G m s.G.length : Nat) := ⟨_, rfl⟩
        rw [← hfell]
        have HFE := lhid hfell
        clear hfell
        have HHT := lhid HHI.out.1
        go_upto_region 13 with (fail)
        try any_goals (exfalso; omega)
        have HFL := lhid (show ∀ k, F2 k → k < w40.heap.size from fun k q => (HBK2.out.fb k q).2)
        have HS2 := lhid (HBK2.out.size)
        have HBWL := lhid (BBw.lt HW2.out)
        go_upto_region 14 with (((with_reducible refine gate_dst (N := 77) rfl ?_); refine Kd.R_make Kd.bool (w0 := w40) w40.heap.size 4 rfl (N := 77) rfl 56 _ _ rfl ((s.G.length : Int) + 1) rfl rfl Try.underlying56 (.bool false) 1 info4 rfl (by decide) (by decide) false (ok := fun _ => True) (okp := fun _ => True) rfl (fun _ hk => hk) trivial (by omega) (by omega) (Below.refl _ _) (Nat.le_refl _) ?_; intro v1 w41 ho1 hb1 hg1 hn1; rw [show ((s.G.length : Int) + 1).toNat = s.G.length + 1 by omega] at ho1; obtain ⟨A1, cbg, hv1⟩ := Kd.R_slice ho1; rw [List.length_replicate] at hv1; subst hv1; obtain ⟨bg, hA1, hbw, -⟩ := bool_ad ho1 (by simp); subst hA1; have HQbg := lhid (BBw.of_R ho1 (by simp)); have HLbg := lhid hb1; have HGbg := lhid hbw; clear ho1 hb1 hg1 hn1 hbw))
        have hb := HLbg.out
        have HBK_21 := lhid (HBK2.out.next hb)
        have HB_22 := lhid (below_then HB2.out HB2.out.size hb)
        have HW_23 := lhid (HW2.out.next hb)
        clear HBK2 HB2 HW2 hb
        clear HLbg
        have HFG := lhid (show ¬ F2 bg from fun q => by have := HFL.out bg q; have := HGbg.out; omega)
        have HGE := lhid (show wb.heap.size ≤ bg from Nat.le_trans HS2.out HGbg.out)
        have HNE := lhid (show bw ≠ bg by have := HBWL.out; have := HGbg.out; omega)
        clear HGbg HS2 HFL HBWL
        have hcb := BBw.cell HQbg.out m (by simp; omega)
        have hfz : ∀ o, w41.frozen? ⟨bg, o, none⟩ = false := fun o => BBw.frz HQbg.out o
        go_upto_region 17 with (fail)
        try any_goals (exfalso; omega)
        clear hcb hfz
        have HBK_24 := lhid (BK.set HBK_21.out (p := ⟨bg, m, none⟩) HFG.out (.bool true))
        have HB_25 := lhid ((HB_22.out).setCell (p := ⟨bg, m, none⟩) HGE.out (.bool true))
        have HW_26 := lhid (BBw.far HW_23.out (p := ⟨bg, m, none⟩) HNE.out (.bool true))
        have HG_27 := lhid (BBw.set HQbg.out m (by simp; omega) true)
        clear HBK_21 HB_22 HW_23 HQbg
        generalize World.setCell w41 ⟨bg, m, none⟩ (.bool true) = w42 at HBK_24 HB_25 HW_26 HG_27 ⊢
        obtain ⟨g0, hg0⟩ : ∃ q : List Bool, q = (List.replicate (s.G.length + 1) false).set m true := ⟨_, rfl⟩
        rw [← hg0] at HG_27
        have HG0L := lhid (show g0.length = s.G.length + 1 by rw [hg0]; simp)
        have HG0 := lhid hg0
        clear hg0
        go_wp2_with fail
        with_reducible refine (Below_ok wb.heap.size g F2 w42 s.day H s.E (m : Int) HBK_24.out HHT.out (by omega) (by rw [HHL.out]; omega)).mono ?_
        rintro e w43 ⟨vU, rfl, hU, hb⟩
        rw [Int.toNat_natCast, HHB.out] at hU
        obtain ⟨xs, hxs⟩ : ∃ q, q = belowL s.G m := ⟨_, rfl⟩
        rw [← hxs] at hU
        have HXS := lhid hxs
        have HXR := lhid (show ∀ x ∈ xs, 1 ≤ x ∧ x ≤ s.G.length by rw [hxs]; exact belowL_rng hm2)
        have hxl : xs.length ≤ 128 := by rw [hxs]; exact Nat.le_trans (belL_len s.G m _) (by omega)
        clear hxs
        obtain ⟨AU, cU, rfl⟩ := Kd.R_slice hU
        have HU0 := lhid hU
        clear hU
        have HBK_28 := lhid (HBK_24.out.next hb)
        have HB_29 := lhid (below_then HB_25.out HB_25.out.size hb)
        have HW_30 := lhid (HW_26.out.next hb)
        have HG_31 := lhid (HG_27.out.next hb)
        clear HBK_24 HB_25 HW_26 HG_27 hb
        go_upto_region 19 with (fail)
        have hg00 : BBw w43 bg (setsL g0 (xs.take 0)) := HG_31.out
        have HG1 := lhid hg00
        clear hg00 HG_31
        go_loopw [18] (fun t wr => ∃ k : Nat, k ≤ xs.length ∧ t = .int .i64 (k : Int) ∧ Hid (BK wb.heap.size F2 wr g s.day H s.E) ∧ Hid (Below wb.heap.size wb wr) ∧ Hid (BBw wr bw (wasL s.day s.G s.G.length)) ∧ Hid (BBw wr bg (setsL g0 (xs.take k))) ∧ Hid (Kd.R (Kd.int .i64) 3 wr w42.heap.size (fun _ => True) (.slice AU xs.length cU) xs)) (fun t _ => xs.length - (intOf t).toNat)
        case atStart => exact ⟨0, Nat.zero_le _, rfl, HBK_28, HB_29, HW_30, HG1, HU0⟩
        case round =>
          obtain ⟨k, hk, rfl, HBKr_32, HBr_33, HWr_34, HGr_35, HUr_36⟩ := hrel
          clear HBK_28 HB_29 HW_30 HG1 HU0
          by_cases hlt : k < xs.length
          · have hlt2 : (k : Int) < (xs.length : Int) := by omega
            obtain ⟨ub, hA⟩ := int_ad HUr_36.out (by omega)
            subst hA
            have hcu := int_cell HUr_36.out k hlt
            have hxm : xs.getD k 0 ∈ xs := by rw [List.getD_eq_getElem?_getD, List.getElem?_eq_getElem hlt]; exact List.getElem_mem _
            have hxe : xs.getD k 0 = xs[k] := by rw [List.getD_eq_getElem?_getD, List.getElem?_eq_getElem hlt]; rfl
            obtain ⟨x, hx⟩ : ∃ x, x = xs.getD k 0 := ⟨_, rfl⟩
            rw [← hx] at hcu hxm hxe
            obtain ⟨p1, p2⟩ := HXR.out x hxm
            have HXE := lhid hxe
            clear hx hxm hxe
            obtain ⟨n, hn⟩ : ∃ n : Nat, x = (n : Int) := ⟨x.toNat, by omega⟩
            subst hn
            have hcb := BBw.cell HGr_35.out n (by rw [setsL_len, HG0L.out]; omega)
            have hfz : ∀ o, wr.frozen? ⟨bg, o, none⟩ = false := fun o => BBw.frz HGr_35.out o
            go_upto_region 20 with (fail)
            try any_goals (exfalso; omega)
            clear hcb hfz hcu
            have HBK_37 := lhid (BK.set HBKr_32.out (p := ⟨bg, n, none⟩) HFG.out (.bool true))
            have HB_38 := lhid ((HBr_33.out).setCell (p := ⟨bg, n, none⟩) HGE.out (.bool true))
            have HW_39 := lhid (BBw.far HWr_34.out (p := ⟨bg, n, none⟩) HNE.out (.bool true))
            have HG_40 := lhid (show BBw _ bg (setsL g0 (xs.take (k + 1))) by rw [setsL_take g0 xs k hlt, ← HXE.out, Int.toNat_natCast]; exact BBw.set HGr_35.out n (by rw [setsL_len, HG0L.out]; omega) true)
            have HU_41 := lhid (BBw.other HGr_35.out HUr_36.out (by decide) n (.bool true))
            clear HBKr_32 HBr_33 HWr_34 HGr_35 HUr_36
            generalize World.setCell wr ⟨bg, n, none⟩ (.bool true) = w44 at HBK_37 HB_38 HW_39 HG_40 HU_41 ⊢
            go_wp2_with fail
            go_roundw
            case rel => exact ⟨k + 1, by omega, by simp, HBK_37, HB_38, HW_39, HG_40, HU_41⟩
            case measure => simp [intOf]; omega
          · have hke : k = xs.length := by omega
            subst hke
            obtain ⟨gl, hgl⟩ : ∃ q : List Bool, q = setsL g0 (xs.take xs.length) := ⟨_, rfl⟩
            rw [← hgl] at HGr_35
            have HGL := lhid (show gl = inL s.G m (s.G.length - m) by rw [hgl, List.take_length, HXS.out, HG0.out]; exact gone_end HTG.out hm1 hm2)
            have HGN := lhid (show gl.length = s.G.length + 1 by rw [hgl, setsL_len]; exact HG0L.out)
            have HGG := lhid (show ∀ i, i ≤ s.G.length → gl.getD i false = goneB s.G m i from fun i q => gone_getL s.G hm2 q HGL.out)
            clear hgl hlt hk HGL HG0 HG0L HXS HXR HHB HUr_36
            have hlt2 : ¬ (xs.length : Int) < (xs.length : Int) := by omega
            go_upto_region 26 with (fail)
            clear hlt2
            go_loopw [19, 20] (fun c t wr => ∃ k : Nat, k ≤ s.G.length ∧ c = .int .i64 (cntG s.day s.G m k : Nat) ∧ t = .int .i64 ((k : Int) + 1) ∧ Hid (BK wb.heap.size F2 wr g s.day H s.E) ∧ Hid (Below wb.heap.size wb wr) ∧ Hid (BBw wr bw (wasL s.day s.G s.G.length)) ∧ Hid (BBw wr bg gl)) (fun c t _ => s.G.length + 1 - (intOf t).toNat)
            case atStart => exact ⟨0, Nat.zero_le _, rfl, rfl, HBKr_32, HBr_33, HWr_34, HGr_35⟩
            case round =>
              obtain ⟨k, hk, rfl, rfl, HBKr_42, HBr_43, HWr_44, HGr_45⟩ := hrel
              clear HBKr_32 HBr_33 HWr_34 HGr_35
              by_cases hlt : k < s.G.length
              · have hlt2 : (k : Int) + 1 ≤ (s.G.length : Int) := by omega
                have hst := Stands_ok wb.heap.size g F2 wr s.day H s.E ((k : Int) + 1) HBKr_42.out HHT.out (by omega) (by rw [HHL.out]; omega)
                rw [show ((k : Int) + 1).toNat = k + 1 by omega, HHS.out (k + 1) (by omega) hlt] at hst
                have hcw := BBw.cell HWr_44.out (k + 1) (by rw [wasL_len]; omega)
                have hcg := BBw.cell HGr_45.out (k + 1) (by rw [HGN.out]; omega)
                rw [wasL_get s.day s.G s.G.length (k + 1) (by omega) hlt (Nat.le_refl _)] at hcw
                rw [HGG.out (k + 1) hlt] at hcg
                have hcn : cntG s.day s.G m (k + 1) = if (stB s.day s.G (k + 1) && goneB s.G m (k + 1)) = true then cntG s.day s.G m k + 1 else cntG s.day s.G m k := rfl
                have hcl := cntG_le s.day s.G m k
                obtain ⟨a, ha⟩ : ∃ a, a = stB s.day s.G (k + 1) := ⟨_, rfl⟩
                obtain ⟨b, hb0⟩ : ∃ b, b = goneB s.G m (k + 1) := ⟨_, rfl⟩
                rw [← ha, ← hb0] at hst hcn
                rw [← ha] at hcw
                rw [← hb0] at hcg
                clear ha hb0
                obtain ⟨z, hz⟩ : ∃ z, z = (a && !b) := ⟨_, rfl⟩
                rw [← hz] at hst
                have HST := lhid hst
                have HCN := lhid hcn
                have HCW := lhid hcw
                have HCG := lhid hcg
                clear hst hcn hcw hcg
                have HZ := lhid hz
                clear hz
                go_wp2_with fail
                with_reducible refine (HST.out).mono ?_
                rintro e w44 ⟨rfl, hb⟩
                have HBK_46 := lhid (HBKr_42.out.next hb)
                have HB_47 := lhid (below_then HBr_43.out HBr_43.out.size hb)
                have HW_48 := lhid (HWr_44.out.next hb)
                have HG_49 := lhid (HGr_45.out.next hb)
                have HCW_50 := lhid (pw_cell_below hb HCW.out)
                have HCG_51 := lhid (pw_cell_below hb HCG.out)
                clear HBKr_42 HBr_43 HWr_44 HGr_45 HCW HCG hb
                clear HST
                obtain ⟨cn, hcn0⟩ : ∃ q : Nat, q = cntG s.day s.G m k := ⟨_, rfl⟩
                rw [← hcn0] at hcl HCN ⊢
                clear hcn0
                cases a <;> cases b
                · have hz : z = false := HZ.out
                  subst hz
                  have hcw := HCW_50.out
                  have hcg := HCG_51.out
                  go_wp2_with fail
                  try any_goals (exfalso; omega)
                  clear hcw hcg
                  have hcn := HCN.out
                  go_roundw
                  case rel => exact ⟨k + 1, by omega, by rw [hcn]; simp, by simp, HBK_46, HB_47, HW_48, HG_49⟩
                  case measure => simp [intOf]; omega
                · have hz : z = false := HZ.out
                  subst hz
                  have hcw := HCW_50.out
                  have hcg := HCG_51.out
                  go_wp2_with fail
                  try any_goals (exfalso; omega)
                  clear hcw hcg
                  have hcn := HCN.out
                  go_roundw
                  case rel => exact ⟨k + 1, by omega, by rw [hcn]; simp, by simp, HBK_46, HB_47, HW_48, HG_49⟩
                  case measure => simp [intOf]; omega
                · have hz : z = true := HZ.out
                  subst hz
                  have hcw := HCW_50.out
                  have hcg := HCG_51.out
                  go_wp2_with fail
                  try any_goals (exfalso; omega)
                  clear hcw hcg
                  have hcn := HCN.out
                  go_roundw
                  case rel => exact ⟨k + 1, by omega, by rw [hcn]; simp, by simp, HBK_46, HB_47, HW_48, HG_49⟩
                  case measure => simp [intOf]; omega
                · have hz : z = false := HZ.out
                  subst hz
                  have hcw := HCW_50.out
                  have hcg := HCG_51.out
                  go_wp2_with fail
                  try any_goals (exfalso; omega)
                  clear hcw hcg
                  have hcn := HCN.out
                  go_roundw
                  case rel => exact ⟨k + 1, by omega, by rw [hcn]; simp, by simp, HBK_46, HB_47, HW_48, HG_49⟩
                  case measure => simp [intOf]; omega
              · have hke : k = s.G.length := by omega
                subst hke
                rw [← HFE.out]
                clear hlt hk
                have hnn : (fell != fell) = false := bne_self_eq_false _
                have hlt2 : ¬ ((s.G.length : Int) + 1 ≤ (s.G.length : Int)) := by omega
                go_wp2_with fail
                with_reducible refine (entries_calls wb.heap.size g F2 wr s.day H s.E HBKr_42.out (Nat.le_trans HEL.out (by omega))).mono ?_
                rintro e w44 ⟨vE, rfl, hE, hb⟩
                obtain ⟨AE, cE, rfl⟩ := Kd.R_slice hE
                clear hE hnn hlt2
                have HBK_52 := lhid (HBKr_42.out.next hb)
                have HB_53 := lhid (below_then HBr_43.out HBr_43.out.size hb)
                have HW_54 := lhid (HWr_44.out.next hb)
                have HG_55 := lhid (HGr_45.out.next hb)
                clear HBKr_42 HBr_43 HWr_44 HGr_45 hb
                go_upto_region 37 with (fail)
                obtain ⟨s2, hs2⟩ : ∃ q : St, q = ⟨s.day, H, s.E⟩ := ⟨_, rfl⟩
                have HG4 := lhid (show HasG wb.heap.size wb w44 g (runS s2 (l3.take 0)) bg gl by rw [hs2]; exact ⟨F2, HBK_52.out, HB_53.out, HFG.out, HG_55.out⟩)
                have HKP2 := lhid (show Kept s.G.length s.E.length (goneB s.G m) s2 by rw [hs2]; exact HKP.out)
                have HE2 := lhid (show s2.E.length = s.E.length by rw [hs2])
                clear hs2 HKP HHI HHT HHS HHL HBE HNE HFW2 HFG HBK_52 HB_53 HW_54 HG_55
                go_loopw [24] (fun t wr => ∃ i : Nat, i ≤ l3.length ∧ t = .int .i64 (i : Int) ∧ Hid (HasG wb.heap.size wb wr g (runS s2 (l3.take i)) bg gl)) (fun t _ => l3.length - (intOf t).toNat)
                case atStart => exact ⟨0, Nat.zero_le _, rfl, HG4⟩
                case round =>
                  obtain ⟨i, hi, rfl, H4r_56⟩ := hrel
                  clear HG4
                  obtain ⟨F3, hk3, hb3, hf3', hg3⟩ := H4r_56.out
                  have HBK3 := lhid hk3
                  have HB3 := lhid hb3
                  have HFG := lhid hf3'
                  have HG3 := lhid hg3
                  clear hk3 hb3 hf3' hg3 H4r_56
                  by_cases hlt : i < l3.length
                  · have hlt2 : (i : Int) < (l3.length : Int) := by omega
                    have HSX := lhid (runS_take s2 l3 i hlt)
                    have HIV := lhid (kept_run HKP2.out (l3.take i)).1
                    obtain ⟨x, hx⟩ : ∃ x, x = l3.getD i z37 := ⟨_, rfl⟩
                    have HKX := lhid (HK3.out _ (mem_getD hlt))
                    rw [← hx] at HSX HKX
                    obtain ⟨v, hv⟩ : ∃ v : St, v = runS s2 (l3.take i) := ⟨_, rfl⟩
                    rw [← hv] at HSX HBK3 HIV
                    have HX := lhid hx
                    clear hv hx
                    obtain ⟨ad, eA, x0, x1, x2, x3, x4, x5, x6, x7, x8, x9, x10⟩ := at_T37 (Kd.C_below HRB3.out HB3.out) (i : Int) (by omega) (by omega)
                    subst eA
                    simp only [rd_T37, Int.toNat_natCast] at x0 x1 x2 x3 x4 x5 x6 x7 x8 x9 x10
                    rw [← HX.out] at x0 x1 x2 x3 x4 x5 x6 x7 x8 x9 x10
                    go_wp2_with fail
                    have hbkq : Bk wb.heap.size F3 wr g v := HBK3.out
                    with_reducible refine (act_calls wb.heap.size g F3 wr v x hbkq HIV.out HKX.out).mono ?_
                    rintro e w3 ⟨he, hg⟩
                    obtain ⟨y, hy, rfl⟩ := one_any he
                    clear hy he x0 x1 x2 x3 x4 x5 x6 x7 x8 x9 x10
                    have HN4 := lhid (HasG.got HBK3.out HB3.out (Nat.le_refl _) HFG.out HG3.out hg)
                    clear hg hbkq
                    go_wp2_with fail
                    try any_goals (exfalso; omega)
                    go_roundw
                    case rel => exact ⟨i + 1, by omega, by simp, lhid (by rw [HSX.out]; exact HN4.out)⟩
                    case measure => simp [intOf]; omega
                  · have hie : i = l3.length := by omega
                    subst hie
                    rw [List.take_length] at HBK3
                    have HKR := lhid (kept_run HKP2.out l3)
                    have HUE := lhid (show (runS s2 l3).E.length ≤ 80 by have := (run_len l3 s2).2; have := HE2.out; have := HEL.out; omega)
                    obtain ⟨u, hu⟩ : ∃ u : St, u = runS s2 l3 := ⟨_, rfl⟩
                    rw [← hu] at HBK3 HKR HUE
                    clear hu hlt hi HKP2
                    have hlt2 : ¬ (l3.length : Int) < (l3.length : Int) := by omega
                    have HUT := lhid HKR.out.1.1
                    have hug := HKR.out.2.1
                    have huk := HKR.out.2.2.1
                    have huE := HUE.out
                    obtain ⟨wc, hwc⟩ : ∃ q : World, q = wr := ⟨_, rfl⟩
                    subst hwc
                    go_wp2_with fail
                    with_reducible refine (entries_calls wb.heap.size g F3 wc u.day u.G u.E HBK3.out (Nat.le_trans HUE.out (by omega))).mono ?_
                    rintro e w45 ⟨vE, rfl, hE, hb⟩
                    obtain ⟨AX, cX, rfl⟩ := Kd.R_slice hE
                    have HE0 := lhid hE
                    clear hE
                    have HBK_57 := lhid (HBK3.out.next hb)
                    have HB_58 := lhid (below_then HB3.out HB3.out.size hb)
                    have HG_59 := lhid (HG3.out.next hb)
                    clear HBK3 HB3 HG3 hb
                    go_upto_region 42 with (fail)
                    clear hlt2
                    go_loopw [26] (fun t wr => ∃ i : Nat, s.E.length ≤ i ∧ i ≤ u.E.length ∧ t = .int .i64 (i : Int) ∧ Hid (BK wb.heap.size F3 wr g u.day u.G u.E) ∧ Hid (Below wb.heap.size wb wr) ∧ Hid (BBw wr bg gl) ∧ Hid (Kd.R k44 44 wr wc.heap.size (fun _ => True) (.slice AX u.E.length cX) u.E)) (fun t _ => u.E.length - (intOf t).toNat)
                    case atStart => exact ⟨s.E.length, Nat.le_refl _, huk, rfl, HBK_57, HB_58, HG_59, HE0⟩
                    case round =>
                      obtain ⟨i, hi0, hi, rfl, HBKr_60, HBr_61, HGr_62, HEr_63⟩ := hrel
                      clear HBK_57 HB_58 HG_59 HE0
                      by_cases hlt : i < u.E.length
                      · have hlt2 : (i : Int) < (u.E.length : Int) := by omega
                        obtain ⟨eb, hA⟩ := ent_ad HEr_63.out (by omega)
                        subst hA
                        obtain ⟨-, -, z2, z3⟩ := ent_cells HEr_63.out i hlt
                        obtain ⟨⟨k2, k3⟩, n2, n3⟩ := kept_mem HKR.out hi0 hlt
                        obtain ⟨p, hp⟩ : ∃ p, p = (u.E[i]).f2 := ⟨_, rfl⟩
                        obtain ⟨q, hq⟩ : ∃ q, q = (u.E[i]).f3 := ⟨_, rfl⟩
                        rw [← hp] at z2 k2 n2
                        rw [← hq] at z3 k3 n3
                        clear hp hq
                        have N2 := lhid n2
                        have N3 := lhid n3
                        clear n2 n3
                        by_cases cp : p ≤ (s.G.length : Int)
                        · by_cases cq : q ≤ (s.G.length : Int)
                          · have hcp := BBw.cell HGr_62.out p.toNat (by rw [HGN.out]; omega)
                            rw [HGG.out p.toNat (by omega), N2.out cp] at hcp
                            have hcq := BBw.cell HGr_62.out q.toNat (by rw [HGN.out]; omega)
                            rw [HGG.out q.toNat (by omega), N3.out cq] at hcq
                            go_wp2_with fail
                            try any_goals (exfalso; omega)
                            clear z2 z3 hcp hcq
                            go_roundw
                            case rel => exact ⟨i + 1, by omega, by omega, by simp, HBKr_60, HBr_61, HGr_62, HEr_63⟩
                            case measure => simp [intOf]; omega
                          · have hcp := BBw.cell HGr_62.out p.toNat (by rw [HGN.out]; omega)
                            rw [HGG.out p.toNat (by omega), N2.out cp] at hcp
                            go_wp2_with fail
                            try any_goals (exfalso; omega)
                            clear z2 z3 hcp
                            go_roundw
                            case rel => exact ⟨i + 1, by omega, by omega, by simp, HBKr_60, HBr_61, HGr_62, HEr_63⟩
                            case measure => simp [intOf]; omega
                        · by_cases cq : q ≤ (s.G.length : Int)
                          · have hcq := BBw.cell HGr_62.out q.toNat (by rw [HGN.out]; omega)
                            rw [HGG.out q.toNat (by omega), N3.out cq] at hcq
                            go_wp2_with fail
                            try any_goals (exfalso; omega)
                            clear z2 z3 hcq
                            go_roundw
                            case rel => exact ⟨i + 1, by omega, by omega, by simp, HBKr_60, HBr_61, HGr_62, HEr_63⟩
                            case measure => simp [intOf]; omega
                          · go_wp2_with fail
                            try any_goals (exfalso; omega)
                            clear z2 z3 
                            go_roundw
                            case rel => exact ⟨i + 1, by omega, by omega, by simp, HBKr_60, HBr_61, HGr_62, HEr_63⟩
                            case measure => simp [intOf]; omega
                      · have hie : i = u.E.length := by omega
                        subst hie
                        have hlt2 : ¬ (u.E.length : Int) < (u.E.length : Int) := by omega
                        clear HEr_63
                        go_upto_region 47 with (fail)
                        clear hlt2 hlt hi hi0
                        go_loopw [27] (fun t wr => ∃ k : Nat, k ≤ s.G.length ∧ t = .int .i64 ((k : Int) + 1) ∧ Hid (BK wb.heap.size F3 wr g u.day u.G u.E) ∧ Hid (Below wb.heap.size wb wr) ∧ Hid (BBw wr bg gl)) (fun t _ => s.G.length + 1 - (intOf t).toNat)
                        case atStart => exact ⟨0, Nat.zero_le _, rfl, HBKr_60, HBr_61, HGr_62⟩
                        case round =>
                          obtain ⟨k, hk, rfl, HBKr_64, HBr_65, HGr_66⟩ := hrel
                          clear HBKr_60 HBr_61 HGr_62
                          by_cases hlt : k < s.G.length
                          · have hlt2 : (k : Int) + 1 ≤ (s.G.length : Int) := by omega
                            have hst := Stands_ok wb.heap.size g F3 wr u.day u.G u.E ((k : Int) + 1) HBKr_64.out HUT.out (by omega) (by omega)
                            rw [show ((k : Int) + 1).toNat = k + 1 by omega] at hst
                            have hcg := BBw.cell HGr_66.out (k + 1) (by rw [HGN.out]; omega)
                            rw [HGG.out (k + 1) hlt] at hcg
                            have hkk := kept_stB HKR.out (i := k + 1) (by omega) hlt
                            obtain ⟨a, ha⟩ : ∃ a, a = stB u.day u.G (k + 1) := ⟨_, rfl⟩
                            obtain ⟨b, hb0⟩ : ∃ b, b = goneB s.G m (k + 1) := ⟨_, rfl⟩
                            rw [← ha, ← hb0] at hkk
                            rw [← ha] at hst
                            rw [← hb0] at hcg
                            clear ha hb0
                            have HST := lhid hst
                            have HKK := lhid hkk
                            have HCG := lhid hcg
                            clear hst hkk hcg
                            go_wp2_with fail
                            with_reducible refine (HST.out).mono ?_
                            rintro e w46 ⟨rfl, hb⟩
                            have HBK_67 := lhid (HBKr_64.out.next hb)
                            have HB_68 := lhid (below_then HBr_65.out HBr_65.out.size hb)
                            have HG_69 := lhid (HGr_66.out.next hb)
                            have HCG_70 := lhid (pw_cell_below hb HCG.out)
                            clear HBKr_64 HBr_65 HGr_66 HCG hb
                            clear HST
                            cases a <;> cases b
                            · have hcg := HCG_70.out
                              go_wp2_with fail
                              try any_goals (exfalso; omega)
                              clear hcg
                              go_roundw
                              case rel => exact ⟨k + 1, by omega, by simp, HBK_67, HB_68, HG_69⟩
                              case measure => simp [intOf]; omega
                            · have hcg := HCG_70.out
                              go_wp2_with fail
                              try any_goals (exfalso; omega)
                              clear hcg
                              go_roundw
                              case rel => exact ⟨k + 1, by omega, by simp, HBK_67, HB_68, HG_69⟩
                              case measure => simp [intOf]; omega
                            · have hcg := HCG_70.out
                              go_wp2_with fail
                              try any_goals (exfalso; omega)
                              clear hcg
                              go_roundw
                              case rel => exact ⟨k + 1, by omega, by simp, HBK_67, HB_68, HG_69⟩
                              case measure => simp [intOf]; omega
                            · exact absurd HKK.out (by decide)
                          · have hke : k = s.G.length := by omega
                            subst hke
                            have hlt2 : ¬ ((s.G.length : Int) + 1 ≤ (s.G.length : Int)) := by omega
                            have HBw := lhid (below_then HWB.out HWB.out.size HBr_65.out)
                            go_wp2_with fail
                            with_reducible refine (alive_calls wr).mono ?_
                            rintro e w946 ⟨rfl, hb⟩
                            have HB_71 := lhid (below_then HBw.out HBw.out.size hb)
                            clear HBw hb
                            go_wp2_with fail
                            go_ret
                            exact ⟨rfl, HB_71.out⟩
      · rw [if_neg hc] at he
        subst he
        have hb3 := (Has.got HBKr_12.out HBr_13.out (Nat.le_refl _) hg).2.1
        have HB2 := lhid hb3
        obtain ⟨q, hq⟩ : ∃ q, q = revC s.G a1 a2 := ⟨_, rfl⟩
        rw [← hq] at hc ⊢
        have hne : (q != 0) = true := bne_iff_ne.2 hc
        clear hq hg hb3
        have HBw := lhid (below_then HWB.out HWB.out.size HB2.out)
        go_wp2_with fail
        with_reducible refine (alive_calls w40).mono ?_
        rintro e w941 ⟨rfl, hb⟩
        have HB_72 := lhid (below_then HBw.out HBw.out.size hb)
        clear HBw hb
        go_wp2_with fail
        go_ret
        exact ⟨rfl, HB_72.out⟩
theorem custodyTaken_pure : kimberlitelaw06_CustodyTaken.Pure2 := fun _ _ _ _ h0 h1 h2 h3 => ⟨0, h0, h1, h2, h3, trivial⟩
end Go.Proofs.Ytfnlghjkjmppdaa.PC
