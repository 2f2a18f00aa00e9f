/- CustodyCould: what the group could open is opened, and nothing else. The law's function walked by hand. -/
import Derived.Test.YtfnlghjkjmppdaaPCxPureCustodyCould
import Derived.Test.YtfnlghjkjmppdaaCOn
import Derived.Test.YtfnlghjkjmppdaaPCx2
import Derived.Test.YtfnlghjkjmppdaaPCx20
namespace Go.Proofs.Ytfnlghjkjmppdaa.PC
open Go.RowKit Go.Proofs.YtfnlghjkjmppdaaW.PrintWords Go.Proofs.YtfnlghjkjmppdaaW.PrintLast Go.Proofs.YtfnlghjkjmppdaaW.PrintMore Go.Proofs.Ytfnlghjkjmppdaa.Opn
set_option linter.unusedVariables false
set_option linter.unusedSimpArgs false
theorem shr_div {p : Int} (hp : Sm p) {n : Int} (h0 : 0 ≤ n) (h1 : n ≤ 15) : (p / 2 ^ n.toNat).tmod 2 = if tb p n.toNat then 1 else 0 := by
  have e : shr .i64 p n = p / 2 ^ n.toNat := by
    unfold shr
    rw [Nat.min_eq_left (show n.toNat ≤ IntKind.bits .i64 by show n.toNat ≤ 64; omega)]
  have hb := shr_bit hp h0 h1
  rw [e] at hb
  have hm : (p / 2 ^ n.toNat).tmod 2 = 0 ∨ (p / 2 ^ n.toNat).tmod 2 = 1 := by
    have hq : 0 ≤ p / 2 ^ n.toNat := Int.ediv_nonneg hp.1 (Int.pow_nonneg (by omega))
    rw [Int.tmod_eq_emod_of_nonneg hq]; omega
  cases c : tb p n.toNat
  · rw [c] at hb
    have := beq_eq_false_iff_ne.1 hb
    simp; omega
  · rw [c] at hb
    simp; exact beq_iff_eq.1 hb
set_option maxHeartbeats 12800000 in
set_option maxRecDepth 100000 in
theorem kimberlitelaw06_CustodyCould.calls (k : Nat) (A0 : Option Addr) (c0 : Nat) (l0 : List (S37)) (a1 : Int) (A2 : Option Addr) (c2 : Nat) (l2 : List (S37)) (w : World) (hr0 : Kd.C k37 w A0 l0.length l0) (hc0 : l0.length ≤ c0) (hr2 : Kd.C k37 w A2 l2.length l2) (hc2 : l2.length ≤ c2) (h : kimberlitelaw06_CustodyCould.ok l0 a1 l2) : Calls Try.prog 10 #[.slice A0 l0.length c0, .int .i64 a1, .slice A2 l2.length c2] w fun e w' => e = .returned (.bool true) ∧ Below w.heap.size w w' := by
  have hu37 := Try.underlying37
  have HR0 := lhid hr0
  have HC0 := lhid hc0
  have HR2 := lhid hr2
  have HC2 := lhid hc2
  have HK0 := lhid (show ∀ x ∈ l0, 0 ≤ x.f0 ∧ x.f0 < 256 from fun x hx => wf_u8 (h.1.2 x hx).1)
  have HK2 := lhid (show ∀ x ∈ l2, 0 ≤ x.f0 ∧ x.f0 < 256 from fun x hx => wf_u8 (h.2.2.1.2 x hx).1)
  clear hr0 hc0 hr2 hc2 h
  go_enter Try.func10, Try.ntmps10
  have HB_1 := lhid (Below.refl w.heap.size w)
  by_cases hfl0 : (l0.length : Int) ≤ 40
  rotate_left
  · go_wp2_with fail
    with_reducible refine (kimberlitelaw06_few.calls A0 c0 l0 false w (Kd.C_below HR0.out HB_1.out) HC0.out (by unfold kimberlitelaw06_few.f; exact congrArg some (decide_eq_false (by omega)))).mono ?_
    rintro e w1 ⟨rfl, nd, hq⟩
    have hb := pw_below_drewN (Below.refl w.heap.size w) nd
    rw [← hq] at hb
    clear hq
    have HB_2 := lhid (below_then HB_1.out HB_1.out.size hb)
    clear HB_1 hb
    go_wp2_with fail
    with_reducible refine (alive_calls w1).mono ?_
    rintro e w902 ⟨rfl, hb⟩
    have HB_3 := lhid (below_then HB_2.out HB_2.out.size hb)
    clear HB_2 hb
    go_wp2_with fail
    go_ret
    exact ⟨rfl, HB_3.out⟩
  go_wp2_with fail
  with_reducible refine (kimberlitelaw06_few.calls A0 c0 l0 true w (Kd.C_below HR0.out HB_1.out) HC0.out (by unfold kimberlitelaw06_few.f; exact congrArg some (decide_eq_true (by omega)))).mono ?_
  rintro e w1 ⟨rfl, nd, hq⟩
  have hb := pw_below_drewN (Below.refl w.heap.size w) nd
  rw [← hq] at hb
  clear hq
  have HB_4 := lhid (below_then HB_1.out HB_1.out.size hb)
  clear HB_1 hb
  by_cases hfl2 : (l2.length : Int) ≤ 40
  rotate_left
  · go_wp2_with fail
    with_reducible refine (kimberlitelaw06_few.calls A2 c2 l2 false w1 (Kd.C_below HR2.out HB_4.out) HC2.out (by unfold kimberlitelaw06_few.f; exact congrArg some (decide_eq_false (by omega)))).mono ?_
    rintro e w2 ⟨rfl, nd, hq⟩
    have hb := pw_below_drewN (Below.refl w1.heap.size w1) nd
    rw [← hq] at hb
    clear hq
    have HB_5 := lhid (below_then HB_4.out HB_4.out.size hb)
    clear HB_4 hb
    go_wp2_with fail
    with_reducible refine (alive_calls w2).mono ?_
    rintro e w903 ⟨rfl, hb⟩
    have HB_6 := lhid (below_then HB_5.out HB_5.out.size hb)
    clear HB_5 hb
    go_wp2_with fail
    go_ret
    exact ⟨rfl, HB_6.out⟩
  go_wp2_with fail
  with_reducible refine (kimberlitelaw06_few.calls A2 c2 l2 true w1 (Kd.C_below HR2.out HB_4.out) HC2.out (by unfold kimberlitelaw06_few.f; exact congrArg some (decide_eq_true (by omega)))).mono ?_
  rintro e w2 ⟨rfl, nd, hq⟩
  have hb := pw_below_drewN (Below.refl w1.heap.size w1) nd
  rw [← hq] at hb
  clear hq
  have HB_7 := lhid (below_then HB_4.out HB_4.out.size hb)
  clear HB_4 hb
  have hf : l0.length ≤ 40 := by omega
  have hf2 : l2.length ≤ 40 := by omega
  clear hfl0 hfl2
  by_cases p0 : a1 < 0
  · have d0 : decide (a1 < 0) = true := decide_eq_true p0
    go_wp2_with fail
    with_reducible refine (alive_calls w2).mono ?_
    rintro e w903 ⟨rfl, hb⟩
    have HB_8 := lhid (below_then HB_7.out HB_7.out.size hb)
    clear HB_7 hb
    go_wp2_with fail
    go_ret
    exact ⟨rfl, HB_8.out⟩
  have d0 : decide (a1 < 0) = false := decide_eq_false p0
  by_cases p1 : a1 > 65535
  · have d1 : decide (a1 > 65535) = true := decide_eq_true p1
    go_wp2_with fail
    with_reducible refine (alive_calls w2).mono ?_
    rintro e w903 ⟨rfl, hb⟩
    have HB_9 := lhid (below_then HB_7.out HB_7.out.size hb)
    clear HB_7 hb
    go_wp2_with fail
    go_ret
    exact ⟨rfl, HB_9.out⟩
  have d1 : decide (a1 > 65535) = false := decide_eq_false p1
  have HS1 := lhid (show Sm a1 from ⟨by omega, by omega⟩)
  go_upto_region 3 with (fail)
  clear d0 d1 p0 p1
  have HRB := lhid (Kd.C_below HR0.out HB_7.out)
  have HRB2 := lhid (Kd.C_below HR2.out HB_7.out)
  obtain ⟨wb, hwb⟩ : ∃ q : World, q = w2 := ⟨_, rfl⟩
  have HWB := lhid (show Below w.heap.size w wb by rw [hwb]; exact HB_7.out)
  rw [← hwb] at HRB HRB2 ⊢
  clear hwb HB_7
  go_wp2_with fail
  with_reducible refine (book_calls wb A0 c0 l0 HRB.out HC0.out hf HK0.out).mono ?_
  rintro e w1 ⟨g, rfl, h1⟩
  obtain ⟨s, hs⟩ : ∃ s : St, s = runS s0 l0 := ⟨_, rfl⟩
  have HIG := lhid (show Inv s.G by rw [hs]; exact run_inv (s := s0) nil_inv l0)
  have HDY := lhid (show DayOk s.day by rw [hs]; exact day_run l0 s0 ⟨Int.le_refl _, by decide⟩)
  have hEL : s.E.length ≤ 40 := by rw [hs]; have := (run_len l0 s0).2; have h0 : s0.E.length = 0 := rfl; omega
  have hGL : s.G.length ≤ 40 := by rw [hs]; have := (run_len l0 s0).1; have h0 : s0.G.length = 0 := rfl; omega
  rw [← hs] at h1
  clear hs
  obtain ⟨⟨F, hk⟩, hb1, hz1⟩ := h1
  have HBK := lhid hk
  have HBB := lhid hb1
  clear hk hb1 hz1
  go_wp2_with fail
  with_reducible refine (could_ok wb.heap.size g F w1 s.day s.G s.E a1 HBK.out HIG.out (sm_lo HS1.out) (sm_hi HS1.out)).mono ?_
  rintro e w11 ⟨rfl, hb⟩
  have HBK_10 := lhid (HBK.out.next hb)
  have HB_11 := lhid (below_then HBB.out HBB.out.size hb)
  clear HBK HBB hb
  have HCV := lhid (show Cov a1 (couldS s.day s.G a1) s.E.length s from cov_new HIG.out)
  have HSC := lhid (could_tb (day := s.day) (p := a1) HIG.out).1
  have HWI := lhid (fun v => wit_of (day := s.day) (v := v) HIG.out HS1.out)
  obtain ⟨cd, hcd⟩ : ∃ q, q = couldS s.day s.G a1 := ⟨_, rfl⟩
  rw [← hcd] at HCV HSC HWI ⊢
  clear hcd
  go_upto_region 8 with (fail)
  go_loopw [10] (fun t wr => ∃ v : Nat, v ≤ 16 ∧ t = .int .i64 (v : Int) ∧ Hid (BK wb.heap.size F wr g s.day s.G s.E) ∧ Hid (Below wb.heap.size wb wr)) (fun t _ => 16 - (intOf t).toNat)
  case atStart => exact ⟨0, Nat.zero_le _, rfl, HBK_10, HB_11⟩
  case round =>
    obtain ⟨v, hv, rfl, HBKr_12, HBr_13⟩ := hrel
    clear HBK_10 HB_11
    by_cases hlv : v < 16
    · have hlv2 : (v : Int) ≤ 15 := by omega
      have hsb := shr_div HSC.out (n := (v : Int)) (by omega) hlv2
      have hsc := shr_bit HSC.out (n := (v : Int)) (by omega) hlv2
      rw [Int.toNat_natCast] at hsb hsc
      cases hb9 : tb cd v
      · rw [hb9] at hsb hsc
        simp at hsb
        go_wp2_with fail
        try any_goals (exfalso; omega)
        try any_goals (exfalso; simp_all; done)
        go_roundw
        case rel => exact ⟨v + 1, by omega, by simp, HBKr_12, HBr_13⟩
        case measure => simp [intOf]; omega
      · rw [hb9] at hsb hsc
        simp at hsb
        go_wp2_with fail
        with_reducible refine (opened_calls wb.heap.size g F wr s.day s.G s.E v a1 HBKr_12.out HIG.out HDY.out HS1.out (by omega) hEL hGL (HWI.out v hb9)).mono ?_
        rintro e w12 ⟨rfl, hb⟩
        have HBK_14 := lhid (HBKr_12.out.next hb)
        have HB_15 := lhid (below_then HBr_13.out HBr_13.out.size hb)
        clear HBKr_12 HBr_13 hb
        go_wp2_with fail
        try any_goals (exfalso; omega)
        go_roundw
        case rel => exact ⟨v + 1, by omega, by simp, HBK_14, HB_15⟩
        case measure => simp [intOf]; omega
    · have hve : v = 16 := by omega
      subst hve
      clear hlv hv HWI HDY
      go_wp2_with fail
      obtain ⟨wy, hwz⟩ : ∃ q : World, q = wr := ⟨_, rfl⟩
      subst hwz
      with_reducible refine (Copy_ok wb.heap.size g F wy s.day s.G s.E HBKr_12.out (by omega) (by omega)).mono ?_
      rintro e w60 ⟨c, F1, rfl, hbk, hb⟩
      have HBK1 := lhid hbk
      have HB1 := lhid hb
      have HBY := HBr_13
      clear hbk hb HBKr_12
      go_wp2_with fail
      with_reducible refine (entries_calls wy.heap.size c F1 w60 s.day s.G s.E HBK1.out (by omega)).mono ?_
      rintro e w61 ⟨vE, rfl, hE, hb⟩
      obtain ⟨AE, cE, rfl⟩ := Kd.R_slice hE
      clear hE
      have HBK_16 := lhid (HBK1.out.next hb)
      have HB_17 := lhid (below_then HB1.out HB1.out.size hb)
      clear HBK1 HB1 hb
      go_upto_region 17 with (fail)
      have HA0 := lhid (show Has wy.heap.size wy w61 c (triesS a1 s (l2.take 0)) from ⟨⟨F1, HBK_16.out⟩, HB_17.out, Nat.le_refl _⟩)
      clear HBK_16 HB_17
      go_loopw [13] (fun t wr => ∃ i : Nat, i ≤ l2.length ∧ t = .int .i64 (i : Int) ∧ Hid (Has wy.heap.size wy wr c (triesS a1 s (l2.take i)))) (fun t _ => l2.length - (intOf t).toNat)
      case atStart => exact ⟨0, Nat.zero_le _, rfl, HA0⟩
      case round =>
        obtain ⟨i, hi, rfl, HAr_18⟩ := hrel
        clear HA0
        have HCI := lhid (cov_tries HS1.out (l2.take i) s HCV.out)
        have hti : (triesS a1 s (l2.take i)).E.length ≤ 80 := by have := tries_len a1 (l2.take i) s; rw [List.length_take] at this; omega
        by_cases hlt : i < l2.length
        · have hlt2 : (i : Int) < (l2.length : Int) := by omega
          have HSX := lhid (tries_take a1 s l2 i hlt)
          obtain ⟨x, hx⟩ : ∃ x, x = l2.getD i z37 := ⟨_, rfl⟩
          have HKX := lhid (HK2.out _ (mem_getD hlt))
          rw [← hx] at HSX HKX
          obtain ⟨t, ht⟩ : ∃ t : St, t = triesS a1 s (l2.take i) := ⟨_, rfl⟩
          rw [← ht] at HSX HCI HAr_18
          have HX := lhid hx
          clear hx ht hti
          obtain ⟨⟨F3, hk⟩, hb1, -⟩ := HAr_18.out
          have HBK3 := lhid hk
          have HB3 := lhid hb1
          have HFL := lhid (show ∀ k, F3 k → k < wr.heap.size from fun k q => (HBK3.out.fb k q).2)
          have HIV := lhid HCI.out.1
          clear hk hb1 HAr_18
          obtain ⟨ad, eA, x0, x1, x2, x3, x4, x5, x6, x7, x8, x9, x10⟩ := at_T37 (Kd.C_below (Kd.C_below HRB2.out HBY.out) HB3.out) (i : Int) (by omega) (by omega)
          subst eA
          simp only [rd_T37, Int.toNat_natCast] at x0 x1 x2 x3 x4 x5 x6 x7 x8 x9 x10
          rw [← HX.out] at x0 x1 x2 x3 x4 x5 x6 x7 x8 x9 x10
          go_upto_region 20 with (fail)
          clear x0 x1 x2 x3 x4 x5 x6 x7 x8 x9 x10
          have hb := below_alloc (Below.refl wr.heap.size wr) (.cells #[.int .u8 x.f0, .int .i64 x.f1, .int .i64 x.f2, .int .i64 x.f3, .int .i64 x.f4, .int .i64 x.f5, .int .i64 x.f6, .int .i64 x.f7, .int .i64 x.f8, .int .i64 x.f9, .int .i64 x.f10] 37)
          have hn := blk_new wr (.cells #[.int .u8 x.f0, .int .i64 x.f1, .int .i64 x.f2, .int .i64 x.f3, .int .i64 x.f4, .int .i64 x.f5, .int .i64 x.f6, .int .i64 x.f7, .int .i64 x.f8, .int .i64 x.f9, .int .i64 x.f10] 37)
          have HZ71 := lhid (show (World.alloc wr (.cells #[.int .u8 x.f0, .int .i64 x.f1, .int .i64 x.f2, .int .i64 x.f3, .int .i64 x.f4, .int .i64 x.f5, .int .i64 x.f6, .int .i64 x.f7, .int .i64 x.f8, .int .i64 x.f9, .int .i64 x.f10] 37)).heap.size = wr.heap.size + 1 from by simp)
          generalize hq : World.alloc wr (.cells #[.int .u8 x.f0, .int .i64 x.f1, .int .i64 x.f2, .int .i64 x.f3, .int .i64 x.f4, .int .i64 x.f5, .int .i64 x.f6, .int .i64 x.f7, .int .i64 x.f8, .int .i64 x.f9, .int .i64 x.f10] 37) = w71 at hb hn HZ71 ⊢
          clear hq
          have HBK_19 := lhid (HBK3.out.next hb)
          have HB_20 := lhid (below_then HB3.out HB3.out.size hb)
          clear HBK3 HB3 hb
          have XB_21 := lhid (hn)
          clear hn
          obtain ⟨xb, hxb⟩ : ∃ q, q = wr.heap.size := ⟨_, rfl⟩
          rw [← hxb] at XB_21 ⊢
          clear hxb HFL
          have hk0 : 0 ≤ x.f0 := HKX.out.1
          have hk1 : x.f0 < 256 := HKX.out.2
          by_cases k1 : x.f0 % 8 = 1
          · have e1 : (x.f0 % 8 == 1) = true := beq_iff_eq.2 k1
            have e4 : decide (x.f0 % 8 ≥ 4) = false := decide_eq_false (by omega)
            cases inA : inB2 a1 x.f3
            · obtain ⟨y0, y1, y2, y3, y4, y5, y6, y7, y8, y9, y10⟩ := cells11 XB_21.out
              go_wp2_with fail
              with_reducible refine (kimberlitelaw06_in.calls a1 x.f3 false w71 (by rw [in_f HS1.out, inA])).mono ?_
              rintro e w72 ⟨rfl, nd, hq⟩
              have hb := pw_below_drewN (Below.refl w71.heap.size w71) nd
              rw [← hq] at hb
              clear hq
              have HBK_22 := lhid (HBK_19.out.next hb)
              have HB_23 := lhid (below_then HB_20.out HB_20.out.size hb)
              have XB_24 := lhid (blk_below XB_21.out hb)
              clear HBK_19 HB_20 XB_21 hb
              clear y0 y1 y2 y3 y4 y5 y6 y7 y8 y9 y10
              have hmd : mayDo a1 x = false := by unfold mayDo kd; simp [k1, inA]
              have HTS := lhid (show triesS a1 s (l2.take (i + 1)) = t by rw [HSX.out]; unfold tryS; rw [hmd]; rfl)
              obtain ⟨y0, y1, y2, y3, y4, y5, y6, y7, y8, y9, y10⟩ := cells11 XB_24.out
              go_wp2_with fail
              clear y0 y1 y2 y3 y4 y5 y6 y7 y8 y9 y10
              try any_goals (exfalso; omega)
              have HAN := lhid (show Has wy.heap.size wy w72 c (triesS a1 s (l2.take (i + 1))) by rw [HTS.out]; exact ⟨⟨F3, HBK_22.out⟩, HB_23.out, Nat.le_refl _⟩)
              go_roundw
              case rel => exact ⟨i + 1, by omega, by simp, HAN⟩
              case measure => simp [intOf]; omega
            · obtain ⟨y0, y1, y2, y3, y4, y5, y6, y7, y8, y9, y10⟩ := cells11 XB_21.out
              go_wp2_with fail
              with_reducible refine (kimberlitelaw06_in.calls a1 x.f3 true w71 (by rw [in_f HS1.out, inA])).mono ?_
              rintro e w72 ⟨rfl, nd, hq⟩
              have hb := pw_below_drewN (Below.refl w71.heap.size w71) nd
              rw [← hq] at hb
              clear hq
              have HBK_25 := lhid (HBK_19.out.next hb)
              have HB_26 := lhid (below_then HB_20.out HB_20.out.size hb)
              have XB_27 := lhid (blk_below XB_21.out hb)
              clear HBK_19 HB_20 XB_21 hb
              clear y0 y1 y2 y3 y4 y5 y6 y7 y8 y9 y10
              cases inB : inB2 a1 x.f4
              · obtain ⟨y0, y1, y2, y3, y4, y5, y6, y7, y8, y9, y10⟩ := cells11 XB_27.out
                go_wp2_with fail
                with_reducible refine (kimberlitelaw06_in.calls a1 x.f4 false w72 (by rw [in_f HS1.out, inB])).mono ?_
                rintro e w73 ⟨rfl, nd, hq⟩
                have hb := pw_below_drewN (Below.refl w72.heap.size w72) nd
                rw [← hq] at hb
                clear hq
                have HBK_28 := lhid (HBK_25.out.next hb)
                have HB_29 := lhid (below_then HB_26.out HB_26.out.size hb)
                have XB_30 := lhid (blk_below XB_27.out hb)
                clear HBK_25 HB_26 XB_27 hb
                clear y0 y1 y2 y3 y4 y5 y6 y7 y8 y9 y10
                have hmd : mayDo a1 x = false := by unfold mayDo kd; simp [k1, inB]
                have HTS := lhid (show triesS a1 s (l2.take (i + 1)) = t by rw [HSX.out]; unfold tryS; rw [hmd]; rfl)
                obtain ⟨y0, y1, y2, y3, y4, y5, y6, y7, y8, y9, y10⟩ := cells11 XB_30.out
                go_wp2_with fail
                clear y0 y1 y2 y3 y4 y5 y6 y7 y8 y9 y10
                try any_goals (exfalso; omega)
                have HAN := lhid (show Has wy.heap.size wy w73 c (triesS a1 s (l2.take (i + 1))) by rw [HTS.out]; exact ⟨⟨F3, HBK_28.out⟩, HB_29.out, Nat.le_refl _⟩)
                go_roundw
                case rel => exact ⟨i + 1, by omega, by simp, HAN⟩
                case measure => simp [intOf]; omega
              · obtain ⟨y0, y1, y2, y3, y4, y5, y6, y7, y8, y9, y10⟩ := cells11 XB_27.out
                go_wp2_with fail
                with_reducible refine (kimberlitelaw06_in.calls a1 x.f4 true w72 (by rw [in_f HS1.out, inB])).mono ?_
                rintro e w73 ⟨rfl, nd, hq⟩
                have hb := pw_below_drewN (Below.refl w72.heap.size w72) nd
                rw [← hq] at hb
                clear hq
                have HBK_31 := lhid (HBK_25.out.next hb)
                have HB_32 := lhid (below_then HB_26.out HB_26.out.size hb)
                have XB_33 := lhid (blk_below XB_27.out hb)
                clear HBK_25 HB_26 XB_27 hb
                clear y0 y1 y2 y3 y4 y5 y6 y7 y8 y9 y10
                have hmd : mayDo a1 x = true := by unfold mayDo kd; simp [k1, inA, inB]
                have HTS := lhid (show triesS a1 s (l2.take (i + 1)) = stepS t x by rw [HSX.out]; unfold tryS; rw [hmd]; rfl)
                obtain ⟨y0, y1, y2, y3, y4, y5, y6, y7, y8, y9, y10⟩ := cells11 XB_33.out
                go_wp2_with fail
                have hbkq : Bk wy.heap.size F3 w73 c t := HBK_31.out
                with_reducible refine (act_calls wy.heap.size c F3 w73 t x hbkq HIV.out HKX.out).mono ?_
                rintro e w99 ⟨he, hg⟩
                obtain ⟨y, hy, rfl⟩ := one_any he
                clear hy he
                clear y0 y1 y2 y3 y4 y5 y6 y7 y8 y9 y10
                have HAN := lhid (show Has wy.heap.size wy w99 c (triesS a1 s (l2.take (i + 1))) by rw [HTS.out]; exact Has.got HBK_31.out HB_32.out (Nat.le_refl _) (show Got wy.heap.size F3 w73 w99 c _ _ _ from hg))
                clear hg hbkq
                go_wp2_with fail
                try any_goals (exfalso; omega)
                go_roundw
                case rel => exact ⟨i + 1, by omega, by simp, HAN⟩
                case measure => simp [intOf]; omega
          · have e1 : (x.f0 % 8 == 1) = false := beq_eq_false_iff_ne.2 k1
            by_cases k2 : x.f0 % 8 = 2
            · have e2 : (x.f0 % 8 == 2) = true := beq_iff_eq.2 k2
              have e4 : decide (x.f0 % 8 ≥ 4) = false := decide_eq_false (by omega)
              cases inA : inB2 a1 x.f3
              · obtain ⟨y0, y1, y2, y3, y4, y5, y6, y7, y8, y9, y10⟩ := cells11 XB_21.out
                go_wp2_with fail
                with_reducible refine (kimberlitelaw06_in.calls a1 x.f3 false w71 (by rw [in_f HS1.out, inA])).mono ?_
                rintro e w72 ⟨rfl, nd, hq⟩
                have hb := pw_below_drewN (Below.refl w71.heap.size w71) nd
                rw [← hq] at hb
                clear hq
                have HBK_34 := lhid (HBK_19.out.next hb)
                have HB_35 := lhid (below_then HB_20.out HB_20.out.size hb)
                have XB_36 := lhid (blk_below XB_21.out hb)
                clear HBK_19 HB_20 XB_21 hb
                clear y0 y1 y2 y3 y4 y5 y6 y7 y8 y9 y10
                have hmd : mayDo a1 x = false := by unfold mayDo kd; simp [k2, inA]
                have HTS := lhid (show triesS a1 s (l2.take (i + 1)) = t by rw [HSX.out]; unfold tryS; rw [hmd]; rfl)
                obtain ⟨y0, y1, y2, y3, y4, y5, y6, y7, y8, y9, y10⟩ := cells11 XB_36.out
                go_wp2_with fail
                clear y0 y1 y2 y3 y4 y5 y6 y7 y8 y9 y10
                try any_goals (exfalso; omega)
                have HAN := lhid (show Has wy.heap.size wy w72 c (triesS a1 s (l2.take (i + 1))) by rw [HTS.out]; exact ⟨⟨F3, HBK_34.out⟩, HB_35.out, Nat.le_refl _⟩)
                go_roundw
                case rel => exact ⟨i + 1, by omega, by simp, HAN⟩
                case measure => simp [intOf]; omega
              · obtain ⟨y0, y1, y2, y3, y4, y5, y6, y7, y8, y9, y10⟩ := cells11 XB_21.out
                go_wp2_with fail
                with_reducible refine (kimberlitelaw06_in.calls a1 x.f3 true w71 (by rw [in_f HS1.out, inA])).mono ?_
                rintro e w72 ⟨rfl, nd, hq⟩
                have hb := pw_below_drewN (Below.refl w71.heap.size w71) nd
                rw [← hq] at hb
                clear hq
                have HBK_37 := lhid (HBK_19.out.next hb)
                have HB_38 := lhid (below_then HB_20.out HB_20.out.size hb)
                have XB_39 := lhid (blk_below XB_21.out hb)
                clear HBK_19 HB_20 XB_21 hb
                clear y0 y1 y2 y3 y4 y5 y6 y7 y8 y9 y10
                cases inB : inB2 a1 x.f4
                · obtain ⟨y0, y1, y2, y3, y4, y5, y6, y7, y8, y9, y10⟩ := cells11 XB_39.out
                  go_wp2_with fail
                  with_reducible refine (kimberlitelaw06_in.calls a1 x.f4 false w72 (by rw [in_f HS1.out, inB])).mono ?_
                  rintro e w73 ⟨rfl, nd, hq⟩
                  have hb := pw_below_drewN (Below.refl w72.heap.size w72) nd
                  rw [← hq] at hb
                  clear hq
                  have HBK_40 := lhid (HBK_37.out.next hb)
                  have HB_41 := lhid (below_then HB_38.out HB_38.out.size hb)
                  have XB_42 := lhid (blk_below XB_39.out hb)
                  clear HBK_37 HB_38 XB_39 hb
                  clear y0 y1 y2 y3 y4 y5 y6 y7 y8 y9 y10
                  have hmd : mayDo a1 x = false := by unfold mayDo kd; simp [k2, inB]
                  have HTS := lhid (show triesS a1 s (l2.take (i + 1)) = t by rw [HSX.out]; unfold tryS; rw [hmd]; rfl)
                  obtain ⟨y0, y1, y2, y3, y4, y5, y6, y7, y8, y9, y10⟩ := cells11 XB_42.out
                  go_wp2_with fail
                  clear y0 y1 y2 y3 y4 y5 y6 y7 y8 y9 y10
                  try any_goals (exfalso; omega)
                  have HAN := lhid (show Has wy.heap.size wy w73 c (triesS a1 s (l2.take (i + 1))) by rw [HTS.out]; exact ⟨⟨F3, HBK_40.out⟩, HB_41.out, Nat.le_refl _⟩)
                  go_roundw
                  case rel => exact ⟨i + 1, by omega, by simp, HAN⟩
                  case measure => simp [intOf]; omega
                · obtain ⟨y0, y1, y2, y3, y4, y5, y6, y7, y8, y9, y10⟩ := cells11 XB_39.out
                  go_wp2_with fail
                  with_reducible refine (kimberlitelaw06_in.calls a1 x.f4 true w72 (by rw [in_f HS1.out, inB])).mono ?_
                  rintro e w73 ⟨rfl, nd, hq⟩
                  have hb := pw_below_drewN (Below.refl w72.heap.size w72) nd
                  rw [← hq] at hb
                  clear hq
                  have HBK_43 := lhid (HBK_37.out.next hb)
                  have HB_44 := lhid (below_then HB_38.out HB_38.out.size hb)
                  have XB_45 := lhid (blk_below XB_39.out hb)
                  clear HBK_37 HB_38 XB_39 hb
                  clear y0 y1 y2 y3 y4 y5 y6 y7 y8 y9 y10
                  have hmd : mayDo a1 x = true := by unfold mayDo kd; simp [k2, inA, inB]
                  have HTS := lhid (show triesS a1 s (l2.take (i + 1)) = stepS t x by rw [HSX.out]; unfold tryS; rw [hmd]; rfl)
                  obtain ⟨y0, y1, y2, y3, y4, y5, y6, y7, y8, y9, y10⟩ := cells11 XB_45.out
                  go_wp2_with fail
                  have hbkq : Bk wy.heap.size F3 w73 c t := HBK_43.out
                  with_reducible refine (act_calls wy.heap.size c F3 w73 t x hbkq HIV.out HKX.out).mono ?_
                  rintro e w99 ⟨he, hg⟩
                  obtain ⟨y, hy, rfl⟩ := one_any he
                  clear hy he
                  clear y0 y1 y2 y3 y4 y5 y6 y7 y8 y9 y10
                  have HAN := lhid (show Has wy.heap.size wy w99 c (triesS a1 s (l2.take (i + 1))) by rw [HTS.out]; exact Has.got HBK_43.out HB_44.out (Nat.le_refl _) (show Got wy.heap.size F3 w73 w99 c _ _ _ from hg))
                  clear hg hbkq
                  go_wp2_with fail
                  try any_goals (exfalso; omega)
                  go_roundw
                  case rel => exact ⟨i + 1, by omega, by simp, HAN⟩
                  case measure => simp [intOf]; omega
            · have e2 : (x.f0 % 8 == 2) = false := beq_eq_false_iff_ne.2 k2
              by_cases k4 : x.f0 % 8 ≥ 4
              · have e4 : decide (x.f0 % 8 ≥ 4) = true := decide_eq_true k4
                by_cases k6 : x.f0 % 8 ≤ 6
                · have e6 : decide (x.f0 % 8 ≤ 6) = true := decide_eq_true k6
                  cases inA : inB2 a1 x.f3
                  · obtain ⟨y0, y1, y2, y3, y4, y5, y6, y7, y8, y9, y10⟩ := cells11 XB_21.out
                    go_wp2_with fail
                    with_reducible refine (kimberlitelaw06_in.calls a1 x.f3 false w71 (by rw [in_f HS1.out, inA])).mono ?_
                    rintro e w72 ⟨rfl, nd, hq⟩
                    have hb := pw_below_drewN (Below.refl w71.heap.size w71) nd
                    rw [← hq] at hb
                    clear hq
                    have HBK_46 := lhid (HBK_19.out.next hb)
                    have HB_47 := lhid (below_then HB_20.out HB_20.out.size hb)
                    have XB_48 := lhid (blk_below XB_21.out hb)
                    clear HBK_19 HB_20 XB_21 hb
                    clear y0 y1 y2 y3 y4 y5 y6 y7 y8 y9 y10
                    have hmd : mayDo a1 x = false := by unfold mayDo kd; simp [k1, k2, e4, e6, inA]
                    have HTS := lhid (show triesS a1 s (l2.take (i + 1)) = t by rw [HSX.out]; unfold tryS; rw [hmd]; rfl)
                    obtain ⟨y0, y1, y2, y3, y4, y5, y6, y7, y8, y9, y10⟩ := cells11 XB_48.out
                    go_wp2_with fail
                    clear y0 y1 y2 y3 y4 y5 y6 y7 y8 y9 y10
                    try any_goals (exfalso; omega)
                    have HAN := lhid (show Has wy.heap.size wy w72 c (triesS a1 s (l2.take (i + 1))) by rw [HTS.out]; exact ⟨⟨F3, HBK_46.out⟩, HB_47.out, Nat.le_refl _⟩)
                    go_roundw
                    case rel => exact ⟨i + 1, by omega, by simp, HAN⟩
                    case measure => simp [intOf]; omega
                  · obtain ⟨y0, y1, y2, y3, y4, y5, y6, y7, y8, y9, y10⟩ := cells11 XB_21.out
                    go_wp2_with fail
                    with_reducible refine (kimberlitelaw06_in.calls a1 x.f3 true w71 (by rw [in_f HS1.out, inA])).mono ?_
                    rintro e w72 ⟨rfl, nd, hq⟩
                    have hb := pw_below_drewN (Below.refl w71.heap.size w71) nd
                    rw [← hq] at hb
                    clear hq
                    have HBK_49 := lhid (HBK_19.out.next hb)
                    have HB_50 := lhid (below_then HB_20.out HB_20.out.size hb)
                    have XB_51 := lhid (blk_below XB_21.out hb)
                    clear HBK_19 HB_20 XB_21 hb
                    clear y0 y1 y2 y3 y4 y5 y6 y7 y8 y9 y10
                    cases inB : inB2 a1 x.f4
                    · obtain ⟨y0, y1, y2, y3, y4, y5, y6, y7, y8, y9, y10⟩ := cells11 XB_51.out
                      go_wp2_with fail
                      with_reducible refine (kimberlitelaw06_in.calls a1 x.f4 false w72 (by rw [in_f HS1.out, inB])).mono ?_
                      rintro e w73 ⟨rfl, nd, hq⟩
                      have hb := pw_below_drewN (Below.refl w72.heap.size w72) nd
                      rw [← hq] at hb
                      clear hq
                      have HBK_52 := lhid (HBK_49.out.next hb)
                      have HB_53 := lhid (below_then HB_50.out HB_50.out.size hb)
                      have XB_54 := lhid (blk_below XB_51.out hb)
                      clear HBK_49 HB_50 XB_51 hb
                      clear y0 y1 y2 y3 y4 y5 y6 y7 y8 y9 y10
                      have hmd : mayDo a1 x = false := by unfold mayDo kd; simp [k1, k2, e4, e6, inB]
                      have HTS := lhid (show triesS a1 s (l2.take (i + 1)) = t by rw [HSX.out]; unfold tryS; rw [hmd]; rfl)
                      obtain ⟨y0, y1, y2, y3, y4, y5, y6, y7, y8, y9, y10⟩ := cells11 XB_54.out
                      go_wp2_with fail
                      clear y0 y1 y2 y3 y4 y5 y6 y7 y8 y9 y10
                      try any_goals (exfalso; omega)
                      have HAN := lhid (show Has wy.heap.size wy w73 c (triesS a1 s (l2.take (i + 1))) by rw [HTS.out]; exact ⟨⟨F3, HBK_52.out⟩, HB_53.out, Nat.le_refl _⟩)
                      go_roundw
                      case rel => exact ⟨i + 1, by omega, by simp, HAN⟩
                      case measure => simp [intOf]; omega
                    · obtain ⟨y0, y1, y2, y3, y4, y5, y6, y7, y8, y9, y10⟩ := cells11 XB_51.out
                      go_wp2_with fail
                      with_reducible refine (kimberlitelaw06_in.calls a1 x.f4 true w72 (by rw [in_f HS1.out, inB])).mono ?_
                      rintro e w73 ⟨rfl, nd, hq⟩
                      have hb := pw_below_drewN (Below.refl w72.heap.size w72) nd
                      rw [← hq] at hb
                      clear hq
                      have HBK_55 := lhid (HBK_49.out.next hb)
                      have HB_56 := lhid (below_then HB_50.out HB_50.out.size hb)
                      have XB_57 := lhid (blk_below XB_51.out hb)
                      clear HBK_49 HB_50 XB_51 hb
                      clear y0 y1 y2 y3 y4 y5 y6 y7 y8 y9 y10
                      have hmd : mayDo a1 x = true := by unfold mayDo kd; simp [k1, k2, e4, e6, inA, inB]
                      have HTS := lhid (show triesS a1 s (l2.take (i + 1)) = stepS t x by rw [HSX.out]; unfold tryS; rw [hmd]; rfl)
                      obtain ⟨y0, y1, y2, y3, y4, y5, y6, y7, y8, y9, y10⟩ := cells11 XB_57.out
                      go_wp2_with fail
                      have hbkq : Bk wy.heap.size F3 w73 c t := HBK_55.out
                      with_reducible refine (act_calls wy.heap.size c F3 w73 t x hbkq HIV.out HKX.out).mono ?_
                      rintro e w99 ⟨he, hg⟩
                      obtain ⟨y, hy, rfl⟩ := one_any he
                      clear hy he
                      clear y0 y1 y2 y3 y4 y5 y6 y7 y8 y9 y10
                      have HAN := lhid (show Has wy.heap.size wy w99 c (triesS a1 s (l2.take (i + 1))) by rw [HTS.out]; exact Has.got HBK_55.out HB_56.out (Nat.le_refl _) (show Got wy.heap.size F3 w73 w99 c _ _ _ from hg))
                      clear hg hbkq
                      go_wp2_with fail
                      try any_goals (exfalso; omega)
                      go_roundw
                      case rel => exact ⟨i + 1, by omega, by simp, HAN⟩
                      case measure => simp [intOf]; omega
                · have e6 : decide (x.f0 % 8 ≤ 6) = false := decide_eq_false k6
                  have hmd : mayDo a1 x = false := by unfold mayDo kd; simp [k1, k2, e6]
                  have HTS := lhid (show triesS a1 s (l2.take (i + 1)) = t by rw [HSX.out]; unfold tryS; rw [hmd]; rfl)
                  obtain ⟨y0, y1, y2, y3, y4, y5, y6, y7, y8, y9, y10⟩ := cells11 XB_21.out
                  go_wp2_with fail
                  clear y0 y1 y2 y3 y4 y5 y6 y7 y8 y9 y10
                  try any_goals (exfalso; omega)
                  have HAN := lhid (show Has wy.heap.size wy w71 c (triesS a1 s (l2.take (i + 1))) by rw [HTS.out]; exact ⟨⟨F3, HBK_19.out⟩, HB_20.out, Nat.le_refl _⟩)
                  go_roundw
                  case rel => exact ⟨i + 1, by omega, by simp, HAN⟩
                  case measure => simp [intOf]; omega
              · have e4 : decide (x.f0 % 8 ≥ 4) = false := decide_eq_false k4
                have hmd : mayDo a1 x = false := by unfold mayDo kd; simp [k1, k2, e4]
                have HTS := lhid (show triesS a1 s (l2.take (i + 1)) = t by rw [HSX.out]; unfold tryS; rw [hmd]; rfl)
                obtain ⟨y0, y1, y2, y3, y4, y5, y6, y7, y8, y9, y10⟩ := cells11 XB_21.out
                go_wp2_with fail
                clear y0 y1 y2 y3 y4 y5 y6 y7 y8 y9 y10
                try any_goals (exfalso; omega)
                have HAN := lhid (show Has wy.heap.size wy w71 c (triesS a1 s (l2.take (i + 1))) by rw [HTS.out]; exact ⟨⟨F3, HBK_19.out⟩, HB_20.out, Nat.le_refl _⟩)
                go_roundw
                case rel => exact ⟨i + 1, by omega, by simp, HAN⟩
                case measure => simp [intOf]; omega
        · have hie : i = l2.length := by omega
          subst hie
          rw [List.take_length] at HCI hti HAr_18
          have hlt2 : ¬ (l2.length : Int) < (l2.length : Int) := by omega
          obtain ⟨u, hu⟩ : ∃ u : St, u = triesS a1 s l2 := ⟨_, rfl⟩
          rw [← hu] at HCI hti HAr_18
          clear hu hlt hi
          obtain ⟨⟨F3, hk⟩, hb1, -⟩ := HAr_18.out
          have HBK3 := lhid hk
          have HB3 := lhid hb1
          have huk := HCI.out.2.1
          clear hk hb1 HAr_18
          obtain ⟨wc, hwc⟩ : ∃ q : World, q = wr := ⟨_, rfl⟩
          subst hwc
          go_wp2_with fail
          with_reducible refine (entries_calls wy.heap.size c F3 wc u.day u.G u.E HBK3.out (by omega)).mono ?_
          rintro e w81 ⟨vE, rfl, hE, hb⟩
          obtain ⟨AX, cX, rfl⟩ := Kd.R_slice hE
          have HE0 := lhid hE
          clear hE
          have HBK_58 := lhid (HBK3.out.next hb)
          have HB_59 := lhid (below_then HB3.out HB3.out.size hb)
          clear HBK3 HB3 hb
          go_upto_region 26 with (fail)
          clear hlt2 HBK_58
          go_loopw [18] (fun t wr => ∃ i : Nat, s.E.length ≤ i ∧ i ≤ u.E.length ∧ t = .int .i64 (i : Int) ∧ Hid (Below wy.heap.size wy wr) ∧ Hid (Kd.R k44 44 wr wc.heap.size (fun _ => True) (.slice AX u.E.length cX) u.E)) (fun t _ => u.E.length - (intOf t).toNat)
          case atStart => exact ⟨s.E.length, Nat.le_refl _, huk, rfl, HB_59, HE0⟩
          case round =>
            obtain ⟨i, hi0, hi, rfl, HBr_60, HEr_61⟩ := hrel
            clear HB_59 HE0
            by_cases hlt : i < u.E.length
            · have hlt2 : (i : Int) < (u.E.length : Int) := by omega
              obtain ⟨eb, hA⟩ := ent_ad HEr_61.out (by omega)
              subst hA
              obtain ⟨-, z1, -, -⟩ := ent_cells HEr_61.out i hlt
              have hmem : u.E[i] ∈ u.E.drop s.E.length := by rw [List.mem_iff_getElem]; exact ⟨i - s.E.length, by rw [List.length_drop]; omega, by rw [List.getElem_drop]; congr 1; omega⟩
              obtain ⟨⟨f0, f1⟩, f2⟩ := HCI.out.2.2.2 _ hmem
              obtain ⟨f, hf9⟩ : ∃ f, f = (u.E[i]).f1 := ⟨_, rfl⟩
              rw [← hf9] at z1 f0 f1 f2
              clear hf9 hmem
              have hsb := shr_div HSC.out f0 f1
              rw [f2] at hsb
              simp at hsb
              have hsz : ((cd / 2 ^ f.toNat).tmod 2 == 0) = false := by rw [hsb]; rfl
              go_wp2_with fail
              try any_goals (exfalso; omega)
              clear z1
              go_roundw
              case rel => exact ⟨i + 1, by omega, by omega, by simp, HBr_60, HEr_61⟩
              case measure => simp [intOf]; omega
            · have hie : i = u.E.length := by omega
              subst hie
              have hlt2 : ¬ (u.E.length : Int) < (u.E.length : Int) := by omega
              have HBZ := lhid (below_then HBY.out HBY.out.size HBr_60.out)
              clear HEr_61 HBr_60
              have HBw := lhid (below_then HWB.out HWB.out.size HBZ.out)
              go_wp2_with fail
              with_reducible refine (alive_calls wr).mono ?_
              rintro e w982 ⟨rfl, hb⟩
              have HB_62 := lhid (below_then HBw.out HBw.out.size hb)
              clear HBw hb
              go_wp2_with fail
              go_ret
              exact ⟨rfl, HB_62.out⟩
theorem custodyCould_pure : kimberlitelaw06_CustodyCould.Pure2 := fun _ _ _ h0 h1 h2 => ⟨0, h0, h1, h2, trivial⟩
end Go.Proofs.Ytfnlghjkjmppdaa.PC
