/- CustodyTwo: every entry names two grants of two roots and two persons. The law's function walked by hand. -/
import Derived.Test.YtfnlghjkjmppdaaPCxPureCustodyTwo
import Derived.Test.YtfnlghjkjmppdaaCTw
import Derived.Test.YtfnlghjkjmppdaaCUm
import Derived.Test.YtfnlghjkjmppdaaPCx2
namespace Go.Proofs.Ytfnlghjkjmppdaa.PC
open Go.RowKit Go.Proofs.YtfnlghjkjmppdaaW.PrintWords Go.Proofs.YtfnlghjkjmppdaaW.PrintLast Go.Proofs.YtfnlghjkjmppdaaW.PrintMore Go.Proofs.Ytfnlghjkjmppdaa.Opn
set_option linter.unusedVariables false
set_option linter.unusedSimpArgs false
set_option maxHeartbeats 12800000 in
set_option maxRecDepth 100000 in
theorem kimberlitelaw06_CustodyTwo.calls (k : Nat) (A0 : Option Addr) (c0 : Nat) (l0 : List (S37)) (w : World) (hr0 : Kd.C k37 w A0 l0.length l0) (hc0 : l0.length ≤ c0) (h : kimberlitelaw06_CustodyTwo.ok l0) : Calls Try.prog 9 #[.slice A0 l0.length c0] w fun e w' => e = .returned (.bool true) ∧ Below w.heap.size w w' := by
  have hu37 := Try.underlying37
  have hu39 := Try.underlying39
  have HR0 := lhid hr0
  have HC0 := lhid hc0
  have HK0 := lhid (show ∀ x ∈ l0, 0 ≤ x.f0 ∧ x.f0 < 256 from fun x hx => wf_u8 (h.1.2 x hx).1)
  clear hr0 hc0 h
  go_enter Try.func9, Try.ntmps9
  have HB_1 := lhid (Below.refl w.heap.size w)
  by_cases hfl0 : (l0.length : Int) ≤ 40
  rotate_left
  · go_wp2_with fail
    with_reducible refine (kimberlitelaw06_few.calls A0 c0 l0 false w (Kd.C_below HR0.out HB_1.out) HC0.out (by unfold kimberlitelaw06_few.f; exact congrArg some (decide_eq_false (by omega)))).mono ?_
    rintro e w1 ⟨rfl, nd, hq⟩
    have hb := pw_below_drewN (Below.refl w.heap.size w) nd
    rw [← hq] at hb
    clear hq
    have HB_2 := lhid (below_then HB_1.out HB_1.out.size hb)
    clear HB_1 hb
    go_wp2_with fail
    with_reducible refine (alive_calls w1).mono ?_
    rintro e w902 ⟨rfl, hb⟩
    have HB_3 := lhid (below_then HB_2.out HB_2.out.size hb)
    clear HB_2 hb
    go_wp2_with fail
    go_ret
    exact ⟨rfl, HB_3.out⟩
  go_wp2_with fail
  with_reducible refine (kimberlitelaw06_few.calls A0 c0 l0 true w (Kd.C_below HR0.out HB_1.out) HC0.out (by unfold kimberlitelaw06_few.f; exact congrArg some (decide_eq_true (by omega)))).mono ?_
  rintro e w1 ⟨rfl, nd, hq⟩
  have hb := pw_below_drewN (Below.refl w.heap.size w) nd
  rw [← hq] at hb
  clear hq
  have HB_4 := lhid (below_then HB_1.out HB_1.out.size hb)
  clear HB_1 hb
  have hf : l0.length ≤ 40 := by omega
  clear hfl0
  have HRB := lhid (Kd.C_below HR0.out HB_4.out)
  obtain ⟨wb, hwb⟩ : ∃ q : World, q = w1 := ⟨_, rfl⟩
  have HWB := lhid (show Below w.heap.size w wb by rw [hwb]; exact HB_4.out)
  rw [← hwb] at HRB ⊢
  clear hwb HB_4
  go_wp2_with fail
  with_reducible refine (new_has wb).mono ?_
  rintro e w1 ⟨g, rfl, h1⟩
  have HS0 := lhid (show Has wb.heap.size wb w1 g (runS s0 (l0.take 0)) from h1)
  clear h1
  go_upto_region 5 with (fail)
  go_loopw [4] (fun t wr => ∃ i : Nat, i ≤ l0.length ∧ t = .int .i64 i ∧ Hid (Has wb.heap.size wb wr g (runS s0 (l0.take i)))) (fun t _ => l0.length - (intOf t).toNat)
  case atStart => exact ⟨0, Nat.zero_le _, rfl, HS0⟩
  case round =>
    obtain ⟨i, hi, rfl, HSr⟩ := hrel
    clear HS0
    by_cases hlt : i < l0.length
    · have hlt2 : (i : Int) < (l0.length : Int) := by omega
      have HSX := lhid (runS_take s0 l0 i hlt)
      have HNR := lhid (run_nar (s := s0) nil_nar (l0.take i))
      have HEL := lhid (show (runS s0 (l0.take i)).E.length ≤ 40 by have := (run_len (l0.take i) s0).2; rw [List.length_take] at this; have h0 : s0.E.length = 0 := rfl; omega)
      obtain ⟨x, hx⟩ : ∃ x, x = l0.getD i z37 := ⟨_, rfl⟩
      have HKX := lhid (HK0.out _ (mem_getD hlt))
      rw [← hx] at HSX HKX
      obtain ⟨s, hs⟩ : ∃ s : St, s = runS s0 (l0.take i) := ⟨_, rfl⟩
      rw [← hs] at HSX HNR HSr HEL
      have HX := lhid hx
      clear hs hx
      have HIG := lhid HNR.out.1
      have HTG := lhid HNR.out.1.1
      obtain ⟨⟨F, hk⟩, hb1, hz1⟩ := HSr.out
      have HBK := lhid (show BK wb.heap.size F wr g s.day s.G s.E from hk)
      have HBB := lhid hb1
      have HFL := lhid (show ∀ k, F k → k < wr.heap.size from fun k q => (hk.fb k q).2)
      clear hk hb1 HSr
      have HSZ0 := lhid (Below.refl wr.heap.size wr)
      go_wp2_with fail
      with_reducible refine (grants_calls wb.heap.size g F wr s.day s.G s.E HBK.out HTG.out).mono ?_
      rintro e w11 ⟨vG, rfl, hG, hb⟩
      obtain ⟨AG, cG, rfl⟩ := Kd.R_slice hG
      have HG := lhid (show Kd.R k39 39 w11 wb.heap.size (fun k => ¬ F k) (.slice AG s.G.length cG) s.G from Kd.R_lower (Kd.R_mono (Kd.R_bound hG) (fun k q r => by have := HFL.out k r; have := q.2.1; omega)) (Nat.le_trans (Nat.le_refl _) HBK.out.size))
      clear hG
      have HBK_5 := lhid (HBK.out.next hb)
      have HB_6 := lhid (below_then HBB.out HBB.out.size hb)
      have HSZ_7 := lhid (below_then HSZ0.out HSZ0.out.size hb)
      clear HBK HBB HSZ0 hb
      go_wp2_with fail
      with_reducible refine (entries_calls wb.heap.size g F w11 s.day s.G s.E HBK_5.out (Nat.le_trans HEL.out (by omega))).mono ?_
      rintro e w12 ⟨vE, rfl, hE, hb⟩
      have HBK_8 := lhid (HBK_5.out.next hb)
      have HB_9 := lhid (below_then HB_6.out HB_6.out.size hb)
      have HSZ_10 := lhid (below_then HSZ_7.out HSZ_7.out.size hb)
      have HG_11 := lhid (Kd.R_below HG.out hb)
      clear HBK_5 HB_6 HSZ_7 HG hb
      obtain ⟨AE, cE, rfl⟩ := Kd.R_slice hE
      clear hE
      obtain ⟨ad, eA, x0, x1, x2, x3, x4, x5, x6, x7, x8, x9, x10⟩ := at_T37 (Kd.C_below HRB.out HB_9.out) (i : Int) (by omega) (by omega)
      subst eA
      simp only [rd_T37, Int.toNat_natCast] at x0 x1 x2 x3 x4 x5 x6 x7 x8 x9 x10
      rw [← HX.out] at x0 x1 x2 x3 x4 x5 x6 x7 x8 x9 x10
      have hel := HEL.out
      go_upto_region 10 with (fail)
      clear x0 x1 x2 x3 x4 x5 x6 x7 x8 x9 x10
      have hszq := HSZ_10.out.size
      have hb := below_alloc (Below.refl w12.heap.size w12) (.cells #[.int .u8 x.f0, .int .i64 x.f1, .int .i64 x.f2, .int .i64 x.f3, .int .i64 x.f4, .int .i64 x.f5, .int .i64 x.f6, .int .i64 x.f7, .int .i64 x.f8, .int .i64 x.f9, .int .i64 x.f10] 37)
      have hn := blk_new w12 (.cells #[.int .u8 x.f0, .int .i64 x.f1, .int .i64 x.f2, .int .i64 x.f3, .int .i64 x.f4, .int .i64 x.f5, .int .i64 x.f6, .int .i64 x.f7, .int .i64 x.f8, .int .i64 x.f9, .int .i64 x.f10] 37)
      have HZ13 := lhid (show (World.alloc w12 (.cells #[.int .u8 x.f0, .int .i64 x.f1, .int .i64 x.f2, .int .i64 x.f3, .int .i64 x.f4, .int .i64 x.f5, .int .i64 x.f6, .int .i64 x.f7, .int .i64 x.f8, .int .i64 x.f9, .int .i64 x.f10] 37)).heap.size = w12.heap.size + 1 from by simp)
      generalize hq : World.alloc w12 (.cells #[.int .u8 x.f0, .int .i64 x.f1, .int .i64 x.f2, .int .i64 x.f3, .int .i64 x.f4, .int .i64 x.f5, .int .i64 x.f6, .int .i64 x.f7, .int .i64 x.f8, .int .i64 x.f9, .int .i64 x.f10] 37) = w13 at hb hn HZ13 ⊢
      clear hq
      have HBK_12 := lhid (HBK_8.out.next hb)
      have HB_13 := lhid (below_then HB_9.out HB_9.out.size hb)
      have HSZ_14 := lhid (below_then HSZ_10.out HSZ_10.out.size hb)
      have HG_15 := lhid (Kd.R_below HG_11.out hb)
      clear HBK_8 HB_9 HSZ_10 HG_11 hb
      have XB_16 := lhid (hn)
      clear hn
      obtain ⟨xb, hxb⟩ : ∃ q, q = w12.heap.size := ⟨_, rfl⟩
      rw [← hxb] at XB_16 ⊢
      have HXB := lhid (show ¬ F xb from fun q => by have := HFL.out xb q; omega)
      clear hxb hszq
      obtain ⟨y0, y1, y2, y3, y4, y5, y6, y7, y8, y9, y10⟩ := cells11 XB_16.out
      go_wp2_with fail
      with_reducible refine (Stands_any wb.heap.size g F w13 s.day s.G s.E x.f1 HBK_12.out HTG.out).mono ?_
      rintro e w14 ⟨⟨c1, rfl⟩, hb⟩
      have HBK_17 := lhid (HBK_12.out.next hb)
      have HB_18 := lhid (below_then HB_13.out HB_13.out.size hb)
      have HSZ_19 := lhid (below_then HSZ_14.out HSZ_14.out.size hb)
      have HG_20 := lhid (Kd.R_below HG_15.out hb)
      have XB_21 := lhid (blk_below XB_16.out hb)
      clear HBK_12 HB_13 HSZ_14 HG_15 XB_16 hb
      clear y0 y1 y2 y3 y4 y5 y6 y7 y8 y9 y10
      obtain ⟨y0, y1, y2, y3, y4, y5, y6, y7, y8, y9, y10⟩ := cells11 XB_21.out
      go_wp2_with fail
      with_reducible refine (Stands_any wb.heap.size g F w14 s.day s.G s.E x.f2 HBK_17.out HTG.out).mono ?_
      rintro e w15 ⟨⟨c2, rfl⟩, hb⟩
      have HBK_22 := lhid (HBK_17.out.next hb)
      have HB_23 := lhid (below_then HB_18.out HB_18.out.size hb)
      have HSZ_24 := lhid (below_then HSZ_19.out HSZ_19.out.size hb)
      have HG_25 := lhid (Kd.R_below HG_20.out hb)
      have XB_26 := lhid (blk_below XB_21.out hb)
      clear HBK_17 HB_18 HSZ_19 HG_20 XB_21 hb
      clear y0 y1 y2 y3 y4 y5 y6 y7 y8 y9 y10
      obtain ⟨y0, y1, y2, y3, y4, y5, y6, y7, y8, y9, y10⟩ := cells11 XB_26.out
      go_upto_region 12 with (fail)
      go_wp2_with fail
      have hbkq : Bk wb.heap.size F w15 g s := HBK_22.out
      with_reducible refine (act_calls wb.heap.size g F w15 s x hbkq HIG.out HKX.out).mono ?_
      rintro e w3 ⟨he, hg⟩
      obtain ⟨y, hy, rfl⟩ := one_any he
      have HY := lhid hy
      clear hy he
      clear y0 y1 y2 y3 y4 y5 y6 y7 y8 y9 y10
      have hb3 := (Has.got HBK_22.out HB_23.out hz1 (show Got wb.heap.size F w15 w3 g _ _ _ from hg)).2.1
      obtain ⟨F3, hk3, hr3⟩ := R_got HG_25.out (show Got wb.heap.size F w15 w3 g _ _ _ from hg)
      have hxb3 := (show Got wb.heap.size F w15 w3 g _ _ _ from hg).choose_spec.2.2.blk XB_26.out HXB.out
      have HBK3 := lhid hk3
      have HB3 := lhid hb3
      have HG3 := lhid hr3
      have XB3 := lhid hxb3
      clear hg hk3 hb3 hr3 hxb3 hbkq HBK_22 HB_23 HG_25 XB_26 HSZ_24
      have HLE := lhid (step_len s x).2.2
      have HOY := lhid (fun hh => opens_yes (s := s) (a := x) hh)
      have HON := lhid (fun hh => opens_no (s := s) (a := x) HKX.out.1 hh)
      have HOD := lhid (show opens s x = (decide (x.f0 % 8 ≥ 4) && (decide (x.f0 % 8 ≤ 6) && (y == 0))) by rw [HY.out]; rfl)
      have HTW := lhid (fun hh : openC s.day s.G s.E x.f10 x.f1 x.f3 x.f2 x.f4 = 0 => open_two HNR.out hh)
      obtain ⟨t, ht⟩ : ∃ t : St, t = stepS s x := ⟨_, rfl⟩
      rw [← ht] at HBK3 HLE HOY HON HSX
      clear ht
      go_wp2_with fail
      with_reducible refine (entries_calls wb.heap.size g F3 w3 t.day t.G t.E HBK3.out (by have := HLE.out.1; have := HEL.out; omega)).mono ?_
      rintro e w31 ⟨vE, rfl, hE, hb⟩
      obtain ⟨AE2, cE2, rfl⟩ := Kd.R_slice hE
      have HE := lhid hE
      clear hE
      have HBK_27 := lhid (HBK3.out.next hb)
      have HB_28 := lhid (below_then HB3.out HB3.out.size hb)
      have HG_29 := lhid (Kd.R_below HG3.out hb)
      have XB_30 := lhid (blk_below XB3.out hb)
      clear HBK3 HB3 HG3 XB3 hb
      have hk0 : 0 ≤ x.f0 := HKX.out.1
      have hk1 : x.f0 < 256 := HKX.out.2
      have hel2 : t.E.length ≤ 41 := by have := HLE.out.1; have := HEL.out; omega
      by_cases k4 : x.f0 % 8 ≥ 4
      · have d4 : decide (x.f0 % 8 ≥ 4) = true := decide_eq_true k4
        by_cases k6 : x.f0 % 8 ≤ 6
        · have d6 : decide (x.f0 % 8 ≤ 6) = true := decide_eq_true k6
          by_cases ky : y = 0
          · have dy : (y == 0) = true := beq_iff_eq.mpr ky
            obtain ⟨ho1, ho2⟩ := HOY.out (by rw [HOD.out]; simp [d4, d6, dy])
            have hlen : t.E.length = s.E.length + 1 := by rw [ho2]; simp
            have HLN := lhid hlen
            have HO1 := lhid ho1
            have HO2 := lhid ho2
            have n1 : ((t.E.length : Int) != (s.E.length : Int)) = true := bne_iff_ne.mpr (by omega)
            have n2 : ((t.E.length : Int) != (s.E.length : Int) + 1) = false := bne_eq_false_iff_eq.mpr (by omega)
            clear ho1 ho2 hlen
            obtain ⟨y0, y1, y2, y3, y4, y5, y6, y7, y8, y9, y10⟩ := cells11 XB_30.out
            go_upto_region 18 with (fail)
            clear y0 y1 y2 y3 y4 y5 y6 y7 y8 y9 y10
            clear n1 n2
            have HT2 := lhid (HTW.out HO1.out)
            obtain ⟨⟨v0, v1⟩, ⟨g0, g1⟩, ⟨h0, h1⟩, -⟩ := HT2.out
            have htd : t.day = s.day := by rw [HO2.out]
            have HTD := lhid htd
            clear htd
            obtain ⟨eb, hA⟩ := ent_ad HE.out (by rw [HLN.out]; omega)
            subst hA
            have hin : (s.E.length : Int) < (t.E.length : Int) := by have := HLN.out; omega
            have hin0 : (0 : Int) ≤ (s.E.length : Int) := by omega
            have HEN := lhid (show ∀ hh : s.E.length < t.E.length, t.E[s.E.length] = ⟨s.day, x.f10, x.f1, x.f2⟩ from by rw [HO2.out]; intro hh; simp)
            have e0 : decide (x.f10 < 0) = false := decide_eq_false (by omega)
            have e1 : decide (x.f10 > 15) = false := decide_eq_false (by omega)
            have e2 : decide (x.f1 < 1) = false := decide_eq_false (by omega)
            have e3 : decide (x.f1 > (s.G.length : Int)) = false := decide_eq_false (by omega)
            have e4 : decide (x.f2 < 1) = false := decide_eq_false (by omega)
            have e5 : decide (x.f2 > (s.G.length : Int)) = false := decide_eq_false (by omega)
            have hb := below_drew1 (Below.refl w31.heap.size w31)
            have HBK_31 := lhid (HBK_27.out.next hb)
            have HB_32 := lhid (below_then HB_28.out HB_28.out.size hb)
            have HG_33 := lhid (Kd.R_below HG_29.out hb)
            have XB_34 := lhid (blk_below XB_30.out hb)
            have HE_35 := lhid (Kd.R_below HE.out hb)
            clear HBK_27 HB_28 HG_29 XB_30 HE hb
            refine start_ (n := 48) (S := fun w' => w'.cell? ⟨xb, 10, none⟩ = some (.int .i64 x.f10) ∧ w'.cell? ⟨xb, 1, none⟩ = some (.int .i64 x.f1) ∧ w'.cell? ⟨xb, 2, none⟩ = some (.int .i64 x.f2) ∧ w'.cell? ⟨eb, s.E.length * 4, none⟩ = some (.int .i64 s.day) ∧ w'.cell? ⟨eb, s.E.length * 4 + 1, none⟩ = some (.int .i64 x.f10) ∧ w'.cell? ⟨eb, s.E.length * 4 + 2, none⟩ = some (.int .i64 x.f1) ∧ w'.cell? ⟨eb, s.E.length * 4 + 3, none⟩ = some (.int .i64 x.f2)) (ds := []) (lsb 48 0) (by kernel_rfl) rfl (by kernel_rfl) ⟨(cells11 XB_34.out).2.2.2.2.2.2.2.2.2.2, (cells11 XB_34.out).2.1, (cells11 XB_34.out).2.2.1, ((ent_cells HE_35.out s.E.length (by omega)).1.trans (by rw [HEN.out (by omega)])), ((ent_cells HE_35.out s.E.length (by omega)).2.1.trans (by rw [HEN.out (by omega)])), ((ent_cells HE_35.out s.E.length (by omega)).2.2.1.trans (by rw [HEN.out (by omega)])), ((ent_cells HE_35.out s.E.length (by omega)).2.2.2.trans (by rw [HEN.out (by omega)]))⟩ (fun hHeld => ?_)
            generalize w31.drew = w32 at HBK_31 HB_32 HG_33 XB_34 HE_35 hHeld ⊢
            refine pure_ (i := 0) (N := some 97) (v := ?_) (a' := ?_) (lsb 48 1) rfl rfl (by as_aux_lemma => kernel_rfl) (fun _ _ _ h => h) (Or.inl ⟨by rfl, ?_⟩) ?_ ?_; rotate_left; (intro w'; go_simp; with_reducible rfl); rotate_left; (simp only [Act.put, List.setIfInBounds_toArray, List.set_cons_zero, List.set_cons_succ, i64_w, i32_w]; rfl)
            refine take_ (i := 1) (N := some 98) (v := ?_) (a' := ?_) (lsb 48 3) rfl rfl (by as_aux_lemma => kernel_rfl) (fun _ _ _ h => h) (Or.inl ⟨by rfl, ?_⟩) hHeld ?_ ?_; rotate_left; (rintro w' ⟨s0, s1, s2, s3, s4, s5, s6⟩; go_simp; with_reducible rfl); rotate_left; (simp only [Act.put, List.setIfInBounds_toArray, List.set_cons_zero, List.set_cons_succ, i64_w, i32_w]; rfl)
            refine pure_ (i := 2) (N := some 99) (v := ?_) (a' := ?_) (lsb 48 7) rfl rfl (by as_aux_lemma => kernel_rfl) (fun _ _ _ h => h) (Or.inl ⟨by rfl, ?_⟩) ?_ ?_; rotate_left; (intro w'; go_simp; with_reducible rfl); rotate_left; (simp only [Act.put, List.setIfInBounds_toArray, List.set_cons_zero, List.set_cons_succ, i64_w, i32_w]; rfl)
            refine pure_ (i := 3) (N := some 100) (v := ?_) (a' := ?_) (lsb 48 15) rfl rfl (by as_aux_lemma => kernel_rfl) (fun _ _ _ h => h) (Or.inl ⟨by rfl, ?_⟩) ?_ ?_; rotate_left; (intro w'; go_simp; with_reducible rfl); rotate_left; (simp only [Act.put, List.setIfInBounds_toArray, List.set_cons_zero, List.set_cons_succ, i64_w, i32_w]; rfl)
            refine pure_ (i := 4) (N := some 101) (v := ?_) (a' := ?_) (lsb 48 31) rfl rfl (by as_aux_lemma => kernel_rfl) (fun _ _ _ h => h) (Or.inl ⟨by rfl, ?_⟩) ?_ ?_; rotate_left; (intro w'; go_simp; with_reducible rfl); rotate_left; (simp only [Act.put, List.setIfInBounds_toArray, List.set_cons_zero, List.set_cons_succ, i64_w, i32_w]; rfl)
            refine take_ (i := 5) (N := some 102) (v := ?_) (a' := ?_) (lsb 48 63) rfl rfl (by as_aux_lemma => kernel_rfl) (fun _ _ _ h => h) (Or.inl ⟨by rfl, ?_⟩) hHeld ?_ ?_; rotate_left; (rintro w' ⟨s0, s1, s2, s3, s4, s5, s6⟩; go_simp; with_reducible rfl); rotate_left; (simp only [Act.put, List.setIfInBounds_toArray, List.set_cons_zero, List.set_cons_succ, i64_w, i32_w]; rfl)
            refine pure_ (i := 6) (N := some 103) (v := ?_) (a' := ?_) (lsb 48 127) rfl rfl (by as_aux_lemma => kernel_rfl) (fun _ _ _ h => h) (Or.inl ⟨by rfl, ?_⟩) ?_ ?_; rotate_left; (intro w'; go_simp; with_reducible rfl); rotate_left; (simp only [Act.put, List.setIfInBounds_toArray, List.set_cons_zero, List.set_cons_succ, i64_w, i32_w]; rfl)
            refine pure_ (i := 7) (N := some 104) (v := ?_) (a' := ?_) (lsb 48 255) rfl rfl (by as_aux_lemma => kernel_rfl) (fun _ _ _ h => h) (Or.inl ⟨by rfl, ?_⟩) ?_ ?_; rotate_left; (intro w'; go_simp; with_reducible rfl); rotate_left; (simp only [Act.put, List.setIfInBounds_toArray, List.set_cons_zero, List.set_cons_succ, i64_w, i32_w]; rfl)
            refine pure_ (i := 8) (N := some 105) (v := ?_) (a' := ?_) (lsb 48 511) rfl rfl (by as_aux_lemma => kernel_rfl) (fun _ _ _ h => h) (Or.inl ⟨by rfl, ?_⟩) ?_ ?_; rotate_left; (intro w'; go_simp; with_reducible rfl); rotate_left; (simp only [Act.put, List.setIfInBounds_toArray, List.set_cons_zero, List.set_cons_succ, i64_w, i32_w]; rfl)
            refine pure_ (i := 9) (N := some 106) (v := ?_) (a' := ?_) (lsb 48 1023) rfl rfl (by as_aux_lemma => kernel_rfl) (fun _ _ _ h => h) (Or.inl ⟨by rfl, ?_⟩) ?_ ?_; rotate_left; (intro w'; go_simp; with_reducible rfl); rotate_left; (simp only [Act.put, List.setIfInBounds_toArray, List.set_cons_zero, List.set_cons_succ, i64_w, i32_w]; rfl)
            refine take_ (i := 10) (N := some 107) (v := ?_) (a' := ?_) (lsb 48 2047) rfl rfl (by as_aux_lemma => kernel_rfl) (fun _ _ _ h => h) (Or.inl ⟨by rfl, ?_⟩) hHeld ?_ ?_; rotate_left; (rintro w' ⟨s0, s1, s2, s3, s4, s5, s6⟩; go_simp; with_reducible rfl); rotate_left; (simp only [Act.put, List.setIfInBounds_toArray, List.set_cons_zero, List.set_cons_succ, i64_w, i32_w]; rfl)
            refine pure_ (i := 11) (N := some 108) (v := ?_) (a' := ?_) (lsb 48 4095) rfl rfl (by as_aux_lemma => kernel_rfl) (fun _ _ _ h => h) (Or.inl ⟨by rfl, ?_⟩) ?_ ?_; rotate_left; (intro w'; go_simp; with_reducible rfl); rotate_left; (simp only [Act.put, List.setIfInBounds_toArray, List.set_cons_zero, List.set_cons_succ, i64_w, i32_w]; rfl)
            refine pure_ (i := 12) (N := some 109) (v := ?_) (a' := ?_) (lsb 48 8191) rfl rfl (by as_aux_lemma => kernel_rfl) (fun _ _ _ h => h) (Or.inl ⟨by rfl, ?_⟩) ?_ ?_; rotate_left; (intro w'; go_simp; with_reducible rfl); rotate_left; (simp only [Act.put, List.setIfInBounds_toArray, List.set_cons_zero, List.set_cons_succ, i64_w, i32_w]; rfl)
            refine pure_ (i := 13) (N := some 110) (v := ?_) (a' := ?_) (lsb 48 16383) rfl rfl (by as_aux_lemma => kernel_rfl) (fun _ _ _ h => h) (Or.inl ⟨by rfl, ?_⟩) ?_ ?_; rotate_left; (intro w'; go_simp; with_reducible rfl); rotate_left; (simp only [Act.put, List.setIfInBounds_toArray, List.set_cons_zero, List.set_cons_succ, i64_w, i32_w]; rfl)
            refine pure_ (i := 14) (N := some 111) (v := ?_) (a' := ?_) (lsb 48 32767) rfl rfl (by as_aux_lemma => kernel_rfl) (fun _ _ _ h => h) (Or.inl ⟨by rfl, ?_⟩) ?_ ?_; rotate_left; (intro w'; go_simp; with_reducible rfl); rotate_left; (simp only [Act.put, List.setIfInBounds_toArray, List.set_cons_zero, List.set_cons_succ, i64_w, i32_w]; rfl)
            refine pure_ (i := 16) (N := some 113) (v := ?_) (a' := ?_) (lsb 48 98303) rfl rfl (by as_aux_lemma => kernel_rfl) (fun _ _ _ h => h) (Or.inl ⟨by rfl, ?_⟩) ?_ ?_; rotate_left; (intro w'; go_simp; with_reducible rfl); rotate_left; (simp only [Act.put, List.setIfInBounds_toArray, List.set_cons_zero, List.set_cons_succ, i64_w, i32_w]; rfl)
            refine pure_ (i := 17) (N := some 114) (v := ?_) (a' := ?_) (lsb 48 229375) rfl rfl (by as_aux_lemma => kernel_rfl) (fun _ _ _ h => h) (Or.inl ⟨by rfl, ?_⟩) ?_ ?_; rotate_left; (intro w'; go_simp; with_reducible rfl); rotate_left; (simp only [Act.put, List.setIfInBounds_toArray, List.set_cons_zero, List.set_cons_succ, i64_w, i32_w]; rfl)
            refine take_ (i := 15) (N := some 112) (v := ?_) (a' := ?_) (lsb 48 262143) rfl rfl (by as_aux_lemma => kernel_rfl) (fun _ _ _ h => h) (Or.inl ⟨by rfl, ?_⟩) hHeld ?_ ?_; rotate_left; (rintro w' ⟨s0, s1, s2, s3, s4, s5, s6⟩; go_simp; with_reducible rfl); rotate_left; (simp only [Act.put, List.setIfInBounds_toArray, List.set_cons_zero, List.set_cons_succ, i64_w, i32_w]; rfl)
            refine pure_ (i := 18) (N := some 115) (v := ?_) (a' := ?_) (lsb 48 524287) rfl rfl (by as_aux_lemma => kernel_rfl) (fun _ _ _ h => h) (Or.inl ⟨by rfl, ?_⟩) ?_ ?_; rotate_left; (intro w'; go_simp; with_reducible rfl); rotate_left; (simp only [Act.put, List.setIfInBounds_toArray, List.set_cons_zero, List.set_cons_succ, i64_w, i32_w]; rfl)
            refine pure_ (i := 19) (N := some 116) (v := ?_) (a' := ?_) (lsb 48 1048575) rfl rfl (by as_aux_lemma => kernel_rfl) (fun _ _ _ h => h) (Or.inl ⟨by rfl, ?_⟩) ?_ ?_; rotate_left; (intro w'; go_simp; with_reducible rfl); rotate_left; (simp only [Act.put, List.setIfInBounds_toArray, List.set_cons_zero, List.set_cons_succ, i64_w, i32_w]; rfl)
            refine pure_ (i := 20) (N := some 117) (v := ?_) (a' := ?_) (lsb 48 2097151) rfl rfl (by as_aux_lemma => kernel_rfl) (fun _ _ _ h => h) (Or.inl ⟨by rfl, ?_⟩) ?_ ?_; rotate_left; (intro w'; go_simp; with_reducible rfl); rotate_left; (simp only [Act.put, List.setIfInBounds_toArray, List.set_cons_zero, List.set_cons_succ, i64_w, i32_w]; rfl)
            refine pure_ (i := 21) (N := some 118) (v := ?_) (a' := ?_) (lsb 48 4194303) rfl rfl (by as_aux_lemma => kernel_rfl) (fun _ _ _ h => h) (Or.inl ⟨by rfl, ?_⟩) ?_ ?_; rotate_left; (intro w'; go_simp; with_reducible rfl); rotate_left; (simp only [Act.put, List.setIfInBounds_toArray, List.set_cons_zero, List.set_cons_succ, i64_w, i32_w]; rfl)
            refine take_ (i := 22) (N := some 119) (v := ?_) (a' := ?_) (lsb 48 8388607) rfl rfl (by as_aux_lemma => kernel_rfl) (fun _ _ _ h => h) (Or.inl ⟨by rfl, ?_⟩) hHeld ?_ ?_; rotate_left; (rintro w' ⟨s0, s1, s2, s3, s4, s5, s6⟩; go_simp; with_reducible rfl); rotate_left; (simp only [Act.put, List.setIfInBounds_toArray, List.set_cons_zero, List.set_cons_succ, i64_w, i32_w]; rfl)
            refine pure_ (i := 23) (N := some 120) (v := ?_) (a' := ?_) (lsb 48 16777215) rfl rfl (by as_aux_lemma => kernel_rfl) (fun _ _ _ h => h) (Or.inl ⟨by rfl, ?_⟩) ?_ ?_; rotate_left; (intro w'; go_simp; with_reducible rfl); rotate_left; (simp only [Act.put, List.setIfInBounds_toArray, List.set_cons_zero, List.set_cons_succ, i64_w, i32_w]; rfl)
            refine pure_ (i := 24) (N := some 121) (v := ?_) (a' := ?_) (lsb 48 33554431) rfl rfl (by as_aux_lemma => kernel_rfl) (fun _ _ _ h => h) (Or.inl ⟨by rfl, ?_⟩) ?_ ?_; rotate_left; (intro w'; go_simp; with_reducible rfl); rotate_left; (simp only [Act.put, List.setIfInBounds_toArray, List.set_cons_zero, List.set_cons_succ, i64_w, i32_w]; rfl)
            refine pure_ (i := 25) (N := some 122) (v := ?_) (a' := ?_) (lsb 48 67108863) rfl rfl (by as_aux_lemma => kernel_rfl) (fun _ _ _ h => h) (Or.inl ⟨by rfl, ?_⟩) ?_ ?_; rotate_left; (intro w'; go_simp; with_reducible rfl); rotate_left; (simp only [Act.put, List.setIfInBounds_toArray, List.set_cons_zero, List.set_cons_succ, i64_w, i32_w]; rfl)
            refine pure_ (i := 26) (N := some 123) (v := ?_) (a' := ?_) (lsb 48 134217727) rfl rfl (by as_aux_lemma => kernel_rfl) (fun _ _ _ h => h) (Or.inl ⟨by rfl, ?_⟩) ?_ ?_; rotate_left; (intro w'; go_simp; with_reducible rfl); rotate_left; (simp only [Act.put, List.setIfInBounds_toArray, List.set_cons_zero, List.set_cons_succ, i64_w, i32_w]; rfl)
            refine pure_ (i := 28) (N := some 125) (v := ?_) (a' := ?_) (lsb 48 402653183) rfl rfl (by as_aux_lemma => kernel_rfl) (fun _ _ _ h => h) (Or.inl ⟨by rfl, ?_⟩) ?_ ?_; rotate_left; (intro w'; go_simp; with_reducible rfl); rotate_left; (simp only [Act.put, List.setIfInBounds_toArray, List.set_cons_zero, List.set_cons_succ, i64_w, i32_w]; rfl)
            refine pure_ (i := 29) (N := some 126) (v := ?_) (a' := ?_) (lsb 48 939524095) rfl rfl (by as_aux_lemma => kernel_rfl) (fun _ _ _ h => h) (Or.inl ⟨by rfl, ?_⟩) ?_ ?_; rotate_left; (intro w'; go_simp; with_reducible rfl); rotate_left; (simp only [Act.put, List.setIfInBounds_toArray, List.set_cons_zero, List.set_cons_succ, i64_w, i32_w]; rfl)
            refine take_ (i := 27) (N := some 124) (v := ?_) (a' := ?_) (lsb 48 1073741823) rfl rfl (by as_aux_lemma => kernel_rfl) (fun _ _ _ h => h) (Or.inl ⟨by rfl, ?_⟩) hHeld ?_ ?_; rotate_left; (rintro w' ⟨s0, s1, s2, s3, s4, s5, s6⟩; go_simp; with_reducible rfl); rotate_left; (simp only [Act.put, List.setIfInBounds_toArray, List.set_cons_zero, List.set_cons_succ, i64_w, i32_w]; rfl)
            refine pure_ (i := 30) (N := some 127) (v := ?_) (a' := ?_) (lsb 48 2147483647) rfl rfl (by as_aux_lemma => kernel_rfl) (fun _ _ _ h => h) (Or.inl ⟨by rfl, ?_⟩) ?_ ?_; rotate_left; (intro w'; go_simp; with_reducible rfl); rotate_left; (simp only [Act.put, List.setIfInBounds_toArray, List.set_cons_zero, List.set_cons_succ, i64_w, i32_w]; rfl)
            refine pure_ (i := 31) (N := some 128) (v := ?_) (a' := ?_) (lsb 48 4294967295) rfl rfl (by as_aux_lemma => kernel_rfl) (fun _ _ _ h => h) (Or.inl ⟨by rfl, ?_⟩) ?_ ?_; rotate_left; (intro w'; go_simp; with_reducible rfl); rotate_left; (simp only [Act.put, List.setIfInBounds_toArray, List.set_cons_zero, List.set_cons_succ, i64_w, i32_w]; rfl)
            refine pure_ (i := 32) (N := some 129) (v := ?_) (a' := ?_) (lsb 48 8589934591) rfl rfl (by as_aux_lemma => kernel_rfl) (fun _ _ _ h => h) (Or.inl ⟨by rfl, ?_⟩) ?_ ?_; rotate_left; (intro w'; go_simp; with_reducible rfl); rotate_left; (simp only [Act.put, List.setIfInBounds_toArray, List.set_cons_zero, List.set_cons_succ, i64_w, i32_w]; rfl)
            refine pure_ (i := 33) (N := some 130) (v := ?_) (a' := ?_) (lsb 48 17179869183) rfl rfl (by as_aux_lemma => kernel_rfl) (fun _ _ _ h => h) (Or.inl ⟨by rfl, ?_⟩) ?_ ?_; rotate_left; (intro w'; go_simp; with_reducible rfl); rotate_left; (simp only [Act.put, List.setIfInBounds_toArray, List.set_cons_zero, List.set_cons_succ, i64_w, i32_w]; rfl)
            refine pure_ (i := 34) (N := some 131) (v := ?_) (a' := ?_) (lsb 48 34359738367) rfl rfl (by as_aux_lemma => kernel_rfl) (fun _ _ _ h => h) (Or.inl ⟨by rfl, ?_⟩) ?_ ?_; rotate_left; (intro w'; go_simp; with_reducible rfl); rotate_left; (simp only [Act.put, List.setIfInBounds_toArray, List.set_cons_zero, List.set_cons_succ, i64_w, i32_w]; rfl)
            refine pure_ (i := 35) (N := some 132) (v := ?_) (a' := ?_) (lsb 48 68719476735) rfl rfl (by as_aux_lemma => kernel_rfl) (fun _ _ _ h => h) (Or.inl ⟨by rfl, ?_⟩) ?_ ?_; rotate_left; (intro w'; go_simp; with_reducible rfl); rotate_left; (simp only [Act.put, List.setIfInBounds_toArray, List.set_cons_zero, List.set_cons_succ, i64_w, i32_w]; rfl)
            refine pure_ (i := 37) (N := some 134) (v := ?_) (a' := ?_) (lsb 48 206158430207) rfl rfl (by as_aux_lemma => kernel_rfl) (fun _ _ _ h => h) (Or.inl ⟨by rfl, ?_⟩) ?_ ?_; rotate_left; (intro w'; go_simp; with_reducible rfl); rotate_left; (simp only [Act.put, List.setIfInBounds_toArray, List.set_cons_zero, List.set_cons_succ, i64_w, i32_w]; rfl)
            refine pure_ (i := 39) (N := some 136) (v := ?_) (a' := ?_) (lsb 48 755914244095) rfl rfl (by as_aux_lemma => kernel_rfl) (fun _ _ _ h => h) (Or.inl ⟨by rfl, ?_⟩) ?_ ?_; rotate_left; (intro w'; go_simp; with_reducible rfl); rotate_left; (simp only [Act.put, List.setIfInBounds_toArray, List.set_cons_zero, List.set_cons_succ, i64_w, i32_w]; rfl)
            refine pure_ (i := 41) (N := some 138) (v := ?_) (a' := ?_) (lsb 48 2954937499647) rfl rfl (by as_aux_lemma => kernel_rfl) (fun _ _ _ h => h) (Or.inl ⟨by rfl, ?_⟩) ?_ ?_; rotate_left; (intro w'; go_simp; with_reducible rfl); rotate_left; (simp only [Act.put, List.setIfInBounds_toArray, List.set_cons_zero, List.set_cons_succ, i64_w, i32_w]; rfl)
            refine pure_ (i := 43) (N := some 140) (v := ?_) (a' := ?_) (lsb 48 11751030521855) rfl rfl (by as_aux_lemma => kernel_rfl) (fun _ _ _ h => h) (Or.inl ⟨by rfl, ?_⟩) ?_ ?_; rotate_left; (intro w'; go_simp; with_reducible rfl); rotate_left; (simp only [Act.put, List.setIfInBounds_toArray, List.set_cons_zero, List.set_cons_succ, i64_w, i32_w]; rfl)
            refine take_ (i := 36) (N := some 133) (v := ?_) (a' := ?_) (lsb 48 11819749998591) rfl rfl (by as_aux_lemma => kernel_rfl) (fun _ _ _ h => h) (Or.inl ⟨by rfl, ?_⟩) hHeld ?_ ?_; rotate_left; (rintro w' ⟨s0, s1, s2, s3, s4, s5, s6⟩; go_simp; with_reducible rfl); rotate_left; (simp only [Act.put, List.setIfInBounds_toArray, List.set_cons_zero, List.set_cons_succ, i64_w, i32_w]; rfl)
            refine take_ (i := 40) (N := some 137) (v := ?_) (a' := ?_) (lsb 48 12919261626367) rfl rfl (by as_aux_lemma => kernel_rfl) (fun _ _ _ h => h) (Or.inl ⟨by rfl, ?_⟩) hHeld ?_ ?_; rotate_left; (rintro w' ⟨s0, s1, s2, s3, s4, s5, s6⟩; go_simp; with_reducible rfl); rotate_left; (simp only [Act.put, List.setIfInBounds_toArray, List.set_cons_zero, List.set_cons_succ, i64_w, i32_w]; rfl)
            refine take_ (i := 42) (N := some 139) (v := ?_) (a' := ?_) (lsb 48 17317308137471) rfl rfl (by as_aux_lemma => kernel_rfl) (fun _ _ _ h => h) (Or.inl ⟨by rfl, ?_⟩) hHeld ?_ ?_; rotate_left; (rintro w' ⟨s0, s1, s2, s3, s4, s5, s6⟩; go_simp; with_reducible rfl); rotate_left; (simp only [Act.put, List.setIfInBounds_toArray, List.set_cons_zero, List.set_cons_succ, i64_w, i32_w]; rfl)
            refine take_ (i := 44) (N := some 141) (v := ?_) (a' := ?_) (lsb 48 34909494181887) rfl rfl (by as_aux_lemma => kernel_rfl) (fun _ _ _ h => h) (Or.inl ⟨by rfl, ?_⟩) hHeld ?_ ?_; rotate_left; (rintro w' ⟨s0, s1, s2, s3, s4, s5, s6⟩; go_simp; with_reducible rfl); rotate_left; (simp only [Act.put, List.setIfInBounds_toArray, List.set_cons_zero, List.set_cons_succ, i64_w, i32_w]; rfl)
            refine one_ (i := 38) (N := some 135) (lsb 48 35184372088831) rfl rfl (by kernel_rfl) (by decide) (fun K hK => ?_)
            refine goes_ Try.func26 (by kernel_rfl) rfl #[.pointer (some ⟨g, 0, none⟩)] (by rfl) rfl rfl (by (try simp only [List.map_toArray, List.map_cons, List.map_nil]); first | done | rfl) ?_
            with_reducible refine (day_calls wb.heap.size g F3 _ t.day t.G t.E HBK_31.out).mono ?_
            rintro e w9 ⟨rfl, rfl⟩
            refine ⟨_, rfl, ?_⟩
            rw [HTD.out]
            refine hK.out _ _ ⟨(cells11 XB_34.out).2.2.2.2.2.2.2.2.2.2, (cells11 XB_34.out).2.1, (cells11 XB_34.out).2.2.1, ((ent_cells HE_35.out s.E.length (by omega)).1.trans (by rw [HEN.out (by omega)])), ((ent_cells HE_35.out s.E.length (by omega)).2.1.trans (by rw [HEN.out (by omega)])), ((ent_cells HE_35.out s.E.length (by omega)).2.2.1.trans (by rw [HEN.out (by omega)])), ((ent_cells HE_35.out s.E.length (by omega)).2.2.2.trans (by rw [HEN.out (by omega)]))⟩ (fun hHeld => ?_)
            clear hK K
            refine norm_ (a' := ?_) ?_ ?_
            rotate_left
            · show Act.put _ (some 135) _ = _
              simp only [Act.put, List.setIfInBounds_toArray, List.set_cons_zero, List.set_cons_succ, i64_w, i32_w]
              rfl
            refine pure_ (i := 45) (N := some 142) (v := ?_) (a' := ?_) (lsb 48 70368744177663) rfl rfl (by as_aux_lemma => kernel_rfl) (fun _ _ _ h => h) (Or.inl ⟨by rfl, ?_⟩) ?_ ?_; rotate_left; (intro w'; go_simp; with_reducible rfl); rotate_left; (simp only [Act.put, List.setIfInBounds_toArray, List.set_cons_zero, List.set_cons_succ, i64_w, i32_w]; rfl)
            refine pure_ (i := 46) (N := some 143) (v := ?_) (a' := ?_) (lsb 48 140737488355327) rfl rfl (by as_aux_lemma => kernel_rfl) (fun _ _ _ h => h) (Or.inl ⟨by rfl, ?_⟩) ?_ ?_; rotate_left; (intro w'; go_simp; with_reducible rfl); rotate_left; (simp only [Act.put, List.setIfInBounds_toArray, List.set_cons_zero, List.set_cons_succ, i64_w, i32_w]; rfl)
            refine pure_ (i := 47) (N := some 144) (v := ?_) (a' := ?_) (lsb 48 281474976710655) rfl rfl (by as_aux_lemma => kernel_rfl) (fun _ _ _ h => h) (Or.inl ⟨by rfl, ?_⟩) ?_ ?_; rotate_left; (intro w'; go_simp; with_reducible rfl); rotate_left; (simp only [Act.put, List.setIfInBounds_toArray, List.set_cons_zero, List.set_cons_succ, i64_w, i32_w]; rfl)
            refine done_ (by kernel_rfl) ?_
            
            go_upto_region 20 with (fail)
            clear e0 e1 e2 e3 e4 e5
            obtain ⟨gb, hA⟩ := row_ad HG_33.out (by omega)
            subst hA
            have htg := HTG.out.1
            obtain ⟨p, hp⟩ : ∃ z, z = gr s.G x.f1.toNat := ⟨_, rfl⟩
            have hwp : wrap64 (x.f1 - 1) = x.f1 - 1 := by unfold wrap64; omega
            have HGp := lhid (show s.G.getD (wrap64 (x.f1 - 1)).toNat z39 = p by rw [hp, hwp, show x.f1.toNat = (x.f1 - 1).toNat + 1 by omega]; exact (gr_getD s.G _).symm)
            have HLp := lhid (show (wrap64 (x.f1 - 1)).toNat < s.G.length by rw [hwp]; omega)
            rw [← hp] at HT2
            clear hp
            obtain ⟨q, hq⟩ : ∃ z, z = gr s.G x.f2.toNat := ⟨_, rfl⟩
            have hwq : wrap64 (x.f2 - 1) = x.f2 - 1 := by unfold wrap64; omega
            have HGq := lhid (show s.G.getD (wrap64 (x.f2 - 1)).toNat z39 = q by rw [hq, hwq, show x.f2.toNat = (x.f2 - 1).toNat + 1 by omega]; exact (gr_getD s.G _).symm)
            have HLq := lhid (show (wrap64 (x.f2 - 1)).toNat < s.G.length by rw [hwq]; omega)
            rw [← hq] at HT2
            clear hq
            have hz1 : (0 : Int) ≤ wrap64 (x.f1 - 1) := by rw [hwp]; omega
            have hz2 : wrap64 (x.f1 - 1) < (s.G.length : Int) := by rw [hwp]; omega
            have hz3 : (0 : Int) ≤ wrap64 (x.f2 - 1) := by rw [hwq]; omega
            have hz4 : wrap64 (x.f2 - 1) < (s.G.length : Int) := by rw [hwq]; omega
            clear hwp hwq
            have hb := below_drew1 (Below.refl w32.heap.size w32)
            have HBK_36 := lhid (HBK_31.out.next hb)
            have HB_37 := lhid (below_then HB_32.out HB_32.out.size hb)
            have HG_38 := lhid (Kd.R_below HG_33.out hb)
            have XB_39 := lhid (blk_below XB_34.out hb)
            have HE_40 := lhid (Kd.R_below HE_35.out hb)
            clear HBK_31 HB_32 HG_33 XB_34 HE_35 hb
            refine start_ (n := 16) (S := fun w' => w'.cell? ⟨xb, 1, none⟩ = some (.int .i64 x.f1) ∧ w'.cell? ⟨xb, 2, none⟩ = some (.int .i64 x.f2) ∧ w'.cell? ⟨gb, (wrap64 (x.f1 - 1)).toNat * 9, none⟩ = some (.int .i64 p.f0) ∧ w'.cell? ⟨gb, (wrap64 (x.f1 - 1)).toNat * 9 + 1, none⟩ = some (.int .i64 p.f1) ∧ w'.cell? ⟨gb, (wrap64 (x.f1 - 1)).toNat * 9 + 2, none⟩ = some (.int .i64 p.f2) ∧ w'.cell? ⟨gb, (wrap64 (x.f1 - 1)).toNat * 9 + 3, none⟩ = some (.int .i64 p.f3) ∧ w'.cell? ⟨gb, (wrap64 (x.f1 - 1)).toNat * 9 + 4, none⟩ = some (.int .i64 p.f4) ∧ w'.cell? ⟨gb, (wrap64 (x.f1 - 1)).toNat * 9 + 5, none⟩ = some (.int .i64 p.f5) ∧ w'.cell? ⟨gb, (wrap64 (x.f1 - 1)).toNat * 9 + 6, none⟩ = some (.int .i64 p.f6) ∧ w'.cell? ⟨gb, (wrap64 (x.f1 - 1)).toNat * 9 + 7, none⟩ = some (.int .i64 p.f7) ∧ w'.cell? ⟨gb, (wrap64 (x.f1 - 1)).toNat * 9 + 8, none⟩ = some (.bool p.f8) ∧ w'.cell? ⟨gb, (wrap64 (x.f2 - 1)).toNat * 9, none⟩ = some (.int .i64 q.f0) ∧ w'.cell? ⟨gb, (wrap64 (x.f2 - 1)).toNat * 9 + 1, none⟩ = some (.int .i64 q.f1) ∧ w'.cell? ⟨gb, (wrap64 (x.f2 - 1)).toNat * 9 + 2, none⟩ = some (.int .i64 q.f2) ∧ w'.cell? ⟨gb, (wrap64 (x.f2 - 1)).toNat * 9 + 3, none⟩ = some (.int .i64 q.f3) ∧ w'.cell? ⟨gb, (wrap64 (x.f2 - 1)).toNat * 9 + 4, none⟩ = some (.int .i64 q.f4) ∧ w'.cell? ⟨gb, (wrap64 (x.f2 - 1)).toNat * 9 + 5, none⟩ = some (.int .i64 q.f5) ∧ w'.cell? ⟨gb, (wrap64 (x.f2 - 1)).toNat * 9 + 6, none⟩ = some (.int .i64 q.f6) ∧ w'.cell? ⟨gb, (wrap64 (x.f2 - 1)).toNat * 9 + 7, none⟩ = some (.int .i64 q.f7) ∧ w'.cell? ⟨gb, (wrap64 (x.f2 - 1)).toNat * 9 + 8, none⟩ = some (.bool q.f8)) (ds := [15]) (lsb 16 0) (by kernel_rfl) rfl (by kernel_rfl) ⟨(cells11 XB_39.out).2.1, (cells11 XB_39.out).2.2.1, ((row_cells HG_38.out (wrap64 (x.f1 - 1)).toNat HLp.out).1.trans (by rw [HGp.out])), ((row_cells HG_38.out (wrap64 (x.f1 - 1)).toNat HLp.out).2.1.trans (by rw [HGp.out])), ((row_cells HG_38.out (wrap64 (x.f1 - 1)).toNat HLp.out).2.2.1.trans (by rw [HGp.out])), ((row_cells HG_38.out (wrap64 (x.f1 - 1)).toNat HLp.out).2.2.2.1.trans (by rw [HGp.out])), ((row_cells HG_38.out (wrap64 (x.f1 - 1)).toNat HLp.out).2.2.2.2.1.trans (by rw [HGp.out])), ((row_cells HG_38.out (wrap64 (x.f1 - 1)).toNat HLp.out).2.2.2.2.2.1.trans (by rw [HGp.out])), ((row_cells HG_38.out (wrap64 (x.f1 - 1)).toNat HLp.out).2.2.2.2.2.2.1.trans (by rw [HGp.out])), ((row_cells HG_38.out (wrap64 (x.f1 - 1)).toNat HLp.out).2.2.2.2.2.2.2.1.trans (by rw [HGp.out])), ((row_cells HG_38.out (wrap64 (x.f1 - 1)).toNat HLp.out).2.2.2.2.2.2.2.2.trans (by rw [HGp.out])), ((row_cells HG_38.out (wrap64 (x.f2 - 1)).toNat HLq.out).1.trans (by rw [HGq.out])), ((row_cells HG_38.out (wrap64 (x.f2 - 1)).toNat HLq.out).2.1.trans (by rw [HGq.out])), ((row_cells HG_38.out (wrap64 (x.f2 - 1)).toNat HLq.out).2.2.1.trans (by rw [HGq.out])), ((row_cells HG_38.out (wrap64 (x.f2 - 1)).toNat HLq.out).2.2.2.1.trans (by rw [HGq.out])), ((row_cells HG_38.out (wrap64 (x.f2 - 1)).toNat HLq.out).2.2.2.2.1.trans (by rw [HGq.out])), ((row_cells HG_38.out (wrap64 (x.f2 - 1)).toNat HLq.out).2.2.2.2.2.1.trans (by rw [HGq.out])), ((row_cells HG_38.out (wrap64 (x.f2 - 1)).toNat HLq.out).2.2.2.2.2.2.1.trans (by rw [HGq.out])), ((row_cells HG_38.out (wrap64 (x.f2 - 1)).toNat HLq.out).2.2.2.2.2.2.2.1.trans (by rw [HGq.out])), ((row_cells HG_38.out (wrap64 (x.f2 - 1)).toNat HLq.out).2.2.2.2.2.2.2.2.trans (by rw [HGq.out]))⟩ (fun hHeld => ?_)
            generalize w32.drew = w33 at HBK_36 HB_37 HG_38 XB_39 HE_40 hHeld ⊢
            refine pure_ (i := 0) (N := some 145) (v := ?_) (a' := ?_) (lsb 16 1) rfl rfl (by as_aux_lemma => kernel_rfl) (fun _ _ _ h => h) (Or.inl ⟨by rfl, ?_⟩) ?_ ?_; rotate_left; (intro w'; go_simp; with_reducible rfl); rotate_left; (simp only [Act.put, List.setIfInBounds_toArray, List.set_cons_zero, List.set_cons_succ, i64_w, i32_w]; rfl)
            refine pure_ (i := 1) (N := some 146) (v := ?_) (a' := ?_) (lsb 16 3) rfl rfl (by as_aux_lemma => kernel_rfl) (fun _ _ _ h => h) (Or.inl ⟨by rfl, ?_⟩) ?_ ?_; rotate_left; (intro w'; go_simp; with_reducible rfl); rotate_left; (simp only [Act.put, List.setIfInBounds_toArray, List.set_cons_zero, List.set_cons_succ, i64_w, i32_w]; rfl)
            refine pure_ (i := 6) (N := some 151) (v := ?_) (a' := ?_) (lsb 16 67) rfl rfl (by as_aux_lemma => kernel_rfl) (fun _ _ _ h => h) (Or.inl ⟨by rfl, ?_⟩) ?_ ?_; rotate_left; (intro w'; go_simp; with_reducible rfl); rotate_left; (simp only [Act.put, List.setIfInBounds_toArray, List.set_cons_zero, List.set_cons_succ, i64_w, i32_w]; rfl)
            refine pure_ (i := 7) (N := some 152) (v := ?_) (a' := ?_) (lsb 16 195) rfl rfl (by as_aux_lemma => kernel_rfl) (fun _ _ _ h => h) (Or.inl ⟨by rfl, ?_⟩) ?_ ?_; rotate_left; (intro w'; go_simp; with_reducible rfl); rotate_left; (simp only [Act.put, List.setIfInBounds_toArray, List.set_cons_zero, List.set_cons_succ, i64_w, i32_w]; rfl)
            refine take_ (i := 2) (N := some 147) (v := ?_) (a' := ?_) (lsb 16 199) rfl rfl (by as_aux_lemma => kernel_rfl) (fun _ _ _ h => h) (Or.inl ⟨by rfl, ?_⟩) hHeld ?_ ?_; rotate_left; (rintro w' ⟨s0, s1, s2, s3, s4, s5, s6, s7, s8, s9, s10, s11, s12, s13, s14, s15, s16, s17, s18, s19⟩; go_simp; with_reducible rfl); rotate_left; (simp only [Act.put, List.setIfInBounds_toArray, List.set_cons_zero, List.set_cons_succ, i64_w, i32_w]; rfl)
            refine pure_ (i := 3) (N := some 148) (v := ?_) (a' := ?_) (lsb 16 207) rfl rfl (by as_aux_lemma => kernel_rfl) (fun _ _ _ h => h) (Or.inl ⟨by rfl, ?_⟩) ?_ ?_; rotate_left; (intro w'; go_simp; with_reducible rfl); rotate_left; (simp only [Act.put, List.setIfInBounds_toArray, List.set_cons_zero, List.set_cons_succ, i64_w, i32_w]; rfl)
            refine pure_ (i := 4) (N := some 149) (v := ?_) (a' := ?_) (lsb 16 223) rfl rfl (by as_aux_lemma => kernel_rfl) (fun _ _ _ h => h) (Or.inl ⟨by rfl, ?_⟩) ?_ ?_; rotate_left; (intro w'; go_simp; with_reducible rfl); rotate_left; (simp only [Act.put, List.setIfInBounds_toArray, List.set_cons_zero, List.set_cons_succ, i64_w, i32_w]; rfl)
            refine take_ (i := 5) (N := some 150) (v := ?_) (a' := ?_) (lsb 16 255) rfl rfl (by as_aux_lemma => kernel_rfl) (fun _ _ _ h => h) (Or.inl ⟨by rfl, ?_⟩) hHeld ?_ ?_; rotate_left; (rintro w' ⟨s0, s1, s2, s3, s4, s5, s6, s7, s8, s9, s10, s11, s12, s13, s14, s15, s16, s17, s18, s19⟩; go_simp; with_reducible rfl); rotate_left; (simp only [Act.put, List.setIfInBounds_toArray, List.set_cons_zero, List.set_cons_succ, i64_w, i32_w]; rfl)
            refine take_ (i := 8) (N := some 153) (v := ?_) (a' := ?_) (lsb 16 511) rfl rfl (by as_aux_lemma => kernel_rfl) (fun _ _ _ h => h) (Or.inl ⟨by rfl, ?_⟩) hHeld ?_ ?_; rotate_left; (rintro w' ⟨s0, s1, s2, s3, s4, s5, s6, s7, s8, s9, s10, s11, s12, s13, s14, s15, s16, s17, s18, s19⟩; go_simp; with_reducible rfl); rotate_left; (simp only [Act.put, List.setIfInBounds_toArray, List.set_cons_zero, List.set_cons_succ, i64_w, i32_w]; rfl)
            refine pure_ (i := 9) (N := some 154) (v := ?_) (a' := ?_) (lsb 16 1023) rfl rfl (by as_aux_lemma => kernel_rfl) (fun _ _ _ h => h) (Or.inl ⟨by rfl, ?_⟩) ?_ ?_; rotate_left; (intro w'; go_simp; with_reducible rfl); rotate_left; (simp only [Act.put, List.setIfInBounds_toArray, List.set_cons_zero, List.set_cons_succ, i64_w, i32_w]; rfl)
            refine pure_ (i := 10) (N := some 155) (v := ?_) (a' := ?_) (lsb 16 2047) rfl rfl (by as_aux_lemma => kernel_rfl) (fun _ _ _ h => h) (Or.inl ⟨by rfl, ?_⟩) ?_ ?_; rotate_left; (intro w'; go_simp; with_reducible rfl); rotate_left; (simp only [Act.put, List.setIfInBounds_toArray, List.set_cons_zero, List.set_cons_succ, i64_w, i32_w]; rfl)
            refine take_ (i := 11) (N := some 156) (v := ?_) (a' := ?_) (lsb 16 4095) rfl rfl (by as_aux_lemma => kernel_rfl) (fun _ _ _ h => h) (Or.inl ⟨by rfl, ?_⟩) hHeld ?_ ?_; rotate_left; (rintro w' ⟨s0, s1, s2, s3, s4, s5, s6, s7, s8, s9, s10, s11, s12, s13, s14, s15, s16, s17, s18, s19⟩; go_simp; with_reducible rfl); rotate_left; (simp only [Act.put, List.setIfInBounds_toArray, List.set_cons_zero, List.set_cons_succ, i64_w, i32_w]; rfl)
            refine join_ (σ := Nat × Nat) 2 (lsb 16 16383) (fun s_ => [(15, .pointer (some ⟨s_.1, 0, none⟩)), (16, .pointer (some ⟨s_.2, 0, none⟩))]) (fun s_ w' => (w'.cell? ⟨xb, 1, none⟩ = some (.int .i64 x.f1) ∧ w'.cell? ⟨xb, 2, none⟩ = some (.int .i64 x.f2) ∧ w'.cell? ⟨gb, (wrap64 (x.f1 - 1)).toNat * 9, none⟩ = some (.int .i64 p.f0) ∧ w'.cell? ⟨gb, (wrap64 (x.f1 - 1)).toNat * 9 + 1, none⟩ = some (.int .i64 p.f1) ∧ w'.cell? ⟨gb, (wrap64 (x.f1 - 1)).toNat * 9 + 2, none⟩ = some (.int .i64 p.f2) ∧ w'.cell? ⟨gb, (wrap64 (x.f1 - 1)).toNat * 9 + 3, none⟩ = some (.int .i64 p.f3) ∧ w'.cell? ⟨gb, (wrap64 (x.f1 - 1)).toNat * 9 + 4, none⟩ = some (.int .i64 p.f4) ∧ w'.cell? ⟨gb, (wrap64 (x.f1 - 1)).toNat * 9 + 5, none⟩ = some (.int .i64 p.f5) ∧ w'.cell? ⟨gb, (wrap64 (x.f1 - 1)).toNat * 9 + 6, none⟩ = some (.int .i64 p.f6) ∧ w'.cell? ⟨gb, (wrap64 (x.f1 - 1)).toNat * 9 + 7, none⟩ = some (.int .i64 p.f7) ∧ w'.cell? ⟨gb, (wrap64 (x.f1 - 1)).toNat * 9 + 8, none⟩ = some (.bool p.f8) ∧ w'.cell? ⟨gb, (wrap64 (x.f2 - 1)).toNat * 9, none⟩ = some (.int .i64 q.f0) ∧ w'.cell? ⟨gb, (wrap64 (x.f2 - 1)).toNat * 9 + 1, none⟩ = some (.int .i64 q.f1) ∧ w'.cell? ⟨gb, (wrap64 (x.f2 - 1)).toNat * 9 + 2, none⟩ = some (.int .i64 q.f2) ∧ w'.cell? ⟨gb, (wrap64 (x.f2 - 1)).toNat * 9 + 3, none⟩ = some (.int .i64 q.f3) ∧ w'.cell? ⟨gb, (wrap64 (x.f2 - 1)).toNat * 9 + 4, none⟩ = some (.int .i64 q.f4) ∧ w'.cell? ⟨gb, (wrap64 (x.f2 - 1)).toNat * 9 + 5, none⟩ = some (.int .i64 q.f5) ∧ w'.cell? ⟨gb, (wrap64 (x.f2 - 1)).toNat * 9 + 6, none⟩ = some (.int .i64 q.f6) ∧ w'.cell? ⟨gb, (wrap64 (x.f2 - 1)).toNat * 9 + 7, none⟩ = some (.int .i64 q.f7) ∧ w'.cell? ⟨gb, (wrap64 (x.f2 - 1)).toNat * 9 + 8, none⟩ = some (.bool q.f8)) ∧ Hid (Below w33.heap.size w33 w') ∧ Hid (s_.1 ≠ s_.2 ∧ w'.heap[s_.1]? = some (.cells #[.int .i64 0, .int .i64 0, .int .i64 0, .int .i64 0, .int .i64 0, .int .i64 0, .int .i64 0, .int .i64 0, .bool false] 39) ∧ w'.heap[s_.2]? = some (.cells #[.int .i64 0, .int .i64 0, .int .i64 0, .int .i64 0, .int .i64 0, .int .i64 0, .int .i64 0, .int .i64 0, .bool false] 39) ∧ w33.heap.size ≤ s_.1 ∧ w33.heap.size ≤ s_.2)) ?_ ?_
            rotate_left
            · intro hCont
              refine two_ (i := 12) (j := 13) (Ni := some 15) (Nj := some 16) (lsb 16 8191) (lsb 16 12287) rfl rfl rfl rfl (by kernel_rfl) (by decide) (by decide) (fun K hK => ?_) (fun K hK => ?_)
              · skip
                refine value_ (w1 := ?_) (v := ?_) (by rfl) rfl ?_ ?_
                rotate_left 2
                · go_simp
                  constructor
                  · rfl
                  · rfl
                refine hK.out _ _ ⟨(pw_cell_below (below_alloc (Below.refl _ _) (.cells #[.int .i64 0, .int .i64 0, .int .i64 0, .int .i64 0, .int .i64 0, .int .i64 0, .int .i64 0, .int .i64 0, .bool false] 39)) (cells11 XB_39.out).2.1), (pw_cell_below (below_alloc (Below.refl _ _) (.cells #[.int .i64 0, .int .i64 0, .int .i64 0, .int .i64 0, .int .i64 0, .int .i64 0, .int .i64 0, .int .i64 0, .bool false] 39)) (cells11 XB_39.out).2.2.1), (pw_cell_below (below_alloc (Below.refl _ _) (.cells #[.int .i64 0, .int .i64 0, .int .i64 0, .int .i64 0, .int .i64 0, .int .i64 0, .int .i64 0, .int .i64 0, .bool false] 39)) ((row_cells HG_38.out (wrap64 (x.f1 - 1)).toNat HLp.out).1.trans (by rw [HGp.out]))), (pw_cell_below (below_alloc (Below.refl _ _) (.cells #[.int .i64 0, .int .i64 0, .int .i64 0, .int .i64 0, .int .i64 0, .int .i64 0, .int .i64 0, .int .i64 0, .bool false] 39)) ((row_cells HG_38.out (wrap64 (x.f1 - 1)).toNat HLp.out).2.1.trans (by rw [HGp.out]))), (pw_cell_below (below_alloc (Below.refl _ _) (.cells #[.int .i64 0, .int .i64 0, .int .i64 0, .int .i64 0, .int .i64 0, .int .i64 0, .int .i64 0, .int .i64 0, .bool false] 39)) ((row_cells HG_38.out (wrap64 (x.f1 - 1)).toNat HLp.out).2.2.1.trans (by rw [HGp.out]))), (pw_cell_below (below_alloc (Below.refl _ _) (.cells #[.int .i64 0, .int .i64 0, .int .i64 0, .int .i64 0, .int .i64 0, .int .i64 0, .int .i64 0, .int .i64 0, .bool false] 39)) ((row_cells HG_38.out (wrap64 (x.f1 - 1)).toNat HLp.out).2.2.2.1.trans (by rw [HGp.out]))), (pw_cell_below (below_alloc (Below.refl _ _) (.cells #[.int .i64 0, .int .i64 0, .int .i64 0, .int .i64 0, .int .i64 0, .int .i64 0, .int .i64 0, .int .i64 0, .bool false] 39)) ((row_cells HG_38.out (wrap64 (x.f1 - 1)).toNat HLp.out).2.2.2.2.1.trans (by rw [HGp.out]))), (pw_cell_below (below_alloc (Below.refl _ _) (.cells #[.int .i64 0, .int .i64 0, .int .i64 0, .int .i64 0, .int .i64 0, .int .i64 0, .int .i64 0, .int .i64 0, .bool false] 39)) ((row_cells HG_38.out (wrap64 (x.f1 - 1)).toNat HLp.out).2.2.2.2.2.1.trans (by rw [HGp.out]))), (pw_cell_below (below_alloc (Below.refl _ _) (.cells #[.int .i64 0, .int .i64 0, .int .i64 0, .int .i64 0, .int .i64 0, .int .i64 0, .int .i64 0, .int .i64 0, .bool false] 39)) ((row_cells HG_38.out (wrap64 (x.f1 - 1)).toNat HLp.out).2.2.2.2.2.2.1.trans (by rw [HGp.out]))), (pw_cell_below (below_alloc (Below.refl _ _) (.cells #[.int .i64 0, .int .i64 0, .int .i64 0, .int .i64 0, .int .i64 0, .int .i64 0, .int .i64 0, .int .i64 0, .bool false] 39)) ((row_cells HG_38.out (wrap64 (x.f1 - 1)).toNat HLp.out).2.2.2.2.2.2.2.1.trans (by rw [HGp.out]))), (pw_cell_below (below_alloc (Below.refl _ _) (.cells #[.int .i64 0, .int .i64 0, .int .i64 0, .int .i64 0, .int .i64 0, .int .i64 0, .int .i64 0, .int .i64 0, .bool false] 39)) ((row_cells HG_38.out (wrap64 (x.f1 - 1)).toNat HLp.out).2.2.2.2.2.2.2.2.trans (by rw [HGp.out]))), (pw_cell_below (below_alloc (Below.refl _ _) (.cells #[.int .i64 0, .int .i64 0, .int .i64 0, .int .i64 0, .int .i64 0, .int .i64 0, .int .i64 0, .int .i64 0, .bool false] 39)) ((row_cells HG_38.out (wrap64 (x.f2 - 1)).toNat HLq.out).1.trans (by rw [HGq.out]))), (pw_cell_below (below_alloc (Below.refl _ _) (.cells #[.int .i64 0, .int .i64 0, .int .i64 0, .int .i64 0, .int .i64 0, .int .i64 0, .int .i64 0, .int .i64 0, .bool false] 39)) ((row_cells HG_38.out (wrap64 (x.f2 - 1)).toNat HLq.out).2.1.trans (by rw [HGq.out]))), (pw_cell_below (below_alloc (Below.refl _ _) (.cells #[.int .i64 0, .int .i64 0, .int .i64 0, .int .i64 0, .int .i64 0, .int .i64 0, .int .i64 0, .int .i64 0, .bool false] 39)) ((row_cells HG_38.out (wrap64 (x.f2 - 1)).toNat HLq.out).2.2.1.trans (by rw [HGq.out]))), (pw_cell_below (below_alloc (Below.refl _ _) (.cells #[.int .i64 0, .int .i64 0, .int .i64 0, .int .i64 0, .int .i64 0, .int .i64 0, .int .i64 0, .int .i64 0, .bool false] 39)) ((row_cells HG_38.out (wrap64 (x.f2 - 1)).toNat HLq.out).2.2.2.1.trans (by rw [HGq.out]))), (pw_cell_below (below_alloc (Below.refl _ _) (.cells #[.int .i64 0, .int .i64 0, .int .i64 0, .int .i64 0, .int .i64 0, .int .i64 0, .int .i64 0, .int .i64 0, .bool false] 39)) ((row_cells HG_38.out (wrap64 (x.f2 - 1)).toNat HLq.out).2.2.2.2.1.trans (by rw [HGq.out]))), (pw_cell_below (below_alloc (Below.refl _ _) (.cells #[.int .i64 0, .int .i64 0, .int .i64 0, .int .i64 0, .int .i64 0, .int .i64 0, .int .i64 0, .int .i64 0, .bool false] 39)) ((row_cells HG_38.out (wrap64 (x.f2 - 1)).toNat HLq.out).2.2.2.2.2.1.trans (by rw [HGq.out]))), (pw_cell_below (below_alloc (Below.refl _ _) (.cells #[.int .i64 0, .int .i64 0, .int .i64 0, .int .i64 0, .int .i64 0, .int .i64 0, .int .i64 0, .int .i64 0, .bool false] 39)) ((row_cells HG_38.out (wrap64 (x.f2 - 1)).toNat HLq.out).2.2.2.2.2.2.1.trans (by rw [HGq.out]))), (pw_cell_below (below_alloc (Below.refl _ _) (.cells #[.int .i64 0, .int .i64 0, .int .i64 0, .int .i64 0, .int .i64 0, .int .i64 0, .int .i64 0, .int .i64 0, .bool false] 39)) ((row_cells HG_38.out (wrap64 (x.f2 - 1)).toNat HLq.out).2.2.2.2.2.2.2.1.trans (by rw [HGq.out]))), (pw_cell_below (below_alloc (Below.refl _ _) (.cells #[.int .i64 0, .int .i64 0, .int .i64 0, .int .i64 0, .int .i64 0, .int .i64 0, .int .i64 0, .int .i64 0, .bool false] 39)) ((row_cells HG_38.out (wrap64 (x.f2 - 1)).toNat HLq.out).2.2.2.2.2.2.2.2.trans (by rw [HGq.out])))⟩ (fun hHeld => ?_)
                clear hK K
                refine norm_ (a' := ?_) ?_ ?_
                rotate_left
                · show Act.put _ (some 15) _ = _
                  simp only [Act.put, List.setIfInBounds_toArray, List.set_cons_zero, List.set_cons_succ, i64_w, i32_w]
                  rfl
                refine one_ (i := 13) (N := some 16) (lsb 16 16383) rfl rfl (by kernel_rfl) (by decide) (fun K hK => ?_)
                refine value_ (w1 := ?_) (v := ?_) (by rfl) rfl ?_ ?_
                rotate_left 2
                · go_simp
                  constructor
                  · rfl
                  · rfl
                refine hK.out _ _ ⟨(pw_cell_below (below_alloc (below_alloc (Below.refl _ _) (.cells #[.int .i64 0, .int .i64 0, .int .i64 0, .int .i64 0, .int .i64 0, .int .i64 0, .int .i64 0, .int .i64 0, .bool false] 39)) (.cells #[.int .i64 0, .int .i64 0, .int .i64 0, .int .i64 0, .int .i64 0, .int .i64 0, .int .i64 0, .int .i64 0, .bool false] 39)) (cells11 XB_39.out).2.1), (pw_cell_below (below_alloc (below_alloc (Below.refl _ _) (.cells #[.int .i64 0, .int .i64 0, .int .i64 0, .int .i64 0, .int .i64 0, .int .i64 0, .int .i64 0, .int .i64 0, .bool false] 39)) (.cells #[.int .i64 0, .int .i64 0, .int .i64 0, .int .i64 0, .int .i64 0, .int .i64 0, .int .i64 0, .int .i64 0, .bool false] 39)) (cells11 XB_39.out).2.2.1), (pw_cell_below (below_alloc (below_alloc (Below.refl _ _) (.cells #[.int .i64 0, .int .i64 0, .int .i64 0, .int .i64 0, .int .i64 0, .int .i64 0, .int .i64 0, .int .i64 0, .bool false] 39)) (.cells #[.int .i64 0, .int .i64 0, .int .i64 0, .int .i64 0, .int .i64 0, .int .i64 0, .int .i64 0, .int .i64 0, .bool false] 39)) ((row_cells HG_38.out (wrap64 (x.f1 - 1)).toNat HLp.out).1.trans (by rw [HGp.out]))), (pw_cell_below (below_alloc (below_alloc (Below.refl _ _) (.cells #[.int .i64 0, .int .i64 0, .int .i64 0, .int .i64 0, .int .i64 0, .int .i64 0, .int .i64 0, .int .i64 0, .bool false] 39)) (.cells #[.int .i64 0, .int .i64 0, .int .i64 0, .int .i64 0, .int .i64 0, .int .i64 0, .int .i64 0, .int .i64 0, .bool false] 39)) ((row_cells HG_38.out (wrap64 (x.f1 - 1)).toNat HLp.out).2.1.trans (by rw [HGp.out]))), (pw_cell_below (below_alloc (below_alloc (Below.refl _ _) (.cells #[.int .i64 0, .int .i64 0, .int .i64 0, .int .i64 0, .int .i64 0, .int .i64 0, .int .i64 0, .int .i64 0, .bool false] 39)) (.cells #[.int .i64 0, .int .i64 0, .int .i64 0, .int .i64 0, .int .i64 0, .int .i64 0, .int .i64 0, .int .i64 0, .bool false] 39)) ((row_cells HG_38.out (wrap64 (x.f1 - 1)).toNat HLp.out).2.2.1.trans (by rw [HGp.out]))), (pw_cell_below (below_alloc (below_alloc (Below.refl _ _) (.cells #[.int .i64 0, .int .i64 0, .int .i64 0, .int .i64 0, .int .i64 0, .int .i64 0, .int .i64 0, .int .i64 0, .bool false] 39)) (.cells #[.int .i64 0, .int .i64 0, .int .i64 0, .int .i64 0, .int .i64 0, .int .i64 0, .int .i64 0, .int .i64 0, .bool false] 39)) ((row_cells HG_38.out (wrap64 (x.f1 - 1)).toNat HLp.out).2.2.2.1.trans (by rw [HGp.out]))), (pw_cell_below (below_alloc (below_alloc (Below.refl _ _) (.cells #[.int .i64 0, .int .i64 0, .int .i64 0, .int .i64 0, .int .i64 0, .int .i64 0, .int .i64 0, .int .i64 0, .bool false] 39)) (.cells #[.int .i64 0, .int .i64 0, .int .i64 0, .int .i64 0, .int .i64 0, .int .i64 0, .int .i64 0, .int .i64 0, .bool false] 39)) ((row_cells HG_38.out (wrap64 (x.f1 - 1)).toNat HLp.out).2.2.2.2.1.trans (by rw [HGp.out]))), (pw_cell_below (below_alloc (below_alloc (Below.refl _ _) (.cells #[.int .i64 0, .int .i64 0, .int .i64 0, .int .i64 0, .int .i64 0, .int .i64 0, .int .i64 0, .int .i64 0, .bool false] 39)) (.cells #[.int .i64 0, .int .i64 0, .int .i64 0, .int .i64 0, .int .i64 0, .int .i64 0, .int .i64 0, .int .i64 0, .bool false] 39)) ((row_cells HG_38.out (wrap64 (x.f1 - 1)).toNat HLp.out).2.2.2.2.2.1.trans (by rw [HGp.out]))), (pw_cell_below (below_alloc (below_alloc (Below.refl _ _) (.cells #[.int .i64 0, .int .i64 0, .int .i64 0, .int .i64 0, .int .i64 0, .int .i64 0, .int .i64 0, .int .i64 0, .bool false] 39)) (.cells #[.int .i64 0, .int .i64 0, .int .i64 0, .int .i64 0, .int .i64 0, .int .i64 0, .int .i64 0, .int .i64 0, .bool false] 39)) ((row_cells HG_38.out (wrap64 (x.f1 - 1)).toNat HLp.out).2.2.2.2.2.2.1.trans (by rw [HGp.out]))), (pw_cell_below (below_alloc (below_alloc (Below.refl _ _) (.cells #[.int .i64 0, .int .i64 0, .int .i64 0, .int .i64 0, .int .i64 0, .int .i64 0, .int .i64 0, .int .i64 0, .bool false] 39)) (.cells #[.int .i64 0, .int .i64 0, .int .i64 0, .int .i64 0, .int .i64 0, .int .i64 0, .int .i64 0, .int .i64 0, .bool false] 39)) ((row_cells HG_38.out (wrap64 (x.f1 - 1)).toNat HLp.out).2.2.2.2.2.2.2.1.trans (by rw [HGp.out]))), (pw_cell_below (below_alloc (below_alloc (Below.refl _ _) (.cells #[.int .i64 0, .int .i64 0, .int .i64 0, .int .i64 0, .int .i64 0, .int .i64 0, .int .i64 0, .int .i64 0, .bool false] 39)) (.cells #[.int .i64 0, .int .i64 0, .int .i64 0, .int .i64 0, .int .i64 0, .int .i64 0, .int .i64 0, .int .i64 0, .bool false] 39)) ((row_cells HG_38.out (wrap64 (x.f1 - 1)).toNat HLp.out).2.2.2.2.2.2.2.2.trans (by rw [HGp.out]))), (pw_cell_below (below_alloc (below_alloc (Below.refl _ _) (.cells #[.int .i64 0, .int .i64 0, .int .i64 0, .int .i64 0, .int .i64 0, .int .i64 0, .int .i64 0, .int .i64 0, .bool false] 39)) (.cells #[.int .i64 0, .int .i64 0, .int .i64 0, .int .i64 0, .int .i64 0, .int .i64 0, .int .i64 0, .int .i64 0, .bool false] 39)) ((row_cells HG_38.out (wrap64 (x.f2 - 1)).toNat HLq.out).1.trans (by rw [HGq.out]))), (pw_cell_below (below_alloc (below_alloc (Below.refl _ _) (.cells #[.int .i64 0, .int .i64 0, .int .i64 0, .int .i64 0, .int .i64 0, .int .i64 0, .int .i64 0, .int .i64 0, .bool false] 39)) (.cells #[.int .i64 0, .int .i64 0, .int .i64 0, .int .i64 0, .int .i64 0, .int .i64 0, .int .i64 0, .int .i64 0, .bool false] 39)) ((row_cells HG_38.out (wrap64 (x.f2 - 1)).toNat HLq.out).2.1.trans (by rw [HGq.out]))), (pw_cell_below (below_alloc (below_alloc (Below.refl _ _) (.cells #[.int .i64 0, .int .i64 0, .int .i64 0, .int .i64 0, .int .i64 0, .int .i64 0, .int .i64 0, .int .i64 0, .bool false] 39)) (.cells #[.int .i64 0, .int .i64 0, .int .i64 0, .int .i64 0, .int .i64 0, .int .i64 0, .int .i64 0, .int .i64 0, .bool false] 39)) ((row_cells HG_38.out (wrap64 (x.f2 - 1)).toNat HLq.out).2.2.1.trans (by rw [HGq.out]))), (pw_cell_below (below_alloc (below_alloc (Below.refl _ _) (.cells #[.int .i64 0, .int .i64 0, .int .i64 0, .int .i64 0, .int .i64 0, .int .i64 0, .int .i64 0, .int .i64 0, .bool false] 39)) (.cells #[.int .i64 0, .int .i64 0, .int .i64 0, .int .i64 0, .int .i64 0, .int .i64 0, .int .i64 0, .int .i64 0, .bool false] 39)) ((row_cells HG_38.out (wrap64 (x.f2 - 1)).toNat HLq.out).2.2.2.1.trans (by rw [HGq.out]))), (pw_cell_below (below_alloc (below_alloc (Below.refl _ _) (.cells #[.int .i64 0, .int .i64 0, .int .i64 0, .int .i64 0, .int .i64 0, .int .i64 0, .int .i64 0, .int .i64 0, .bool false] 39)) (.cells #[.int .i64 0, .int .i64 0, .int .i64 0, .int .i64 0, .int .i64 0, .int .i64 0, .int .i64 0, .int .i64 0, .bool false] 39)) ((row_cells HG_38.out (wrap64 (x.f2 - 1)).toNat HLq.out).2.2.2.2.1.trans (by rw [HGq.out]))), (pw_cell_below (below_alloc (below_alloc (Below.refl _ _) (.cells #[.int .i64 0, .int .i64 0, .int .i64 0, .int .i64 0, .int .i64 0, .int .i64 0, .int .i64 0, .int .i64 0, .bool false] 39)) (.cells #[.int .i64 0, .int .i64 0, .int .i64 0, .int .i64 0, .int .i64 0, .int .i64 0, .int .i64 0, .int .i64 0, .bool false] 39)) ((row_cells HG_38.out (wrap64 (x.f2 - 1)).toNat HLq.out).2.2.2.2.2.1.trans (by rw [HGq.out]))), (pw_cell_below (below_alloc (below_alloc (Below.refl _ _) (.cells #[.int .i64 0, .int .i64 0, .int .i64 0, .int .i64 0, .int .i64 0, .int .i64 0, .int .i64 0, .int .i64 0, .bool false] 39)) (.cells #[.int .i64 0, .int .i64 0, .int .i64 0, .int .i64 0, .int .i64 0, .int .i64 0, .int .i64 0, .int .i64 0, .bool false] 39)) ((row_cells HG_38.out (wrap64 (x.f2 - 1)).toNat HLq.out).2.2.2.2.2.2.1.trans (by rw [HGq.out]))), (pw_cell_below (below_alloc (below_alloc (Below.refl _ _) (.cells #[.int .i64 0, .int .i64 0, .int .i64 0, .int .i64 0, .int .i64 0, .int .i64 0, .int .i64 0, .int .i64 0, .bool false] 39)) (.cells #[.int .i64 0, .int .i64 0, .int .i64 0, .int .i64 0, .int .i64 0, .int .i64 0, .int .i64 0, .int .i64 0, .bool false] 39)) ((row_cells HG_38.out (wrap64 (x.f2 - 1)).toNat HLq.out).2.2.2.2.2.2.2.1.trans (by rw [HGq.out]))), (pw_cell_below (below_alloc (below_alloc (Below.refl _ _) (.cells #[.int .i64 0, .int .i64 0, .int .i64 0, .int .i64 0, .int .i64 0, .int .i64 0, .int .i64 0, .int .i64 0, .bool false] 39)) (.cells #[.int .i64 0, .int .i64 0, .int .i64 0, .int .i64 0, .int .i64 0, .int .i64 0, .int .i64 0, .int .i64 0, .bool false] 39)) ((row_cells HG_38.out (wrap64 (x.f2 - 1)).toNat HLq.out).2.2.2.2.2.2.2.2.trans (by rw [HGq.out])))⟩ (fun hHeld => ?_)
                clear hK K
                refine norm_ (a' := ?_) ?_ ?_
                rotate_left
                · show Act.put _ (some 16) _ = _
                  simp only [Act.put, List.setIfInBounds_toArray, List.set_cons_zero, List.set_cons_succ, i64_w, i32_w]
                  rfl
                exact norm_ (by simp only [putAll, Act.put, List.setIfInBounds_toArray, List.set_cons_zero, List.set_cons_succ]) (hCont (w33.heap.size, w33.heap.size + 1) _ ⟨hHeld, lhid (below_alloc (below_alloc (Below.refl _ _) (.cells #[.int .i64 0, .int .i64 0, .int .i64 0, .int .i64 0, .int .i64 0, .int .i64 0, .int .i64 0, .int .i64 0, .bool false] 39)) (.cells #[.int .i64 0, .int .i64 0, .int .i64 0, .int .i64 0, .int .i64 0, .int .i64 0, .int .i64 0, .int .i64 0, .bool false] 39)), lhid (two_new w33 (Or.inl ⟨rfl, rfl⟩))⟩)
              · skip
                refine value_ (w1 := ?_) (v := ?_) (by rfl) rfl ?_ ?_
                rotate_left 2
                · go_simp
                  constructor
                  · rfl
                  · rfl
                refine hK.out _ _ ⟨(pw_cell_below (below_alloc (Below.refl _ _) (.cells #[.int .i64 0, .int .i64 0, .int .i64 0, .int .i64 0, .int .i64 0, .int .i64 0, .int .i64 0, .int .i64 0, .bool false] 39)) (cells11 XB_39.out).2.1), (pw_cell_below (below_alloc (Below.refl _ _) (.cells #[.int .i64 0, .int .i64 0, .int .i64 0, .int .i64 0, .int .i64 0, .int .i64 0, .int .i64 0, .int .i64 0, .bool false] 39)) (cells11 XB_39.out).2.2.1), (pw_cell_below (below_alloc (Below.refl _ _) (.cells #[.int .i64 0, .int .i64 0, .int .i64 0, .int .i64 0, .int .i64 0, .int .i64 0, .int .i64 0, .int .i64 0, .bool false] 39)) ((row_cells HG_38.out (wrap64 (x.f1 - 1)).toNat HLp.out).1.trans (by rw [HGp.out]))), (pw_cell_below (below_alloc (Below.refl _ _) (.cells #[.int .i64 0, .int .i64 0, .int .i64 0, .int .i64 0, .int .i64 0, .int .i64 0, .int .i64 0, .int .i64 0, .bool false] 39)) ((row_cells HG_38.out (wrap64 (x.f1 - 1)).toNat HLp.out).2.1.trans (by rw [HGp.out]))), (pw_cell_below (below_alloc (Below.refl _ _) (.cells #[.int .i64 0, .int .i64 0, .int .i64 0, .int .i64 0, .int .i64 0, .int .i64 0, .int .i64 0, .int .i64 0, .bool false] 39)) ((row_cells HG_38.out (wrap64 (x.f1 - 1)).toNat HLp.out).2.2.1.trans (by rw [HGp.out]))), (pw_cell_below (below_alloc (Below.refl _ _) (.cells #[.int .i64 0, .int .i64 0, .int .i64 0, .int .i64 0, .int .i64 0, .int .i64 0, .int .i64 0, .int .i64 0, .bool false] 39)) ((row_cells HG_38.out (wrap64 (x.f1 - 1)).toNat HLp.out).2.2.2.1.trans (by rw [HGp.out]))), (pw_cell_below (below_alloc (Below.refl _ _) (.cells #[.int .i64 0, .int .i64 0, .int .i64 0, .int .i64 0, .int .i64 0, .int .i64 0, .int .i64 0, .int .i64 0, .bool false] 39)) ((row_cells HG_38.out (wrap64 (x.f1 - 1)).toNat HLp.out).2.2.2.2.1.trans (by rw [HGp.out]))), (pw_cell_below (below_alloc (Below.refl _ _) (.cells #[.int .i64 0, .int .i64 0, .int .i64 0, .int .i64 0, .int .i64 0, .int .i64 0, .int .i64 0, .int .i64 0, .bool false] 39)) ((row_cells HG_38.out (wrap64 (x.f1 - 1)).toNat HLp.out).2.2.2.2.2.1.trans (by rw [HGp.out]))), (pw_cell_below (below_alloc (Below.refl _ _) (.cells #[.int .i64 0, .int .i64 0, .int .i64 0, .int .i64 0, .int .i64 0, .int .i64 0, .int .i64 0, .int .i64 0, .bool false] 39)) ((row_cells HG_38.out (wrap64 (x.f1 - 1)).toNat HLp.out).2.2.2.2.2.2.1.trans (by rw [HGp.out]))), (pw_cell_below (below_alloc (Below.refl _ _) (.cells #[.int .i64 0, .int .i64 0, .int .i64 0, .int .i64 0, .int .i64 0, .int .i64 0, .int .i64 0, .int .i64 0, .bool false] 39)) ((row_cells HG_38.out (wrap64 (x.f1 - 1)).toNat HLp.out).2.2.2.2.2.2.2.1.trans (by rw [HGp.out]))), (pw_cell_below (below_alloc (Below.refl _ _) (.cells #[.int .i64 0, .int .i64 0, .int .i64 0, .int .i64 0, .int .i64 0, .int .i64 0, .int .i64 0, .int .i64 0, .bool false] 39)) ((row_cells HG_38.out (wrap64 (x.f1 - 1)).toNat HLp.out).2.2.2.2.2.2.2.2.trans (by rw [HGp.out]))), (pw_cell_below (below_alloc (Below.refl _ _) (.cells #[.int .i64 0, .int .i64 0, .int .i64 0, .int .i64 0, .int .i64 0, .int .i64 0, .int .i64 0, .int .i64 0, .bool false] 39)) ((row_cells HG_38.out (wrap64 (x.f2 - 1)).toNat HLq.out).1.trans (by rw [HGq.out]))), (pw_cell_below (below_alloc (Below.refl _ _) (.cells #[.int .i64 0, .int .i64 0, .int .i64 0, .int .i64 0, .int .i64 0, .int .i64 0, .int .i64 0, .int .i64 0, .bool false] 39)) ((row_cells HG_38.out (wrap64 (x.f2 - 1)).toNat HLq.out).2.1.trans (by rw [HGq.out]))), (pw_cell_below (below_alloc (Below.refl _ _) (.cells #[.int .i64 0, .int .i64 0, .int .i64 0, .int .i64 0, .int .i64 0, .int .i64 0, .int .i64 0, .int .i64 0, .bool false] 39)) ((row_cells HG_38.out (wrap64 (x.f2 - 1)).toNat HLq.out).2.2.1.trans (by rw [HGq.out]))), (pw_cell_below (below_alloc (Below.refl _ _) (.cells #[.int .i64 0, .int .i64 0, .int .i64 0, .int .i64 0, .int .i64 0, .int .i64 0, .int .i64 0, .int .i64 0, .bool false] 39)) ((row_cells HG_38.out (wrap64 (x.f2 - 1)).toNat HLq.out).2.2.2.1.trans (by rw [HGq.out]))), (pw_cell_below (below_alloc (Below.refl _ _) (.cells #[.int .i64 0, .int .i64 0, .int .i64 0, .int .i64 0, .int .i64 0, .int .i64 0, .int .i64 0, .int .i64 0, .bool false] 39)) ((row_cells HG_38.out (wrap64 (x.f2 - 1)).toNat HLq.out).2.2.2.2.1.trans (by rw [HGq.out]))), (pw_cell_below (below_alloc (Below.refl _ _) (.cells #[.int .i64 0, .int .i64 0, .int .i64 0, .int .i64 0, .int .i64 0, .int .i64 0, .int .i64 0, .int .i64 0, .bool false] 39)) ((row_cells HG_38.out (wrap64 (x.f2 - 1)).toNat HLq.out).2.2.2.2.2.1.trans (by rw [HGq.out]))), (pw_cell_below (below_alloc (Below.refl _ _) (.cells #[.int .i64 0, .int .i64 0, .int .i64 0, .int .i64 0, .int .i64 0, .int .i64 0, .int .i64 0, .int .i64 0, .bool false] 39)) ((row_cells HG_38.out (wrap64 (x.f2 - 1)).toNat HLq.out).2.2.2.2.2.2.1.trans (by rw [HGq.out]))), (pw_cell_below (below_alloc (Below.refl _ _) (.cells #[.int .i64 0, .int .i64 0, .int .i64 0, .int .i64 0, .int .i64 0, .int .i64 0, .int .i64 0, .int .i64 0, .bool false] 39)) ((row_cells HG_38.out (wrap64 (x.f2 - 1)).toNat HLq.out).2.2.2.2.2.2.2.1.trans (by rw [HGq.out]))), (pw_cell_below (below_alloc (Below.refl _ _) (.cells #[.int .i64 0, .int .i64 0, .int .i64 0, .int .i64 0, .int .i64 0, .int .i64 0, .int .i64 0, .int .i64 0, .bool false] 39)) ((row_cells HG_38.out (wrap64 (x.f2 - 1)).toNat HLq.out).2.2.2.2.2.2.2.2.trans (by rw [HGq.out])))⟩ (fun hHeld => ?_)
                clear hK K
                refine norm_ (a' := ?_) ?_ ?_
                rotate_left
                · show Act.put _ (some 16) _ = _
                  simp only [Act.put, List.setIfInBounds_toArray, List.set_cons_zero, List.set_cons_succ, i64_w, i32_w]
                  rfl
                refine one_ (i := 12) (N := some 15) (lsb 16 16383) rfl rfl (by kernel_rfl) (by decide) (fun K hK => ?_)
                refine value_ (w1 := ?_) (v := ?_) (by rfl) rfl ?_ ?_
                rotate_left 2
                · go_simp
                  constructor
                  · rfl
                  · rfl
                refine hK.out _ _ ⟨(pw_cell_below (below_alloc (below_alloc (Below.refl _ _) (.cells #[.int .i64 0, .int .i64 0, .int .i64 0, .int .i64 0, .int .i64 0, .int .i64 0, .int .i64 0, .int .i64 0, .bool false] 39)) (.cells #[.int .i64 0, .int .i64 0, .int .i64 0, .int .i64 0, .int .i64 0, .int .i64 0, .int .i64 0, .int .i64 0, .bool false] 39)) (cells11 XB_39.out).2.1), (pw_cell_below (below_alloc (below_alloc (Below.refl _ _) (.cells #[.int .i64 0, .int .i64 0, .int .i64 0, .int .i64 0, .int .i64 0, .int .i64 0, .int .i64 0, .int .i64 0, .bool false] 39)) (.cells #[.int .i64 0, .int .i64 0, .int .i64 0, .int .i64 0, .int .i64 0, .int .i64 0, .int .i64 0, .int .i64 0, .bool false] 39)) (cells11 XB_39.out).2.2.1), (pw_cell_below (below_alloc (below_alloc (Below.refl _ _) (.cells #[.int .i64 0, .int .i64 0, .int .i64 0, .int .i64 0, .int .i64 0, .int .i64 0, .int .i64 0, .int .i64 0, .bool false] 39)) (.cells #[.int .i64 0, .int .i64 0, .int .i64 0, .int .i64 0, .int .i64 0, .int .i64 0, .int .i64 0, .int .i64 0, .bool false] 39)) ((row_cells HG_38.out (wrap64 (x.f1 - 1)).toNat HLp.out).1.trans (by rw [HGp.out]))), (pw_cell_below (below_alloc (below_alloc (Below.refl _ _) (.cells #[.int .i64 0, .int .i64 0, .int .i64 0, .int .i64 0, .int .i64 0, .int .i64 0, .int .i64 0, .int .i64 0, .bool false] 39)) (.cells #[.int .i64 0, .int .i64 0, .int .i64 0, .int .i64 0, .int .i64 0, .int .i64 0, .int .i64 0, .int .i64 0, .bool false] 39)) ((row_cells HG_38.out (wrap64 (x.f1 - 1)).toNat HLp.out).2.1.trans (by rw [HGp.out]))), (pw_cell_below (below_alloc (below_alloc (Below.refl _ _) (.cells #[.int .i64 0, .int .i64 0, .int .i64 0, .int .i64 0, .int .i64 0, .int .i64 0, .int .i64 0, .int .i64 0, .bool false] 39)) (.cells #[.int .i64 0, .int .i64 0, .int .i64 0, .int .i64 0, .int .i64 0, .int .i64 0, .int .i64 0, .int .i64 0, .bool false] 39)) ((row_cells HG_38.out (wrap64 (x.f1 - 1)).toNat HLp.out).2.2.1.trans (by rw [HGp.out]))), (pw_cell_below (below_alloc (below_alloc (Below.refl _ _) (.cells #[.int .i64 0, .int .i64 0, .int .i64 0, .int .i64 0, .int .i64 0, .int .i64 0, .int .i64 0, .int .i64 0, .bool false] 39)) (.cells #[.int .i64 0, .int .i64 0, .int .i64 0, .int .i64 0, .int .i64 0, .int .i64 0, .int .i64 0, .int .i64 0, .bool false] 39)) ((row_cells HG_38.out (wrap64 (x.f1 - 1)).toNat HLp.out).2.2.2.1.trans (by rw [HGp.out]))), (pw_cell_below (below_alloc (below_alloc (Below.refl _ _) (.cells #[.int .i64 0, .int .i64 0, .int .i64 0, .int .i64 0, .int .i64 0, .int .i64 0, .int .i64 0, .int .i64 0, .bool false] 39)) (.cells #[.int .i64 0, .int .i64 0, .int .i64 0, .int .i64 0, .int .i64 0, .int .i64 0, .int .i64 0, .int .i64 0, .bool false] 39)) ((row_cells HG_38.out (wrap64 (x.f1 - 1)).toNat HLp.out).2.2.2.2.1.trans (by rw [HGp.out]))), (pw_cell_below (below_alloc (below_alloc (Below.refl _ _) (.cells #[.int .i64 0, .int .i64 0, .int .i64 0, .int .i64 0, .int .i64 0, .int .i64 0, .int .i64 0, .int .i64 0, .bool false] 39)) (.cells #[.int .i64 0, .int .i64 0, .int .i64 0, .int .i64 0, .int .i64 0, .int .i64 0, .int .i64 0, .int .i64 0, .bool false] 39)) ((row_cells HG_38.out (wrap64 (x.f1 - 1)).toNat HLp.out).2.2.2.2.2.1.trans (by rw [HGp.out]))), (pw_cell_below (below_alloc (below_alloc (Below.refl _ _) (.cells #[.int .i64 0, .int .i64 0, .int .i64 0, .int .i64 0, .int .i64 0, .int .i64 0, .int .i64 0, .int .i64 0, .bool false] 39)) (.cells #[.int .i64 0, .int .i64 0, .int .i64 0, .int .i64 0, .int .i64 0, .int .i64 0, .int .i64 0, .int .i64 0, .bool false] 39)) ((row_cells HG_38.out (wrap64 (x.f1 - 1)).toNat HLp.out).2.2.2.2.2.2.1.trans (by rw [HGp.out]))), (pw_cell_below (below_alloc (below_alloc (Below.refl _ _) (.cells #[.int .i64 0, .int .i64 0, .int .i64 0, .int .i64 0, .int .i64 0, .int .i64 0, .int .i64 0, .int .i64 0, .bool false] 39)) (.cells #[.int .i64 0, .int .i64 0, .int .i64 0, .int .i64 0, .int .i64 0, .int .i64 0, .int .i64 0, .int .i64 0, .bool false] 39)) ((row_cells HG_38.out (wrap64 (x.f1 - 1)).toNat HLp.out).2.2.2.2.2.2.2.1.trans (by rw [HGp.out]))), (pw_cell_below (below_alloc (below_alloc (Below.refl _ _) (.cells #[.int .i64 0, .int .i64 0, .int .i64 0, .int .i64 0, .int .i64 0, .int .i64 0, .int .i64 0, .int .i64 0, .bool false] 39)) (.cells #[.int .i64 0, .int .i64 0, .int .i64 0, .int .i64 0, .int .i64 0, .int .i64 0, .int .i64 0, .int .i64 0, .bool false] 39)) ((row_cells HG_38.out (wrap64 (x.f1 - 1)).toNat HLp.out).2.2.2.2.2.2.2.2.trans (by rw [HGp.out]))), (pw_cell_below (below_alloc (below_alloc (Below.refl _ _) (.cells #[.int .i64 0, .int .i64 0, .int .i64 0, .int .i64 0, .int .i64 0, .int .i64 0, .int .i64 0, .int .i64 0, .bool false] 39)) (.cells #[.int .i64 0, .int .i64 0, .int .i64 0, .int .i64 0, .int .i64 0, .int .i64 0, .int .i64 0, .int .i64 0, .bool false] 39)) ((row_cells HG_38.out (wrap64 (x.f2 - 1)).toNat HLq.out).1.trans (by rw [HGq.out]))), (pw_cell_below (below_alloc (below_alloc (Below.refl _ _) (.cells #[.int .i64 0, .int .i64 0, .int .i64 0, .int .i64 0, .int .i64 0, .int .i64 0, .int .i64 0, .int .i64 0, .bool false] 39)) (.cells #[.int .i64 0, .int .i64 0, .int .i64 0, .int .i64 0, .int .i64 0, .int .i64 0, .int .i64 0, .int .i64 0, .bool false] 39)) ((row_cells HG_38.out (wrap64 (x.f2 - 1)).toNat HLq.out).2.1.trans (by rw [HGq.out]))), (pw_cell_below (below_alloc (below_alloc (Below.refl _ _) (.cells #[.int .i64 0, .int .i64 0, .int .i64 0, .int .i64 0, .int .i64 0, .int .i64 0, .int .i64 0, .int .i64 0, .bool false] 39)) (.cells #[.int .i64 0, .int .i64 0, .int .i64 0, .int .i64 0, .int .i64 0, .int .i64 0, .int .i64 0, .int .i64 0, .bool false] 39)) ((row_cells HG_38.out (wrap64 (x.f2 - 1)).toNat HLq.out).2.2.1.trans (by rw [HGq.out]))), (pw_cell_below (below_alloc (below_alloc (Below.refl _ _) (.cells #[.int .i64 0, .int .i64 0, .int .i64 0, .int .i64 0, .int .i64 0, .int .i64 0, .int .i64 0, .int .i64 0, .bool false] 39)) (.cells #[.int .i64 0, .int .i64 0, .int .i64 0, .int .i64 0, .int .i64 0, .int .i64 0, .int .i64 0, .int .i64 0, .bool false] 39)) ((row_cells HG_38.out (wrap64 (x.f2 - 1)).toNat HLq.out).2.2.2.1.trans (by rw [HGq.out]))), (pw_cell_below (below_alloc (below_alloc (Below.refl _ _) (.cells #[.int .i64 0, .int .i64 0, .int .i64 0, .int .i64 0, .int .i64 0, .int .i64 0, .int .i64 0, .int .i64 0, .bool false] 39)) (.cells #[.int .i64 0, .int .i64 0, .int .i64 0, .int .i64 0, .int .i64 0, .int .i64 0, .int .i64 0, .int .i64 0, .bool false] 39)) ((row_cells HG_38.out (wrap64 (x.f2 - 1)).toNat HLq.out).2.2.2.2.1.trans (by rw [HGq.out]))), (pw_cell_below (below_alloc (below_alloc (Below.refl _ _) (.cells #[.int .i64 0, .int .i64 0, .int .i64 0, .int .i64 0, .int .i64 0, .int .i64 0, .int .i64 0, .int .i64 0, .bool false] 39)) (.cells #[.int .i64 0, .int .i64 0, .int .i64 0, .int .i64 0, .int .i64 0, .int .i64 0, .int .i64 0, .int .i64 0, .bool false] 39)) ((row_cells HG_38.out (wrap64 (x.f2 - 1)).toNat HLq.out).2.2.2.2.2.1.trans (by rw [HGq.out]))), (pw_cell_below (below_alloc (below_alloc (Below.refl _ _) (.cells #[.int .i64 0, .int .i64 0, .int .i64 0, .int .i64 0, .int .i64 0, .int .i64 0, .int .i64 0, .int .i64 0, .bool false] 39)) (.cells #[.int .i64 0, .int .i64 0, .int .i64 0, .int .i64 0, .int .i64 0, .int .i64 0, .int .i64 0, .int .i64 0, .bool false] 39)) ((row_cells HG_38.out (wrap64 (x.f2 - 1)).toNat HLq.out).2.2.2.2.2.2.1.trans (by rw [HGq.out]))), (pw_cell_below (below_alloc (below_alloc (Below.refl _ _) (.cells #[.int .i64 0, .int .i64 0, .int .i64 0, .int .i64 0, .int .i64 0, .int .i64 0, .int .i64 0, .int .i64 0, .bool false] 39)) (.cells #[.int .i64 0, .int .i64 0, .int .i64 0, .int .i64 0, .int .i64 0, .int .i64 0, .int .i64 0, .int .i64 0, .bool false] 39)) ((row_cells HG_38.out (wrap64 (x.f2 - 1)).toNat HLq.out).2.2.2.2.2.2.2.1.trans (by rw [HGq.out]))), (pw_cell_below (below_alloc (below_alloc (Below.refl _ _) (.cells #[.int .i64 0, .int .i64 0, .int .i64 0, .int .i64 0, .int .i64 0, .int .i64 0, .int .i64 0, .int .i64 0, .bool false] 39)) (.cells #[.int .i64 0, .int .i64 0, .int .i64 0, .int .i64 0, .int .i64 0, .int .i64 0, .int .i64 0, .int .i64 0, .bool false] 39)) ((row_cells HG_38.out (wrap64 (x.f2 - 1)).toNat HLq.out).2.2.2.2.2.2.2.2.trans (by rw [HGq.out])))⟩ (fun hHeld => ?_)
                clear hK K
                refine norm_ (a' := ?_) ?_ ?_
                rotate_left
                · show Act.put _ (some 15) _ = _
                  simp only [Act.put, List.setIfInBounds_toArray, List.set_cons_zero, List.set_cons_succ, i64_w, i32_w]
                  rfl
                exact norm_ (by simp only [putAll, Act.put, List.setIfInBounds_toArray, List.set_cons_zero, List.set_cons_succ]) (hCont (w33.heap.size + 1, w33.heap.size) _ ⟨hHeld, lhid (below_alloc (below_alloc (Below.refl _ _) (.cells #[.int .i64 0, .int .i64 0, .int .i64 0, .int .i64 0, .int .i64 0, .int .i64 0, .int .i64 0, .int .i64 0, .bool false] 39)) (.cells #[.int .i64 0, .int .i64 0, .int .i64 0, .int .i64 0, .int .i64 0, .int .i64 0, .int .i64 0, .int .i64 0, .bool false] 39)), lhid (two_new w33 (Or.inr ⟨rfl, rfl⟩))⟩)
            rintro ⟨b1, b2⟩ w' ⟨hHeld, HBN, HBZ⟩
            refine norm_ (a' := ?_) ?_ ?_
            rotate_left
            · simp only [putAll, Act.put, List.setIfInBounds_toArray, List.set_cons_zero, List.set_cons_succ]
              rfl
            refine one_ (i := 14) (N := none) (lsb 16 32767) rfl rfl (by kernel_rfl) (by decide) (fun K hK => ?_)
            have HX14 := HBZ.out.2.1
            obtain ⟨z0, z1, z2, z3, z4, z5, z6, z7, z8⟩ := nine HX14
            have hz14 : ∀ o, w'.frozen? ⟨b1, o, none⟩ = false := fun o => blk_frozen HX14 o
            refine skip_ (w1 := ?_) (by rfl) rfl ?_ ?_
            rotate_left
            · go_simp
              rfl
            have HB14 := (put9 HBZ.out.2.1 HBN.out HBZ.out.2.2.2.1 (.int .i64 p.f0) (.int .i64 p.f1) (.int .i64 p.f2) (.int .i64 p.f3) (.int .i64 p.f4) (.int .i64 p.f5) (.int .i64 p.f6) (.int .i64 p.f7) (.bool p.f8)).2.1
            clear z0 z1 z2 z3 z4 z5 z6 z7 z8 hz14 HX14
            refine hK.out _ _ ⟨(pw_cell_below HB14 (cells11 XB_39.out).2.1), (pw_cell_below HB14 (cells11 XB_39.out).2.2.1), (pw_cell_below HB14 ((row_cells HG_38.out (wrap64 (x.f1 - 1)).toNat HLp.out).1.trans (by rw [HGp.out]))), (pw_cell_below HB14 ((row_cells HG_38.out (wrap64 (x.f1 - 1)).toNat HLp.out).2.1.trans (by rw [HGp.out]))), (pw_cell_below HB14 ((row_cells HG_38.out (wrap64 (x.f1 - 1)).toNat HLp.out).2.2.1.trans (by rw [HGp.out]))), (pw_cell_below HB14 ((row_cells HG_38.out (wrap64 (x.f1 - 1)).toNat HLp.out).2.2.2.1.trans (by rw [HGp.out]))), (pw_cell_below HB14 ((row_cells HG_38.out (wrap64 (x.f1 - 1)).toNat HLp.out).2.2.2.2.1.trans (by rw [HGp.out]))), (pw_cell_below HB14 ((row_cells HG_38.out (wrap64 (x.f1 - 1)).toNat HLp.out).2.2.2.2.2.1.trans (by rw [HGp.out]))), (pw_cell_below HB14 ((row_cells HG_38.out (wrap64 (x.f1 - 1)).toNat HLp.out).2.2.2.2.2.2.1.trans (by rw [HGp.out]))), (pw_cell_below HB14 ((row_cells HG_38.out (wrap64 (x.f1 - 1)).toNat HLp.out).2.2.2.2.2.2.2.1.trans (by rw [HGp.out]))), (pw_cell_below HB14 ((row_cells HG_38.out (wrap64 (x.f1 - 1)).toNat HLp.out).2.2.2.2.2.2.2.2.trans (by rw [HGp.out]))), (pw_cell_below HB14 ((row_cells HG_38.out (wrap64 (x.f2 - 1)).toNat HLq.out).1.trans (by rw [HGq.out]))), (pw_cell_below HB14 ((row_cells HG_38.out (wrap64 (x.f2 - 1)).toNat HLq.out).2.1.trans (by rw [HGq.out]))), (pw_cell_below HB14 ((row_cells HG_38.out (wrap64 (x.f2 - 1)).toNat HLq.out).2.2.1.trans (by rw [HGq.out]))), (pw_cell_below HB14 ((row_cells HG_38.out (wrap64 (x.f2 - 1)).toNat HLq.out).2.2.2.1.trans (by rw [HGq.out]))), (pw_cell_below HB14 ((row_cells HG_38.out (wrap64 (x.f2 - 1)).toNat HLq.out).2.2.2.2.1.trans (by rw [HGq.out]))), (pw_cell_below HB14 ((row_cells HG_38.out (wrap64 (x.f2 - 1)).toNat HLq.out).2.2.2.2.2.1.trans (by rw [HGq.out]))), (pw_cell_below HB14 ((row_cells HG_38.out (wrap64 (x.f2 - 1)).toNat HLq.out).2.2.2.2.2.2.1.trans (by rw [HGq.out]))), (pw_cell_below HB14 ((row_cells HG_38.out (wrap64 (x.f2 - 1)).toNat HLq.out).2.2.2.2.2.2.2.1.trans (by rw [HGq.out]))), (pw_cell_below HB14 ((row_cells HG_38.out (wrap64 (x.f2 - 1)).toNat HLq.out).2.2.2.2.2.2.2.2.trans (by rw [HGq.out])))⟩ (fun hHeld => ?_)
            clear hK K
            obtain ⟨hp1, hp2, hp3⟩ := put9 HBZ.out.2.1 HBN.out HBZ.out.2.2.2.1 (.int .i64 p.f0) (.int .i64 p.f1) (.int .i64 p.f2) (.int .i64 p.f3) (.int .i64 p.f4) (.int .i64 p.f5) (.int .i64 p.f6) (.int .i64 p.f7) (.bool p.f8)
            have hp4 := hp3 b2 _ _ (fun e => HBZ.out.1 e.symm) HBZ.out.2.2.1
            clear hp3
            generalize (World.setCell (World.setCell (World.setCell (World.setCell (World.setCell (World.setCell (World.setCell (World.setCell (World.setCell w' ⟨b1, 0, none⟩ (.int .i64 p.f0)) ⟨b1, 1, none⟩ (.int .i64 p.f1)) ⟨b1, 2, none⟩ (.int .i64 p.f2)) ⟨b1, 3, none⟩ (.int .i64 p.f3)) ⟨b1, 4, none⟩ (.int .i64 p.f4)) ⟨b1, 5, none⟩ (.int .i64 p.f5)) ⟨b1, 6, none⟩ (.int .i64 p.f6)) ⟨b1, 7, none⟩ (.int .i64 p.f7)) ⟨b1, 8, none⟩ (.bool p.f8)) = w5 at hp1 hp2 hp4 hHeld ⊢
            refine last_ (i := 15) (N := none) (lsb 16 65535) rfl rfl (by kernel_rfl) (by decide) (fun K hK => ?_)
            obtain ⟨z0, z1, z2, z3, z4, z5, z6, z7, z8⟩ := nine hp4
            have hz15 : ∀ o, w5.frozen? ⟨b2, o, none⟩ = false := fun o => blk_frozen hp4 o
            refine skip_ (w1 := ?_) (by rfl) rfl ?_ ?_
            rotate_left
            · go_simp
              rfl
            clear z0 z1 z2 z3 z4 z5 z6 z7 z8 hz15
            refine hK.out _ _ ?_
            clear hK K
            refine done_ (by kernel_rfl) ?_
            
            obtain ⟨hr1, hr2, hr3⟩ := put9 hp4 hp2 HBZ.out.2.2.2.2 (.int .i64 q.f0) (.int .i64 q.f1) (.int .i64 q.f2) (.int .i64 q.f3) (.int .i64 q.f4) (.int .i64 q.f5) (.int .i64 q.f6) (.int .i64 q.f7) (.bool q.f8)
            have hr4 := hr3 b1 _ _ HBZ.out.1 hp1
            clear hr3
            generalize (World.setCell (World.setCell (World.setCell (World.setCell (World.setCell (World.setCell (World.setCell (World.setCell (World.setCell w5 ⟨b2, 0, none⟩ (.int .i64 q.f0)) ⟨b2, 1, none⟩ (.int .i64 q.f1)) ⟨b2, 2, none⟩ (.int .i64 q.f2)) ⟨b2, 3, none⟩ (.int .i64 q.f3)) ⟨b2, 4, none⟩ (.int .i64 q.f4)) ⟨b2, 5, none⟩ (.int .i64 q.f5)) ⟨b2, 6, none⟩ (.int .i64 q.f6)) ⟨b2, 7, none⟩ (.int .i64 q.f7)) ⟨b2, 8, none⟩ (.bool q.f8)) = w6 at hr1 hr2 hr4 ⊢
            have BP := lhid hr4
            have BQ := lhid hr1
            have hb := hr2
            clear hp1 hp2 hp4 hr1 hr2 hr4
            have HBK_41 := lhid (HBK_36.out.next hb)
            have HB_42 := lhid (below_then HB_37.out HB_37.out.size hb)
            have HG_43 := lhid (Kd.R_below HG_38.out hb)
            have XB_44 := lhid (blk_below XB_39.out hb)
            have HE_45 := lhid (Kd.R_below HE_40.out hb)
            clear HBK_36 HB_37 HG_38 XB_39 HE_40 hb
            obtain ⟨-, q1, q2, ⟨sb1, sb2⟩, t1, t2, t3, t4, t5, t6, t7, t8⟩ := HT2.out
            have sv1 : standsV s.day s.G x.f1 = true := by unfold standsV; rw [if_pos q1]; exact sb1
            have sv2 : standsV s.day s.G x.f2 = true := by unfold standsV; rw [if_pos q2]; exact sb2
            rw [sv1, sv2]
            clear q1 q2 sb1 sb2 sv1 sv2
            have e1 : (p.f2 == q.f2) = false := beq_eq_false_iff_ne.2 t1
            have e2 : (p.f3 == q.f3) = false := beq_eq_false_iff_ne.2 t2
            have e3 : (p.f3 != x.f3) = false := bne_eq_false_iff_eq.2 t3
            have e4 : (q.f3 != x.f4) = false := bne_eq_false_iff_eq.2 t4
            have e7 : (p.f7 == 0) = false := beq_eq_false_iff_ne.2 t7
            have e8 : (q.f7 == 0) = false := beq_eq_false_iff_ne.2 t8
            clear t1 t2 t3 t4 t7 t8
            obtain ⟨-, -, a2, a3, a4, a5, -, a7, -⟩ := nine BP.out
            obtain ⟨-, -, b2', b3, b4, b5, -, b7, -⟩ := nine BQ.out
            obtain ⟨-, -, -, y3, y4, -, -, -, -, -, y10⟩ := cells11 XB_44.out
            have v2 : (0 : Int) ≤ x.f10 := HT2.out.1.1
            have t9 : (bits .and .i64 p.f4 q.f4 / 2 ^ x.f10.toNat).tmod 2 ≠ 0 := by have h6 := beq_eq_false_iff_ne.1 t6; have hv := HT2.out.1.2; unfold shr at h6; rwa [Nat.min_eq_left (show x.f10.toNat ≤ IntKind.bits .i64 by show x.f10.toNat ≤ 64; omega)] at h6
            go_wp2_with fail
            try any_goals (exfalso; rename_i hq; exact t9 hq)
            clear a2 a3 a4 a5 a7 b2' b3 b4 b5 b7 y3 y4 y10
            clear e1 e2 e3 e4 e7 e8 t5 t6 t9
            go_roundw
            case rel => exact ⟨i + 1, by omega, by simp, lhid (by rw [HSX.out]; exact ⟨⟨F3, HBK_41.out⟩, HB_42.out, Nat.le_refl _⟩)⟩
            case measure => simp [intOf]; omega
          · have dy : (y == 0) = false := beq_eq_false_iff_ne.mpr ky
            have hee := HON.out (by rw [HOD.out]; simp [dy])
            have hnn : ((t.E.length : Int) != (s.E.length : Int)) = false := bne_eq_false_iff_eq.mpr (by rw [hee])
            clear hee
            obtain ⟨y0, y1, y2, y3, y4, y5, y6, y7, y8, y9, y10⟩ := cells11 XB_30.out
            go_wp2_with fail
            clear y0 y1 y2 y3 y4 y5 y6 y7 y8 y9 y10
            try any_goals (exfalso; omega)
            go_roundw
            case rel => exact ⟨i + 1, by omega, by simp, lhid (by rw [HSX.out]; exact ⟨⟨F3, HBK_27.out⟩, HB_28.out, Nat.le_refl _⟩)⟩
            case measure => simp [intOf]; omega
        · have d6 : decide (x.f0 % 8 ≤ 6) = false := decide_eq_false k6
          have hee := HON.out (by rw [HOD.out]; simp [d6])
          have hnn : ((t.E.length : Int) != (s.E.length : Int)) = false := bne_eq_false_iff_eq.mpr (by rw [hee])
          clear hee
          obtain ⟨y0, y1, y2, y3, y4, y5, y6, y7, y8, y9, y10⟩ := cells11 XB_30.out
          go_wp2_with fail
          clear y0 y1 y2 y3 y4 y5 y6 y7 y8 y9 y10
          try any_goals (exfalso; omega)
          go_roundw
          case rel => exact ⟨i + 1, by omega, by simp, lhid (by rw [HSX.out]; exact ⟨⟨F3, HBK_27.out⟩, HB_28.out, Nat.le_refl _⟩)⟩
          case measure => simp [intOf]; omega
      · have d4 : decide (x.f0 % 8 ≥ 4) = false := decide_eq_false k4
        have hee := HON.out (by rw [HOD.out]; simp [d4])
        have hnn : ((t.E.length : Int) != (s.E.length : Int)) = false := bne_eq_false_iff_eq.mpr (by rw [hee])
        clear hee
        obtain ⟨y0, y1, y2, y3, y4, y5, y6, y7, y8, y9, y10⟩ := cells11 XB_30.out
        go_wp2_with fail
        clear y0 y1 y2 y3 y4 y5 y6 y7 y8 y9 y10
        try any_goals (exfalso; omega)
        go_roundw
        case rel => exact ⟨i + 1, by omega, by simp, lhid (by rw [HSX.out]; exact ⟨⟨F3, HBK_27.out⟩, HB_28.out, Nat.le_refl _⟩)⟩
        case measure => simp [intOf]; omega
    · have hlt2 : ¬ (i : Int) < (l0.length : Int) := by omega
      have HBw := lhid (below_then HWB.out HWB.out.size HSr.out.2.1)
      go_wp2_with fail
      with_reducible refine (alive_calls wr).mono ?_
      rintro e w911 ⟨rfl, hb⟩
      have HB_46 := lhid (below_then HBw.out HBw.out.size hb)
      clear HBw hb
      go_wp2_with fail
      go_ret
      exact ⟨rfl, HB_46.out⟩
theorem custodyTwo_pure : kimberlitelaw06_CustodyTwo.Pure2 := fun _ h0 => ⟨0, h0, trivial⟩
end Go.Proofs.Ytfnlghjkjmppdaa.PC
