/- CustodyUses: what is left of a bound is the bound less the uses. The law's function walked by hand. -/
import Derived.Test.YtfnlghjkjmppdaaPCxPureCustodyUses
import Derived.Test.YtfnlghjkjmppdaaCUm
import Derived.Test.YtfnlghjkjmppdaaPCx2
namespace Go.Proofs.Ytfnlghjkjmppdaa.PC
open Go.RowKit Go.Proofs.YtfnlghjkjmppdaaW.PrintWords Go.Proofs.YtfnlghjkjmppdaaW.PrintLast Go.Proofs.YtfnlghjkjmppdaaW.PrintMore Go.Proofs.Ytfnlghjkjmppdaa.Opn
set_option linter.unusedVariables false
set_option linter.unusedSimpArgs false
set_option maxHeartbeats 12800000 in
set_option maxRecDepth 100000 in
theorem kimberlitelaw06_CustodyUses.calls (k : Nat) (A0 : Option Addr) (c0 : Nat) (l0 : List (S37)) (w : World) (hr0 : Kd.C k37 w A0 l0.length l0) (hc0 : l0.length ≤ c0) (h : kimberlitelaw06_CustodyUses.ok l0) : Calls Try.prog 4 #[.slice A0 l0.length c0] w fun e w' => e = .returned (.bool true) ∧ Below w.heap.size w w' := by
  have hu37 := Try.underlying37
  have HR0 := lhid hr0
  have HC0 := lhid hc0
  have HK0 := lhid (show ∀ x ∈ l0, 0 ≤ x.f0 ∧ x.f0 < 256 from fun x hx => wf_u8 (h.1.2 x hx).1)
  clear hr0 hc0 h
  go_enter Try.func4, Try.ntmps4
  have HB_1 := lhid (Below.refl w.heap.size w)
  by_cases hfl0 : (l0.length : Int) ≤ 40
  rotate_left
  · go_wp2_with fail
    with_reducible refine (kimberlitelaw06_few.calls A0 c0 l0 false w (Kd.C_below HR0.out HB_1.out) HC0.out (by unfold kimberlitelaw06_few.f; exact congrArg some (decide_eq_false (by omega)))).mono ?_
    rintro e w1 ⟨rfl, nd, hq⟩
    have hb := pw_below_drewN (Below.refl w.heap.size w) nd
    rw [← hq] at hb
    clear hq
    have HB_2 := lhid (below_then HB_1.out HB_1.out.size hb)
    clear HB_1 hb
    go_wp2_with fail
    with_reducible refine (alive_calls w1).mono ?_
    rintro e w902 ⟨rfl, hb⟩
    have HB_3 := lhid (below_then HB_2.out HB_2.out.size hb)
    clear HB_2 hb
    go_wp2_with fail
    go_ret
    exact ⟨rfl, HB_3.out⟩
  go_wp2_with fail
  with_reducible refine (kimberlitelaw06_few.calls A0 c0 l0 true w (Kd.C_below HR0.out HB_1.out) HC0.out (by unfold kimberlitelaw06_few.f; exact congrArg some (decide_eq_true (by omega)))).mono ?_
  rintro e w1 ⟨rfl, nd, hq⟩
  have hb := pw_below_drewN (Below.refl w.heap.size w) nd
  rw [← hq] at hb
  clear hq
  have HB_4 := lhid (below_then HB_1.out HB_1.out.size hb)
  clear HB_1 hb
  have hf : l0.length ≤ 40 := by omega
  clear hfl0
  have HRB := lhid (Kd.C_below HR0.out HB_4.out)
  obtain ⟨wb, hwb⟩ : ∃ q : World, q = w1 := ⟨_, rfl⟩
  have HWB := lhid (show Below w.heap.size w wb by rw [hwb]; exact HB_4.out)
  rw [← hwb] at HRB ⊢
  clear hwb HB_4
  go_wp2_with fail
  with_reducible refine (new_has wb).mono ?_
  rintro e w1 ⟨g, rfl, h1⟩
  obtain ⟨⟨F0, hk0⟩, hb0, hz0⟩ := h1
  have HM0 := lhid (show HasM wb.heap.size wb w1 g (runS s0 (l0.take 0)) (.slice none 0 0) (madeL l0 0) from ⟨F0, hk0, hb0, hz0, Kd.R_nil _ _ _ _ _⟩)
  clear hk0 hb0 hz0
  go_upto_region 6 with (fail)
  go_loopw [4, 5] (fun v t wr => ∃ i : Nat, i ≤ l0.length ∧ t = .int .i64 i ∧ Hid (HasM wb.heap.size wb wr g (runS s0 (l0.take i)) v (madeL l0 i))) (fun _ t _ => l0.length - (intOf t).toNat)
  case atStart => exact ⟨0, Nat.zero_le _, rfl, HM0⟩
  case round =>
    obtain ⟨i, hi, rfl, HMr⟩ := hrel
    clear HM0
    by_cases hlt : i < l0.length
    · have hlt2 : (i : Int) < (l0.length : Int) := by omega
      have HSX := lhid (runS_take s0 l0 i hlt)
      have HMX := lhid (show madeL l0 (i + 1) = madeS (runS s0 (l0.take i)) (madeL l0 i) (l0.getD i z37) from rfl)
      have HUI := lhid (usi_run l0 i (by omega))
      have HUJ := lhid (usi_run l0 (i + 1) hlt)
      obtain ⟨x, hx⟩ : ∃ x, x = l0.getD i z37 := ⟨_, rfl⟩
      have HKX := lhid (HK0.out _ (mem_getD hlt))
      rw [← hx] at HSX HMX HKX
      obtain ⟨s, hs⟩ : ∃ s : St, s = runS s0 (l0.take i) := ⟨_, rfl⟩
      obtain ⟨M, hM⟩ : ∃ M, M = madeL l0 i := ⟨_, rfl⟩
      rw [← hs] at HSX HMX HUI HMr
      rw [← hM] at HMX HUI HMr
      rw [HSX.out, HMX.out] at HUJ
      have HX := lhid hx
      clear hs hM hx
      obtain ⟨F, hk, hb1, hz1, hr1⟩ := HMr.out
      have HBK := lhid (show BK wb.heap.size F wr g s.day s.G s.E from hk)
      have HBB := lhid hb1
      have HRM := lhid hr1
      have HIG := lhid HUI.out.1.1
      have HTG := lhid HUI.out.1.1.1
      clear hk hb1 hr1 HMr
      obtain ⟨Am, cm, rfl⟩ := Kd.R_slice HRM.out
      go_wp2_with fail
      with_reducible refine (grants_calls wb.heap.size g F wr s.day s.G s.E HBK.out HTG.out).mono ?_
      rintro e w11 ⟨vG, rfl, hG, hb⟩
      obtain ⟨AG, cG, rfl⟩ := Kd.R_slice hG
      clear hG
      have HBK_5 := lhid (BK.next HBK.out hb)
      have HB_6 := lhid (below_then HBB.out HBB.out.size hb)
      have HRM_7 := lhid (Kd.R_below HRM.out hb)
      clear HBK HBB HRM hb
      have hsl : s.G.length ≤ 128 := HTG.out.1
      go_upto_region 9 with (fail)
      obtain ⟨ad, eA, x0, x1, x2, x3, x4, x5, x6, x7, x8, x9, x10⟩ := at_T37 (Kd.C_below HRB.out HB_6.out) (i : Int) (by omega) (by omega)
      subst eA
      simp only [rd_T37, Int.toNat_natCast] at x0 x1 x2 x3 x4 x5 x6 x7 x8 x9 x10
      rw [← HX.out] at x0 x1 x2 x3 x4 x5 x6 x7 x8 x9 x10
      go_wp2_with fail
      have hbkq : Bk wb.heap.size F w11 g s := HBK_5.out
      with_reducible refine (act_calls wb.heap.size g F w11 s x hbkq HIG.out HKX.out).mono ?_
      rintro e w3 ⟨he, hg⟩
      obtain ⟨y, hy, rfl⟩ := one_any he
      clear hy he x0 x1 x2 x3 x4 x5 x6 x7 x8 x9 x10
      have hm3 := HasM.got (show Bk wb.heap.size F w11 g s from HBK_5.out) HB_6.out hz1 HRM_7.out hg
      clear hg HBK_5 HB_6 HRM_7
      obtain ⟨F3, hk, hb1, -, hr1⟩ := hm3
      have HBK3 := lhid hk
      have HBB3 := lhid hb1
      have HRM3 := lhid hr1
      clear hk hb1 hr1
      obtain ⟨t, ht⟩ : ∃ t : St, t = stepS s x := ⟨_, rfl⟩
      have HTD := lhid (show madeS s M x = M ++ (t.G.drop s.G.length).map (·.f7) by rw [ht]; rfl)
      have HLE := lhid (show s.G.length ≤ t.G.length ∧ t.G.length ≤ s.G.length + 1 by rw [ht]; exact ⟨(step_len s x).2.1, (step_len s x).1⟩)
      rw [← ht] at HUJ HBK3 HSX
      clear ht
      have HBK4 := lhid (show BK wb.heap.size F3 w3 g t.day t.G t.E from HBK3.out)
      clear HBK3
      have HTT := lhid HUJ.out.1.1.1
      go_wp2_with fail
      with_reducible refine (grants_calls wb.heap.size g F3 w3 t.day t.G t.E HBK4.out HTT.out).mono ?_
      rintro e w31 ⟨vG2, rfl, hG, hb⟩
      obtain ⟨AH, cH, rfl⟩ := Kd.R_slice hG
      have HGH := lhid hG
      clear hG
      have HBK_8 := lhid (BK.next HBK4.out hb)
      have HB_9 := lhid (below_then HBB3.out HBB3.out.size hb)
      have HRM_10 := lhid (Kd.R_below HRM3.out hb)
      clear HBK4 HBB3 HRM3 hb
      have htl : t.G.length ≤ 128 := HTT.out.1
      go_upto_region 12 with (fail)
      obtain ⟨n, hn⟩ : ∃ n, n = s.G.length := ⟨_, rfl⟩
      rw [← hn] at HTD HLE ⊢
      have HML := lhid (show M.length ≤ 128 by rw [HUI.out.2.2.1]; exact hsl)
      clear hn
      have hn1 := HLE.out.1
      have HMM := lhid (show HasM wb.heap.size wb w31 g t (.slice Am M.length cm) (gat M t.G n n) from by rw [gat_start]; exact ⟨F3, HBK_8.out, HB_9.out, Nat.le_refl _, HRM_10.out⟩)
      go_loopw [4, 8] (fun v tk wr => ∃ k : Nat, n ≤ k ∧ k ≤ t.G.length ∧ tk = .int .i64 k ∧ Hid (HasM wb.heap.size wb wr g t v (gat M t.G n k)) ∧ Hid (Kd.R k39 39 wr w3.heap.size (fun _ => True) (.slice AH t.G.length cH) t.G)) (fun _ tk _ => t.G.length - (intOf tk).toNat)
      case atStart => exact ⟨n, Nat.le_refl _, hn1, rfl, HMM, HGH⟩
      case round =>
        obtain ⟨k, hk1, hk2, rfl, HMr, HGr⟩ := hrel
        clear HMM HGH
        by_cases hlk : k < t.G.length
        · have hlk2 : (k : Int) < (t.G.length : Int) := by omega
          obtain ⟨F4, hk, hb1, hz4, hr1⟩ := HMr.out
          have HBK4 := lhid hk
          have HBB4 := lhid hb1
          have HRM4 := lhid hr1
          clear hk hb1 hr1
          obtain ⟨Av, cv, rfl⟩ := Kd.R_slice HRM4.out
          obtain ⟨gb, hA⟩ := row_ad HGr.out (by omega)
          subst hA
          obtain ⟨-, -, -, -, -, -, -, hc7, -⟩ := row_cells HGr.out k hlk
          obtain ⟨u, hu⟩ : ∃ u, u = (t.G.getD k z39).f7 := ⟨_, rfl⟩
          rw [← hu] at hc7
          have HU := lhid hu
          clear hu
          have hgl := gat_len M t.G n k
          have hml := HML.out
          go_wp2_with (first | ((with_reducible refine gate_builtin (b := .append) (xs := #[.tmp 43, .tmp 49]) rfl ?_); at_builtin; refine Kd.R_append (Kd.int .i64) (w0 := wb) wb.heap.size rfl (.tmp 43) (.tmp 49) 32 3 (.int .i64 0) 8 rfl Try.underlying32 info3 rfl (by decide) (by omega) (.slice Av (gat M t.G n k).length cv) (gat M t.G n k) u [.int .i64 u] (fun k => ¬ F4 k) (fun _ => False) rfl rfl ?aP (fun _ hk => hk.elim) ?aF ?aO ?aB ?aS ?aL ?_; (case aP => exact rfl); (case aF => exact fun q hq hF => by have := (BK.fb HBK4.out q hF).2; omega); (case aO => exact HRM4.out); (case aB => exact HBB4.out); (case aS => exact Bk.sz HBK4.out); (case aL => omega); intro v8 w8 ho8 hb8 hg8 hat8; obtain ⟨A8, c8, rfl⟩ := Kd.R_slice ho8; have HMN := lhid (HasM.app HBK4.out (Nat.le_refl _) HRM4.out ho8 hb8 hg8); have HGN := lhid (Kd.R_grown1 HGr.out rfl hg8 (by rcases own_type_ne (Kd.R_own HRM4.out).choose_spec (Kd.R_own HGr.out).choose_spec (by decide) with q | q; rw [q]; exact (by intro z; cases z); exact q)); clear ho8 hb8 hg8 hat8))
          try any_goals (exfalso; omega)
          go_roundw
          case rel => exact ⟨k + 1, by omega, by omega, by simp, lhid (by rw [gat_snoc M t.G n k hk1 hlk, ← HU.out]; have q := HMN.out; rw [List.length_append] at q; exact q), HGN⟩
          case measure => simp [intOf]; omega
        · have hke : k = t.G.length := by omega
          have hlk2 : ¬ (k : Int) < (t.G.length : Int) := by omega
          have HMF := lhid (show HasM wb.heap.size wb wr g (runS s0 (l0.take (i + 1))) _ (madeL l0 (i + 1)) from by rw [HSX.out, HMX.out, HTD.out, ← gat_end, ← hke]; exact HMr.out)
          clear hke
          go_wp2_with fail
          try any_goals (exfalso; omega)
          go_roundw
          case rel => exact ⟨i + 1, by omega, by simp, HMF⟩
          case measure => simp [intOf]; omega
    · have hie : i = l0.length := by omega
      have hlt2 : ¬ (i : Int) < (l0.length : Int) := by omega
      have HUI := lhid (usi_run l0 i (by omega))
      have HEL := lhid (show (runS s0 (l0.take i)).E.length ≤ 40 by have := (run_len (l0.take i) s0).2; rw [List.length_take] at this; have h0 : s0.E.length = 0 := rfl; omega)
      clear hie
      obtain ⟨s, hs⟩ : ∃ s : St, s = runS s0 (l0.take i) := ⟨_, rfl⟩
      obtain ⟨M, hM⟩ : ∃ M, M = madeL l0 i := ⟨_, rfl⟩
      rw [← hs] at HUI HMr HEL
      rw [← hM] at HUI HMr
      clear hs hM
      obtain ⟨day, G, E⟩ := s
      have HTG := lhid HUI.out.1.1.1
      obtain ⟨F, hk, hb1, hz1, hr1⟩ := HMr.out
      have HBK := lhid (show BK wb.heap.size F wr g day G E from hk)
      have HBB := lhid hb1
      have HRM := lhid hr1
      clear hk hb1 hr1 HMr
      obtain ⟨Am, cm, rfl⟩ := Kd.R_slice HRM.out
      go_upto_region 15 with (fail)
      go_wp2_with fail
      with_reducible refine (grants_calls wb.heap.size g F wr day G E HBK.out HTG.out).mono ?_
      rintro e w51 ⟨vG, rfl, hG, hb⟩
      obtain ⟨AG, cG, rfl⟩ := Kd.R_slice hG
      have HG := lhid hG
      clear hG
      have HBK_11 := lhid (HBK.out.next hb)
      have HB_12 := lhid (below_then HBB.out HBB.out.size hb)
      have HRM_13 := lhid (Kd.R_below HRM.out hb)
      clear HBK HBB HRM hb
      go_wp2_with fail
      with_reducible refine (entries_calls wb.heap.size g F w51 day G E HBK_11.out (by have := HEL.out; exact Nat.le_trans this (by omega))).mono ?_
      rintro e w52 ⟨vE, rfl, hE, hb⟩
      obtain ⟨AE, cE, rfl⟩ := Kd.R_slice hE
      have HE := lhid hE
      clear hE
      have HBK_14 := lhid (HBK_11.out.next hb)
      have HB_15 := lhid (below_then HB_12.out HB_12.out.size hb)
      have HRM_16 := lhid (Kd.R_below HRM_13.out hb)
      have HG_17 := lhid (Kd.R_below HG.out hb)
      clear HBK_11 HB_12 HRM_13 HG hb
      have hTl : G.length ≤ 128 := HTG.out.1
      have hEl : E.length ≤ 40 := HEL.out
      have hMl : M.length = G.length := HUI.out.2.2.1
      rw [hMl] at HRM_16 ⊢
      have hnn : ((G.length : Int) != (G.length : Int)) = false := bne_self_eq_false _
      go_upto_region 19 with (fail)
      clear hnn
      have HL0 := lhid (Below.refl w52.heap.size w52)
      clear hlt hi hlt2 HEL
      obtain ⟨wc, hwc⟩ : ∃ q : World, q = w52 := ⟨_, rfl⟩
      subst hwc
      go_loopw [11] (fun t wr => ∃ i : Nat, i ≤ G.length ∧ t = .int .i64 i ∧ Hid (Below wc.heap.size wc wr)) (fun t _ => G.length - (intOf t).toNat)
      case atStart => exact ⟨0, Nat.zero_le _, rfl, HL0⟩
      case round =>
        obtain ⟨i, hi, rfl, HLr⟩ := hrel
        clear HL0
        obtain ⟨wd, hwd⟩ : ∃ q : World, q = wr := ⟨_, rfl⟩
        subst hwd
        by_cases hlt : i < G.length
        · have hlt2 : (i : Int) < (G.length : Int) := by omega
          have HUN := lhid (HUI.out.2.2.2 (i + 1) (by omega) hlt)
          have HF7 := lhid (HUI.out.1.1.2 (i + 1) (by omega) hlt).2.2.2.2.2.2.2.2
          rw [show i + 1 - 1 = i by omega] at HUN
          obtain ⟨x, hx⟩ : ∃ x, x = gr G (i + 1) := ⟨_, rfl⟩
          have HXG := lhid (show G.getD i z39 = x by rw [hx]; exact (gr_getD G i).symm)
          have HUN2 := lhid (show (M.getD i 0 < 0 → x.f7 = -1) ∧ (0 ≤ M.getD i 0 → x.f7 = M.getD i 0 - usedN G E (i + 1) ∧ 0 ≤ x.f7) by rw [hx]; exact HUN.out)
          rw [← hx] at HF7
          clear hx HUN
          go_upto_region 23 with (fail)
          have HT0 := lhid (Below.refl wd.heap.size wd)
          go_loopw [12, 13] (fun uv tk wr => ∃ k : Nat, k ≤ E.length ∧ tk = .int .i64 k ∧ uv = .int .i64 (usedN G (E.take k) (i + 1) : Nat) ∧ Hid (Below wd.heap.size wd wr)) (fun _ tk _ => E.length - (intOf tk).toNat)
          case atStart => exact ⟨0, Nat.zero_le _, rfl, rfl, HT0⟩
          case round =>
            obtain ⟨k, hk, rfl, rfl, HTr⟩ := hrel
            clear HT0
            have hul := used_le G (E.take k) (i + 1)
            rw [List.length_take] at hul
            by_cases hlk : k < E.length
            · have hlk2 : (k : Int) < (E.length : Int) := by omega
              obtain ⟨eb, hA⟩ := ent_ad HE.out (by omega)
              subst hA
              have HEI := lhid (HUI.out.2.1 E[k] (List.getElem_mem hlk))
              have HSN := lhid (used_snoc G E (i + 1) k hlk)
              obtain ⟨e, he⟩ : ∃ e, e = E[k] := ⟨_, rfl⟩
              have HEE := lhid he
              rw [← he] at HEI HSN
              clear he
              have hul2 : usedN G (E.take k) (i + 1) ≤ 80 := by omega
              have HCE := lhid (Kd.R_below HE.out HLr.out)
              have HCG := lhid (Kd.R_below HG_17.out HLr.out)
              have HCE2 := lhid (Kd.R_below HCE.out HTr.out)
              have HCG2 := lhid (Kd.R_below HCG.out HTr.out)
              clear HCE HCG
              cases c1 : decide (i + 1 ∈ up G e.f2.toNat) <;> cases c2 : decide (i + 1 ∈ up G e.f3.toNat)
              · obtain ⟨c_0, c_1, c_2, c_3⟩ := ent_cells HCE2.out k hlk
                rw [← HEE.out] at c_2 c_3
                clear c_0 c_1 c_3
                go_wp2_with fail
                with_reducible refine (kimberlitelaw06_under.calls (2 * e.f2.toNat + 2) AG cG G e.f2 ((i : Int) + 1) false wr (Kd.R_reads' HCG2.out).2.2 (Kd.R_reads' HCG2.out).2.1 (by rw [under_f HTG.out HEI.out.1.1 HEI.out.1.2, any_eq, c1])).mono ?_
                rintro e w71 ⟨rfl, nd, hq⟩
                have hb := pw_below_drewN (Below.refl wr.heap.size wr) nd
                rw [← hq] at hb
                clear hq
                have HT_18 := lhid (below_then HTr.out HTr.out.size hb)
                have HCE_19 := lhid (Kd.R_below HCE2.out hb)
                have HCG_20 := lhid (Kd.R_below HCG2.out hb)
                clear HTr HCE2 HCG2 hb
                clear c_2
                go_upto_region 27 with (fail)
                obtain ⟨c_0, c_1, c_2, c_3⟩ := ent_cells HCE_19.out k hlk
                rw [← HEE.out] at c_2 c_3
                clear c_0 c_1 c_2
                go_wp2_with fail
                with_reducible refine (kimberlitelaw06_under.calls (2 * e.f3.toNat + 2) AG cG G e.f3 ((i : Int) + 1) false w71 (Kd.R_reads' HCG_20.out).2.2 (Kd.R_reads' HCG_20.out).2.1 (by rw [under_f HTG.out HEI.out.2.1 HEI.out.2.2, any_eq, c2])).mono ?_
                rintro e w72 ⟨rfl, nd, hq⟩
                have hb := pw_below_drewN (Below.refl w71.heap.size w71) nd
                rw [← hq] at hb
                clear hq
                have HT_21 := lhid (below_then HT_18.out HT_18.out.size hb)
                have HCE_22 := lhid (Kd.R_below HCE_19.out hb)
                have HCG_23 := lhid (Kd.R_below HCG_20.out hb)
                clear HT_18 HCE_19 HCG_20 hb
                clear c_3
                go_wp2_with fail
                try any_goals (exfalso; omega)
                go_roundw
                case rel => exact ⟨k + 1, by omega, by simp, by rw [HSN.out]; unfold use2; simp [of_decide_eq_false c1, of_decide_eq_false c2] <;> omega, HT_21⟩
                case measure => simp [intOf]; omega
              · obtain ⟨c_0, c_1, c_2, c_3⟩ := ent_cells HCE2.out k hlk
                rw [← HEE.out] at c_2 c_3
                clear c_0 c_1 c_3
                go_wp2_with fail
                with_reducible refine (kimberlitelaw06_under.calls (2 * e.f2.toNat + 2) AG cG G e.f2 ((i : Int) + 1) false wr (Kd.R_reads' HCG2.out).2.2 (Kd.R_reads' HCG2.out).2.1 (by rw [under_f HTG.out HEI.out.1.1 HEI.out.1.2, any_eq, c1])).mono ?_
                rintro e w71 ⟨rfl, nd, hq⟩
                have hb := pw_below_drewN (Below.refl wr.heap.size wr) nd
                rw [← hq] at hb
                clear hq
                have HT_24 := lhid (below_then HTr.out HTr.out.size hb)
                have HCE_25 := lhid (Kd.R_below HCE2.out hb)
                have HCG_26 := lhid (Kd.R_below HCG2.out hb)
                clear HTr HCE2 HCG2 hb
                clear c_2
                go_upto_region 27 with (fail)
                obtain ⟨c_0, c_1, c_2, c_3⟩ := ent_cells HCE_25.out k hlk
                rw [← HEE.out] at c_2 c_3
                clear c_0 c_1 c_2
                go_wp2_with fail
                with_reducible refine (kimberlitelaw06_under.calls (2 * e.f3.toNat + 2) AG cG G e.f3 ((i : Int) + 1) true w71 (Kd.R_reads' HCG_26.out).2.2 (Kd.R_reads' HCG_26.out).2.1 (by rw [under_f HTG.out HEI.out.2.1 HEI.out.2.2, any_eq, c2])).mono ?_
                rintro e w72 ⟨rfl, nd, hq⟩
                have hb := pw_below_drewN (Below.refl w71.heap.size w71) nd
                rw [← hq] at hb
                clear hq
                have HT_27 := lhid (below_then HT_24.out HT_24.out.size hb)
                have HCE_28 := lhid (Kd.R_below HCE_25.out hb)
                have HCG_29 := lhid (Kd.R_below HCG_26.out hb)
                clear HT_24 HCE_25 HCG_26 hb
                clear c_3
                go_wp2_with fail
                try any_goals (exfalso; omega)
                go_roundw
                case rel => exact ⟨k + 1, by omega, by simp, by rw [HSN.out]; unfold use2; simp [of_decide_eq_false c1, of_decide_eq_true c2] <;> omega, HT_27⟩
                case measure => simp [intOf]; omega
              · obtain ⟨c_0, c_1, c_2, c_3⟩ := ent_cells HCE2.out k hlk
                rw [← HEE.out] at c_2 c_3
                clear c_0 c_1 c_3
                go_wp2_with fail
                with_reducible refine (kimberlitelaw06_under.calls (2 * e.f2.toNat + 2) AG cG G e.f2 ((i : Int) + 1) true wr (Kd.R_reads' HCG2.out).2.2 (Kd.R_reads' HCG2.out).2.1 (by rw [under_f HTG.out HEI.out.1.1 HEI.out.1.2, any_eq, c1])).mono ?_
                rintro e w71 ⟨rfl, nd, hq⟩
                have hb := pw_below_drewN (Below.refl wr.heap.size wr) nd
                rw [← hq] at hb
                clear hq
                have HT_30 := lhid (below_then HTr.out HTr.out.size hb)
                have HCE_31 := lhid (Kd.R_below HCE2.out hb)
                have HCG_32 := lhid (Kd.R_below HCG2.out hb)
                clear HTr HCE2 HCG2 hb
                clear c_2
                go_upto_region 27 with (fail)
                obtain ⟨c_0, c_1, c_2, c_3⟩ := ent_cells HCE_31.out k hlk
                rw [← HEE.out] at c_2 c_3
                clear c_0 c_1 c_2
                go_wp2_with fail
                with_reducible refine (kimberlitelaw06_under.calls (2 * e.f3.toNat + 2) AG cG G e.f3 ((i : Int) + 1) false w71 (Kd.R_reads' HCG_32.out).2.2 (Kd.R_reads' HCG_32.out).2.1 (by rw [under_f HTG.out HEI.out.2.1 HEI.out.2.2, any_eq, c2])).mono ?_
                rintro e w72 ⟨rfl, nd, hq⟩
                have hb := pw_below_drewN (Below.refl w71.heap.size w71) nd
                rw [← hq] at hb
                clear hq
                have HT_33 := lhid (below_then HT_30.out HT_30.out.size hb)
                have HCE_34 := lhid (Kd.R_below HCE_31.out hb)
                have HCG_35 := lhid (Kd.R_below HCG_32.out hb)
                clear HT_30 HCE_31 HCG_32 hb
                clear c_3
                go_wp2_with fail
                try any_goals (exfalso; omega)
                go_roundw
                case rel => exact ⟨k + 1, by omega, by simp, by rw [HSN.out]; unfold use2; simp [of_decide_eq_true c1, of_decide_eq_false c2] <;> omega, HT_33⟩
                case measure => simp [intOf]; omega
              · obtain ⟨c_0, c_1, c_2, c_3⟩ := ent_cells HCE2.out k hlk
                rw [← HEE.out] at c_2 c_3
                clear c_0 c_1 c_3
                go_wp2_with fail
                with_reducible refine (kimberlitelaw06_under.calls (2 * e.f2.toNat + 2) AG cG G e.f2 ((i : Int) + 1) true wr (Kd.R_reads' HCG2.out).2.2 (Kd.R_reads' HCG2.out).2.1 (by rw [under_f HTG.out HEI.out.1.1 HEI.out.1.2, any_eq, c1])).mono ?_
                rintro e w71 ⟨rfl, nd, hq⟩
                have hb := pw_below_drewN (Below.refl wr.heap.size wr) nd
                rw [← hq] at hb
                clear hq
                have HT_36 := lhid (below_then HTr.out HTr.out.size hb)
                have HCE_37 := lhid (Kd.R_below HCE2.out hb)
                have HCG_38 := lhid (Kd.R_below HCG2.out hb)
                clear HTr HCE2 HCG2 hb
                clear c_2
                go_upto_region 27 with (fail)
                obtain ⟨c_0, c_1, c_2, c_3⟩ := ent_cells HCE_37.out k hlk
                rw [← HEE.out] at c_2 c_3
                clear c_0 c_1 c_2
                go_wp2_with fail
                with_reducible refine (kimberlitelaw06_under.calls (2 * e.f3.toNat + 2) AG cG G e.f3 ((i : Int) + 1) true w71 (Kd.R_reads' HCG_38.out).2.2 (Kd.R_reads' HCG_38.out).2.1 (by rw [under_f HTG.out HEI.out.2.1 HEI.out.2.2, any_eq, c2])).mono ?_
                rintro e w72 ⟨rfl, nd, hq⟩
                have hb := pw_below_drewN (Below.refl w71.heap.size w71) nd
                rw [← hq] at hb
                clear hq
                have HT_39 := lhid (below_then HT_36.out HT_36.out.size hb)
                have HCE_40 := lhid (Kd.R_below HCE_37.out hb)
                have HCG_41 := lhid (Kd.R_below HCG_38.out hb)
                clear HT_36 HCE_37 HCG_38 hb
                clear c_3
                go_wp2_with fail
                try any_goals (exfalso; omega)
                go_roundw
                case rel => exact ⟨k + 1, by omega, by simp, by rw [HSN.out]; unfold use2; simp [of_decide_eq_true c1, of_decide_eq_true c2] <;> omega, HT_39⟩
                case measure => simp [intOf]; omega
            · have hke : k = E.length := by omega
              have hlk2 : ¬ (k : Int) < (E.length : Int) := by omega
              have HKE := lhid (show usedN G (E.take k) (i + 1) = usedN G E (i + 1) by rw [hke, List.take_length])
              clear hke
              go_upto_region 29 with (fail)
              try any_goals (exfalso; omega)
              obtain ⟨mb, hA⟩ := int_ad HRM_16.out (by omega)
              subst hA
              obtain ⟨gb, hA⟩ := row_ad HG_17.out (by omega)
              subst hA
              obtain ⟨mi, hmi⟩ : ∃ q, q = M.getD i 0 := ⟨_, rfl⟩
              have HMI := lhid hmi
              rw [← hmi] at HUN2
              clear hmi
              obtain ⟨un, hun⟩ : ∃ q, q = usedN G (E.take k) (i + 1) := ⟨_, rfl⟩
              rw [← hun] at hul ⊢
              rw [← HKE.out, ← hun] at HUN2
              clear hun
              have hxb := HF7.out
              have HRW := lhid (Kd.R_below (Kd.R_below HRM_16.out HLr.out) HTr.out)
              have HGW := lhid (Kd.R_below (Kd.R_below HG_17.out HLr.out) HTr.out)
              by_cases hm : mi < 0
              · have d1 : decide (mi < 0) = true := decide_eq_true hm
                have d2 : decide (mi ≥ 0) = false := decide_eq_false (by omega)
                have HX7 := lhid (HUN2.out.1 hm)
                have hb := below_drew1 (Below.refl wr.heap.size wr)
                have HT_42 := lhid (below_then HTr.out HTr.out.size hb)
                have HRW_43 := lhid (Kd.R_below HRW.out hb)
                have HGW_44 := lhid (Kd.R_below HGW.out hb)
                clear HTr HRW HGW hb
                refine start_ (n := 42) (S := fun w' => w'.cell? ⟨mb, i, none⟩ = some (.int .i64 mi) ∧ w'.cell? ⟨gb, i * 9 + 7, none⟩ = some (.int .i64 (-1))) (ds := []) (lsb 42 0) (by kernel_rfl) rfl (by kernel_rfl) ⟨((int_cell HRW_43.out i (by omega)).trans (by rw [HMI.out])), ((row_cells HGW_44.out i hlt).2.2.2.2.2.2.2.1.trans (by rw [HXG.out, HX7.out]))⟩ (fun hHeld => ?_)
                generalize wr.drew = w71 at HT_42 HRW_43 HGW_44 hHeld ⊢
                refine pure_ (i := 0) (N := some 94) (v := ?_) (a' := ?_) (lsb 42 1) rfl rfl (by as_aux_lemma => kernel_rfl) (fun _ _ _ h => h) (Or.inl ⟨by rfl, ?_⟩) ?_ ?_; rotate_left; (intro w'; go_simp; with_reducible rfl); rotate_left; (simp only [Act.put, List.setIfInBounds_toArray, List.set_cons_zero, List.set_cons_succ, i64_w, i32_w]; rfl)
                refine pure_ (i := 1) (N := some 95) (v := ?_) (a' := ?_) (lsb 42 3) rfl rfl (by as_aux_lemma => kernel_rfl) (fun _ _ _ h => h) (Or.inl ⟨by rfl, ?_⟩) ?_ ?_; rotate_left; (intro w'; go_simp; with_reducible rfl); rotate_left; (simp only [Act.put, List.setIfInBounds_toArray, List.set_cons_zero, List.set_cons_succ, i64_w, i32_w]; rfl)
                refine pure_ (i := 2) (N := some 96) (v := ?_) (a' := ?_) (lsb 42 7) rfl rfl (by as_aux_lemma => kernel_rfl) (fun _ _ _ h => h) (Or.inl ⟨by rfl, ?_⟩) ?_ ?_; rotate_left; (intro w'; go_simp; with_reducible rfl); rotate_left; (simp only [Act.put, List.setIfInBounds_toArray, List.set_cons_zero, List.set_cons_succ, i64_w, i32_w]; rfl)
                refine take_ (i := 3) (N := some 97) (v := ?_) (a' := ?_) (lsb 42 15) rfl rfl (by as_aux_lemma => kernel_rfl) (fun _ _ _ h => h) (Or.inl ⟨by rfl, ?_⟩) hHeld ?_ ?_; rotate_left; (rintro w' ⟨s0, s1⟩; go_simp; with_reducible rfl); rotate_left; (simp only [Act.put, List.setIfInBounds_toArray, List.set_cons_zero, List.set_cons_succ, i64_w, i32_w]; rfl)
                refine pure_ (i := 4) (N := some 98) (v := ?_) (a' := ?_) (lsb 42 31) rfl rfl (by as_aux_lemma => kernel_rfl) (fun _ _ _ h => h) (Or.inl ⟨by rfl, ?_⟩) ?_ ?_; rotate_left; (intro w'; go_simp; with_reducible rfl); rotate_left; (simp only [Act.put, List.setIfInBounds_toArray, List.set_cons_zero, List.set_cons_succ, i64_w, i32_w]; rfl)
                refine pure_ (i := 5) (N := some 99) (v := ?_) (a' := ?_) (lsb 42 63) rfl rfl (by as_aux_lemma => kernel_rfl) (fun _ _ _ h => h) (Or.inl ⟨by rfl, ?_⟩) ?_ ?_; rotate_left; (intro w'; go_simp; with_reducible rfl); rotate_left; (simp only [Act.put, List.setIfInBounds_toArray, List.set_cons_zero, List.set_cons_succ, i64_w, i32_w]; rfl)
                refine pure_ (i := 6) (N := some 100) (v := ?_) (a' := ?_) (lsb 42 127) rfl rfl (by as_aux_lemma => kernel_rfl) (fun _ _ _ h => h) (Or.inl ⟨by rfl, ?_⟩) ?_ ?_; rotate_left; (intro w'; go_simp; with_reducible rfl); rotate_left; (simp only [Act.put, List.setIfInBounds_toArray, List.set_cons_zero, List.set_cons_succ, i64_w, i32_w]; rfl)
                refine pure_ (i := 7) (N := some 101) (v := ?_) (a' := ?_) (lsb 42 255) rfl rfl (by as_aux_lemma => kernel_rfl) (fun _ _ _ h => h) (Or.inl ⟨by rfl, ?_⟩) ?_ ?_; rotate_left; (intro w'; go_simp; with_reducible rfl); rotate_left; (simp only [Act.put, List.setIfInBounds_toArray, List.set_cons_zero, List.set_cons_succ, i64_w, i32_w]; rfl)
                refine pure_ (i := 8) (N := some 102) (v := ?_) (a' := ?_) (lsb 42 511) rfl rfl (by as_aux_lemma => kernel_rfl) (fun _ _ _ h => h) (Or.inl ⟨by rfl, ?_⟩) ?_ ?_; rotate_left; (intro w'; go_simp; with_reducible rfl); rotate_left; (simp only [Act.put, List.setIfInBounds_toArray, List.set_cons_zero, List.set_cons_succ, i64_w, i32_w]; rfl)
                refine pure_ (i := 9) (N := some 103) (v := ?_) (a' := ?_) (lsb 42 1023) rfl rfl (by as_aux_lemma => kernel_rfl) (fun _ _ _ h => h) (Or.inl ⟨by rfl, ?_⟩) ?_ ?_; rotate_left; (intro w'; go_simp; with_reducible rfl); rotate_left; (simp only [Act.put, List.setIfInBounds_toArray, List.set_cons_zero, List.set_cons_succ, i64_w, i32_w]; rfl)
                refine take_ (i := 10) (N := some 104) (v := ?_) (a' := ?_) (lsb 42 2047) rfl rfl (by as_aux_lemma => kernel_rfl) (fun _ _ _ h => h) (Or.inl ⟨by rfl, ?_⟩) hHeld ?_ ?_; rotate_left; (rintro w' ⟨s0, s1⟩; go_simp; with_reducible rfl); rotate_left; (simp only [Act.put, List.setIfInBounds_toArray, List.set_cons_zero, List.set_cons_succ, i64_w, i32_w]; rfl)
                refine pure_ (i := 11) (N := some 105) (v := ?_) (a' := ?_) (lsb 42 4095) rfl rfl (by as_aux_lemma => kernel_rfl) (fun _ _ _ h => h) (Or.inl ⟨by rfl, ?_⟩) ?_ ?_; rotate_left; (intro w'; go_simp; with_reducible rfl); rotate_left; (simp only [Act.put, List.setIfInBounds_toArray, List.set_cons_zero, List.set_cons_succ, i64_w, i32_w]; rfl)
                refine pure_ (i := 12) (N := some 106) (v := ?_) (a' := ?_) (lsb 42 8191) rfl rfl (by as_aux_lemma => kernel_rfl) (fun _ _ _ h => h) (Or.inl ⟨by rfl, ?_⟩) ?_ ?_; rotate_left; (intro w'; go_simp; with_reducible rfl); rotate_left; (simp only [Act.put, List.setIfInBounds_toArray, List.set_cons_zero, List.set_cons_succ, i64_w, i32_w]; rfl)
                refine pure_ (i := 13) (N := some 107) (v := ?_) (a' := ?_) (lsb 42 16383) rfl rfl (by as_aux_lemma => kernel_rfl) (fun _ _ _ h => h) (Or.inl ⟨by rfl, ?_⟩) ?_ ?_; rotate_left; (intro w'; go_simp; with_reducible rfl); rotate_left; (simp only [Act.put, List.setIfInBounds_toArray, List.set_cons_zero, List.set_cons_succ, i64_w, i32_w]; rfl)
                refine pure_ (i := 14) (N := some 108) (v := ?_) (a' := ?_) (lsb 42 32767) rfl rfl (by as_aux_lemma => kernel_rfl) (fun _ _ _ h => h) (Or.inl ⟨by rfl, ?_⟩) ?_ ?_; rotate_left; (intro w'; go_simp; with_reducible rfl); rotate_left; (simp only [Act.put, List.setIfInBounds_toArray, List.set_cons_zero, List.set_cons_succ, i64_w, i32_w]; rfl)
                refine pure_ (i := 15) (N := some 109) (v := ?_) (a' := ?_) (lsb 42 65535) rfl rfl (by as_aux_lemma => kernel_rfl) (fun _ _ _ h => h) (Or.inl ⟨by rfl, ?_⟩) ?_ ?_; rotate_left; (intro w'; go_simp; with_reducible rfl); rotate_left; (simp only [Act.put, List.setIfInBounds_toArray, List.set_cons_zero, List.set_cons_succ, i64_w, i32_w]; rfl)
                refine pure_ (i := 16) (N := some 110) (v := ?_) (a' := ?_) (lsb 42 131071) rfl rfl (by as_aux_lemma => kernel_rfl) (fun _ _ _ h => h) (Or.inl ⟨by rfl, ?_⟩) ?_ ?_; rotate_left; (intro w'; go_simp; with_reducible rfl); rotate_left; (simp only [Act.put, List.setIfInBounds_toArray, List.set_cons_zero, List.set_cons_succ, i64_w, i32_w]; rfl)
                refine take_ (i := 17) (N := some 111) (v := ?_) (a' := ?_) (lsb 42 262143) rfl rfl (by as_aux_lemma => kernel_rfl) (fun _ _ _ h => h) (Or.inl ⟨by rfl, ?_⟩) hHeld ?_ ?_; rotate_left; (rintro w' ⟨s0, s1⟩; go_simp; with_reducible rfl); rotate_left; (simp only [Act.put, List.setIfInBounds_toArray, List.set_cons_zero, List.set_cons_succ, i64_w, i32_w]; rfl)
                refine pure_ (i := 18) (N := some 112) (v := ?_) (a' := ?_) (lsb 42 524287) rfl rfl (by as_aux_lemma => kernel_rfl) (fun _ _ _ h => h) (Or.inl ⟨by rfl, ?_⟩) ?_ ?_; rotate_left; (intro w'; go_simp; with_reducible rfl); rotate_left; (simp only [Act.put, List.setIfInBounds_toArray, List.set_cons_zero, List.set_cons_succ, i64_w, i32_w]; rfl)
                refine pure_ (i := 19) (N := some 113) (v := ?_) (a' := ?_) (lsb 42 1048575) rfl rfl (by as_aux_lemma => kernel_rfl) (fun _ _ _ h => h) (Or.inl ⟨by rfl, ?_⟩) ?_ ?_; rotate_left; (intro w'; go_simp; with_reducible rfl); rotate_left; (simp only [Act.put, List.setIfInBounds_toArray, List.set_cons_zero, List.set_cons_succ, i64_w, i32_w]; rfl)
                refine pure_ (i := 20) (N := some 114) (v := undef) (a' := ?_) (lsb 42 2097151) rfl rfl (by as_aux_lemma => kernel_rfl) (fun _ _ _ h => h) (Or.inr ⟨by rfl, rfl⟩) ?_ ?_; rotate_left; (simp only [Act.put, List.setIfInBounds_toArray, List.set_cons_zero, List.set_cons_succ, i64_w, i32_w]; rfl)
                refine pure_ (i := 21) (N := some 115) (v := undef) (a' := ?_) (lsb 42 4194303) rfl rfl (by as_aux_lemma => kernel_rfl) (fun _ _ _ h => h) (Or.inr ⟨by rfl, rfl⟩) ?_ ?_; rotate_left; (simp only [Act.put, List.setIfInBounds_toArray, List.set_cons_zero, List.set_cons_succ, i64_w, i32_w]; rfl)
                refine pure_ (i := 22) (N := some 116) (v := undef) (a' := ?_) (lsb 42 8388607) rfl rfl (by as_aux_lemma => kernel_rfl) (fun _ _ _ h => h) (Or.inr ⟨by rfl, rfl⟩) ?_ ?_; rotate_left; (simp only [Act.put, List.setIfInBounds_toArray, List.set_cons_zero, List.set_cons_succ, i64_w, i32_w]; rfl)
                refine pure_ (i := 23) (N := some 117) (v := undef) (a' := ?_) (lsb 42 16777215) rfl rfl (by as_aux_lemma => kernel_rfl) (fun _ _ _ h => h) (Or.inr ⟨by rfl, rfl⟩) ?_ ?_; rotate_left; (simp only [Act.put, List.setIfInBounds_toArray, List.set_cons_zero, List.set_cons_succ, i64_w, i32_w]; rfl)
                refine pure_ (i := 24) (N := some 118) (v := undef) (a' := ?_) (lsb 42 33554431) rfl rfl (by as_aux_lemma => kernel_rfl) (fun _ _ _ h => h) (Or.inr ⟨by rfl, rfl⟩) ?_ ?_; rotate_left; (simp only [Act.put, List.setIfInBounds_toArray, List.set_cons_zero, List.set_cons_succ, i64_w, i32_w]; rfl)
                refine pure_ (i := 25) (N := some 119) (v := undef) (a' := ?_) (lsb 42 67108863) rfl rfl (by as_aux_lemma => kernel_rfl) (fun _ _ _ h => h) (Or.inr ⟨by rfl, rfl⟩) ?_ ?_; rotate_left; (simp only [Act.put, List.setIfInBounds_toArray, List.set_cons_zero, List.set_cons_succ, i64_w, i32_w]; rfl)
                refine pure_ (i := 26) (N := some 120) (v := undef) (a' := ?_) (lsb 42 134217727) rfl rfl (by as_aux_lemma => kernel_rfl) (fun _ _ _ h => h) (Or.inr ⟨by rfl, rfl⟩) ?_ ?_; rotate_left; (simp only [Act.put, List.setIfInBounds_toArray, List.set_cons_zero, List.set_cons_succ, i64_w, i32_w]; rfl)
                refine pure_ (i := 27) (N := some 121) (v := undef) (a' := ?_) (lsb 42 268435455) rfl rfl (by as_aux_lemma => kernel_rfl) (fun _ _ _ h => h) (Or.inr ⟨by rfl, rfl⟩) ?_ ?_; rotate_left; (simp only [Act.put, List.setIfInBounds_toArray, List.set_cons_zero, List.set_cons_succ, i64_w, i32_w]; rfl)
                refine pure_ (i := 28) (N := some 122) (v := undef) (a' := ?_) (lsb 42 536870911) rfl rfl (by as_aux_lemma => kernel_rfl) (fun _ _ _ h => h) (Or.inr ⟨by rfl, rfl⟩) ?_ ?_; rotate_left; (simp only [Act.put, List.setIfInBounds_toArray, List.set_cons_zero, List.set_cons_succ, i64_w, i32_w]; rfl)
                refine pure_ (i := 29) (N := some 123) (v := undef) (a' := ?_) (lsb 42 1073741823) rfl rfl (by as_aux_lemma => kernel_rfl) (fun _ _ _ h => h) (Or.inr ⟨by rfl, rfl⟩) ?_ ?_; rotate_left; (simp only [Act.put, List.setIfInBounds_toArray, List.set_cons_zero, List.set_cons_succ, i64_w, i32_w]; rfl)
                refine pure_ (i := 30) (N := some 124) (v := undef) (a' := ?_) (lsb 42 2147483647) rfl rfl (by as_aux_lemma => kernel_rfl) (fun _ _ _ h => h) (Or.inr ⟨by rfl, rfl⟩) ?_ ?_; rotate_left; (simp only [Act.put, List.setIfInBounds_toArray, List.set_cons_zero, List.set_cons_succ, i64_w, i32_w]; rfl)
                refine pure_ (i := 31) (N := some 125) (v := undef) (a' := ?_) (lsb 42 4294967295) rfl rfl (by as_aux_lemma => kernel_rfl) (fun _ _ _ h => h) (Or.inr ⟨by rfl, rfl⟩) ?_ ?_; rotate_left; (simp only [Act.put, List.setIfInBounds_toArray, List.set_cons_zero, List.set_cons_succ, i64_w, i32_w]; rfl)
                refine pure_ (i := 32) (N := some 126) (v := undef) (a' := ?_) (lsb 42 8589934591) rfl rfl (by as_aux_lemma => kernel_rfl) (fun _ _ _ h => h) (Or.inr ⟨by rfl, rfl⟩) ?_ ?_; rotate_left; (simp only [Act.put, List.setIfInBounds_toArray, List.set_cons_zero, List.set_cons_succ, i64_w, i32_w]; rfl)
                refine pure_ (i := 33) (N := some 127) (v := undef) (a' := ?_) (lsb 42 17179869183) rfl rfl (by as_aux_lemma => kernel_rfl) (fun _ _ _ h => h) (Or.inr ⟨by rfl, rfl⟩) ?_ ?_; rotate_left; (simp only [Act.put, List.setIfInBounds_toArray, List.set_cons_zero, List.set_cons_succ, i64_w, i32_w]; rfl)
                refine pure_ (i := 34) (N := some 128) (v := undef) (a' := ?_) (lsb 42 34359738367) rfl rfl (by as_aux_lemma => kernel_rfl) (fun _ _ _ h => h) (Or.inr ⟨by rfl, rfl⟩) ?_ ?_; rotate_left; (simp only [Act.put, List.setIfInBounds_toArray, List.set_cons_zero, List.set_cons_succ, i64_w, i32_w]; rfl)
                refine pure_ (i := 35) (N := some 129) (v := undef) (a' := ?_) (lsb 42 68719476735) rfl rfl (by as_aux_lemma => kernel_rfl) (fun _ _ _ h => h) (Or.inr ⟨by rfl, rfl⟩) ?_ ?_; rotate_left; (simp only [Act.put, List.setIfInBounds_toArray, List.set_cons_zero, List.set_cons_succ, i64_w, i32_w]; rfl)
                refine pure_ (i := 36) (N := some 130) (v := undef) (a' := ?_) (lsb 42 137438953471) rfl rfl (by as_aux_lemma => kernel_rfl) (fun _ _ _ h => h) (Or.inr ⟨by rfl, rfl⟩) ?_ ?_; rotate_left; (simp only [Act.put, List.setIfInBounds_toArray, List.set_cons_zero, List.set_cons_succ, i64_w, i32_w]; rfl)
                refine pure_ (i := 37) (N := some 131) (v := undef) (a' := ?_) (lsb 42 274877906943) rfl rfl (by as_aux_lemma => kernel_rfl) (fun _ _ _ h => h) (Or.inr ⟨by rfl, rfl⟩) ?_ ?_; rotate_left; (simp only [Act.put, List.setIfInBounds_toArray, List.set_cons_zero, List.set_cons_succ, i64_w, i32_w]; rfl)
                refine pure_ (i := 38) (N := some 132) (v := undef) (a' := ?_) (lsb 42 549755813887) rfl rfl (by as_aux_lemma => kernel_rfl) (fun _ _ _ h => h) (Or.inr ⟨by rfl, rfl⟩) ?_ ?_; rotate_left; (simp only [Act.put, List.setIfInBounds_toArray, List.set_cons_zero, List.set_cons_succ, i64_w, i32_w]; rfl)
                refine pure_ (i := 39) (N := some 133) (v := undef) (a' := ?_) (lsb 42 1099511627775) rfl rfl (by as_aux_lemma => kernel_rfl) (fun _ _ _ h => h) (Or.inr ⟨by rfl, rfl⟩) ?_ ?_; rotate_left; (simp only [Act.put, List.setIfInBounds_toArray, List.set_cons_zero, List.set_cons_succ, i64_w, i32_w]; rfl)
                refine pure_ (i := 40) (N := some 134) (v := ?_) (a' := ?_) (lsb 42 2199023255551) rfl rfl (by as_aux_lemma => kernel_rfl) (fun _ _ _ h => h) (Or.inl ⟨by rfl, ?_⟩) ?_ ?_; rotate_left; (intro w'; go_simp; with_reducible rfl); rotate_left; (simp only [Act.put, List.setIfInBounds_toArray, List.set_cons_zero, List.set_cons_succ, i64_w, i32_w]; rfl)
                refine pure_ (i := 41) (N := some 135) (v := ?_) (a' := ?_) (lsb 42 4398046511103) rfl rfl (by as_aux_lemma => kernel_rfl) (fun _ _ _ h => h) (Or.inl ⟨by rfl, ?_⟩) ?_ ?_; rotate_left; (intro w'; go_simp; with_reducible rfl); rotate_left; (simp only [Act.put, List.setIfInBounds_toArray, List.set_cons_zero, List.set_cons_succ, i64_w, i32_w]; rfl)
                refine done_ (by kernel_rfl) ?_
                
                go_wp2_with fail
                go_roundw
                case rel => exact ⟨i + 1, by omega, by simp, lhid (below_then HLr.out HLr.out.size HT_42.out)⟩
                case measure => simp [intOf]; omega
              · have d1 : decide (mi < 0) = false := decide_eq_false hm
                have d2 : decide (mi ≥ 0) = true := decide_eq_true (by omega)
                have hx7 := HUN2.out.2 (by omega)
                have d3 : decide (x.f7 < 0) = false := decide_eq_false (by omega)
                have hws : IntKind.i64.wrap (mi - (un : Int)) = x.f7 := by rw [hx7.1]; exact IntWalk.i64_in _ (by omega)
                have hee : (x.f7 != x.f7) = false := bne_self_eq_false _
                clear hx7
                have hb := below_drew1 (Below.refl wr.heap.size wr)
                have HT_45 := lhid (below_then HTr.out HTr.out.size hb)
                have HRW_46 := lhid (Kd.R_below HRW.out hb)
                have HGW_47 := lhid (Kd.R_below HGW.out hb)
                clear HTr HRW HGW hb
                refine start_ (n := 42) (S := fun w' => w'.cell? ⟨mb, i, none⟩ = some (.int .i64 mi) ∧ w'.cell? ⟨gb, i * 9 + 7, none⟩ = some (.int .i64 x.f7)) (ds := []) (lsb 42 0) (by kernel_rfl) rfl (by kernel_rfl) ⟨((int_cell HRW_46.out i (by omega)).trans (by rw [HMI.out])), ((row_cells HGW_47.out i hlt).2.2.2.2.2.2.2.1.trans (by rw [HXG.out]))⟩ (fun hHeld => ?_)
                generalize wr.drew = w71 at HT_45 HRW_46 HGW_47 hHeld ⊢
                refine pure_ (i := 0) (N := some 94) (v := ?_) (a' := ?_) (lsb 42 1) rfl rfl (by as_aux_lemma => kernel_rfl) (fun _ _ _ h => h) (Or.inl ⟨by rfl, ?_⟩) ?_ ?_; rotate_left; (intro w'; go_simp; with_reducible rfl); rotate_left; (simp only [Act.put, List.setIfInBounds_toArray, List.set_cons_zero, List.set_cons_succ, i64_w, i32_w]; rfl)
                refine pure_ (i := 1) (N := some 95) (v := ?_) (a' := ?_) (lsb 42 3) rfl rfl (by as_aux_lemma => kernel_rfl) (fun _ _ _ h => h) (Or.inl ⟨by rfl, ?_⟩) ?_ ?_; rotate_left; (intro w'; go_simp; with_reducible rfl); rotate_left; (simp only [Act.put, List.setIfInBounds_toArray, List.set_cons_zero, List.set_cons_succ, i64_w, i32_w]; rfl)
                refine pure_ (i := 2) (N := some 96) (v := ?_) (a' := ?_) (lsb 42 7) rfl rfl (by as_aux_lemma => kernel_rfl) (fun _ _ _ h => h) (Or.inl ⟨by rfl, ?_⟩) ?_ ?_; rotate_left; (intro w'; go_simp; with_reducible rfl); rotate_left; (simp only [Act.put, List.setIfInBounds_toArray, List.set_cons_zero, List.set_cons_succ, i64_w, i32_w]; rfl)
                refine take_ (i := 3) (N := some 97) (v := ?_) (a' := ?_) (lsb 42 15) rfl rfl (by as_aux_lemma => kernel_rfl) (fun _ _ _ h => h) (Or.inl ⟨by rfl, ?_⟩) hHeld ?_ ?_; rotate_left; (rintro w' ⟨s0, s1⟩; go_simp; with_reducible rfl); rotate_left; (simp only [Act.put, List.setIfInBounds_toArray, List.set_cons_zero, List.set_cons_succ, i64_w, i32_w]; rfl)
                refine pure_ (i := 4) (N := some 98) (v := ?_) (a' := ?_) (lsb 42 31) rfl rfl (by as_aux_lemma => kernel_rfl) (fun _ _ _ h => h) (Or.inl ⟨by rfl, ?_⟩) ?_ ?_; rotate_left; (intro w'; go_simp; with_reducible rfl); rotate_left; (simp only [Act.put, List.setIfInBounds_toArray, List.set_cons_zero, List.set_cons_succ, i64_w, i32_w]; rfl)
                refine pure_ (i := 5) (N := some 99) (v := ?_) (a' := ?_) (lsb 42 63) rfl rfl (by as_aux_lemma => kernel_rfl) (fun _ _ _ h => h) (Or.inl ⟨by rfl, ?_⟩) ?_ ?_; rotate_left; (intro w'; go_simp; with_reducible rfl); rotate_left; (simp only [Act.put, List.setIfInBounds_toArray, List.set_cons_zero, List.set_cons_succ, i64_w, i32_w]; rfl)
                refine pure_ (i := 6) (N := some 100) (v := undef) (a' := ?_) (lsb 42 127) rfl rfl (by as_aux_lemma => kernel_rfl) (fun _ _ _ h => h) (Or.inr ⟨by rfl, rfl⟩) ?_ ?_; rotate_left; (simp only [Act.put, List.setIfInBounds_toArray, List.set_cons_zero, List.set_cons_succ, i64_w, i32_w]; rfl)
                refine pure_ (i := 7) (N := some 101) (v := undef) (a' := ?_) (lsb 42 255) rfl rfl (by as_aux_lemma => kernel_rfl) (fun _ _ _ h => h) (Or.inr ⟨by rfl, rfl⟩) ?_ ?_; rotate_left; (simp only [Act.put, List.setIfInBounds_toArray, List.set_cons_zero, List.set_cons_succ, i64_w, i32_w]; rfl)
                refine pure_ (i := 8) (N := some 102) (v := undef) (a' := ?_) (lsb 42 511) rfl rfl (by as_aux_lemma => kernel_rfl) (fun _ _ _ h => h) (Or.inr ⟨by rfl, rfl⟩) ?_ ?_; rotate_left; (simp only [Act.put, List.setIfInBounds_toArray, List.set_cons_zero, List.set_cons_succ, i64_w, i32_w]; rfl)
                refine pure_ (i := 9) (N := some 103) (v := undef) (a' := ?_) (lsb 42 1023) rfl rfl (by as_aux_lemma => kernel_rfl) (fun _ _ _ h => h) (Or.inr ⟨by rfl, rfl⟩) ?_ ?_; rotate_left; (simp only [Act.put, List.setIfInBounds_toArray, List.set_cons_zero, List.set_cons_succ, i64_w, i32_w]; rfl)
                refine pure_ (i := 10) (N := some 104) (v := undef) (a' := ?_) (lsb 42 2047) rfl rfl (by as_aux_lemma => kernel_rfl) (fun _ _ _ h => h) (Or.inr ⟨by rfl, rfl⟩) ?_ ?_; rotate_left; (simp only [Act.put, List.setIfInBounds_toArray, List.set_cons_zero, List.set_cons_succ, i64_w, i32_w]; rfl)
                refine pure_ (i := 11) (N := some 105) (v := undef) (a' := ?_) (lsb 42 4095) rfl rfl (by as_aux_lemma => kernel_rfl) (fun _ _ _ h => h) (Or.inr ⟨by rfl, rfl⟩) ?_ ?_; rotate_left; (simp only [Act.put, List.setIfInBounds_toArray, List.set_cons_zero, List.set_cons_succ, i64_w, i32_w]; rfl)
                refine pure_ (i := 12) (N := some 106) (v := ?_) (a' := ?_) (lsb 42 8191) rfl rfl (by as_aux_lemma => kernel_rfl) (fun _ _ _ h => h) (Or.inl ⟨by rfl, ?_⟩) ?_ ?_; rotate_left; (intro w'; go_simp; with_reducible rfl); rotate_left; (simp only [Act.put, List.setIfInBounds_toArray, List.set_cons_zero, List.set_cons_succ, i64_w, i32_w]; rfl)
                refine pure_ (i := 13) (N := some 107) (v := ?_) (a' := ?_) (lsb 42 16383) rfl rfl (by as_aux_lemma => kernel_rfl) (fun _ _ _ h => h) (Or.inl ⟨by rfl, ?_⟩) ?_ ?_; rotate_left; (intro w'; go_simp; with_reducible rfl); rotate_left; (simp only [Act.put, List.setIfInBounds_toArray, List.set_cons_zero, List.set_cons_succ, i64_w, i32_w]; rfl)
                refine pure_ (i := 14) (N := some 108) (v := ?_) (a' := ?_) (lsb 42 32767) rfl rfl (by as_aux_lemma => kernel_rfl) (fun _ _ _ h => h) (Or.inl ⟨by rfl, ?_⟩) ?_ ?_; rotate_left; (intro w'; go_simp; with_reducible rfl); rotate_left; (simp only [Act.put, List.setIfInBounds_toArray, List.set_cons_zero, List.set_cons_succ, i64_w, i32_w]; rfl)
                refine pure_ (i := 15) (N := some 109) (v := ?_) (a' := ?_) (lsb 42 65535) rfl rfl (by as_aux_lemma => kernel_rfl) (fun _ _ _ h => h) (Or.inl ⟨by rfl, ?_⟩) ?_ ?_; rotate_left; (intro w'; go_simp; with_reducible rfl); rotate_left; (simp only [Act.put, List.setIfInBounds_toArray, List.set_cons_zero, List.set_cons_succ, i64_w, i32_w]; rfl)
                refine pure_ (i := 16) (N := some 110) (v := ?_) (a' := ?_) (lsb 42 131071) rfl rfl (by as_aux_lemma => kernel_rfl) (fun _ _ _ h => h) (Or.inl ⟨by rfl, ?_⟩) ?_ ?_; rotate_left; (intro w'; go_simp; with_reducible rfl); rotate_left; (simp only [Act.put, List.setIfInBounds_toArray, List.set_cons_zero, List.set_cons_succ, i64_w, i32_w]; rfl)
                refine take_ (i := 17) (N := some 111) (v := ?_) (a' := ?_) (lsb 42 262143) rfl rfl (by as_aux_lemma => kernel_rfl) (fun _ _ _ h => h) (Or.inl ⟨by rfl, ?_⟩) hHeld ?_ ?_; rotate_left; (rintro w' ⟨s0, s1⟩; go_simp; with_reducible rfl); rotate_left; (simp only [Act.put, List.setIfInBounds_toArray, List.set_cons_zero, List.set_cons_succ, i64_w, i32_w]; rfl)
                refine pure_ (i := 18) (N := some 112) (v := ?_) (a' := ?_) (lsb 42 524287) rfl rfl (by as_aux_lemma => kernel_rfl) (fun _ _ _ h => h) (Or.inl ⟨by rfl, ?_⟩) ?_ ?_; rotate_left; (intro w'; go_simp; with_reducible rfl); rotate_left; (simp only [Act.put, List.setIfInBounds_toArray, List.set_cons_zero, List.set_cons_succ, i64_w, i32_w]; rfl)
                refine pure_ (i := 19) (N := some 113) (v := ?_) (a' := ?_) (lsb 42 1048575) rfl rfl (by as_aux_lemma => kernel_rfl) (fun _ _ _ h => h) (Or.inl ⟨by rfl, ?_⟩) ?_ ?_; rotate_left; (intro w'; go_simp; with_reducible rfl); rotate_left; (simp only [Act.put, List.setIfInBounds_toArray, List.set_cons_zero, List.set_cons_succ, i64_w, i32_w]; rfl)
                refine pure_ (i := 20) (N := some 114) (v := ?_) (a' := ?_) (lsb 42 2097151) rfl rfl (by as_aux_lemma => kernel_rfl) (fun _ _ _ h => h) (Or.inl ⟨by rfl, ?_⟩) ?_ ?_; rotate_left; (intro w'; go_simp; with_reducible rfl); rotate_left; (simp only [Act.put, List.setIfInBounds_toArray, List.set_cons_zero, List.set_cons_succ, i64_w, i32_w]; rfl)
                refine pure_ (i := 21) (N := some 115) (v := ?_) (a' := ?_) (lsb 42 4194303) rfl rfl (by as_aux_lemma => kernel_rfl) (fun _ _ _ h => h) (Or.inl ⟨by rfl, ?_⟩) ?_ ?_; rotate_left; (intro w'; go_simp; with_reducible rfl); rotate_left; (simp only [Act.put, List.setIfInBounds_toArray, List.set_cons_zero, List.set_cons_succ, i64_w, i32_w]; rfl)
                refine pure_ (i := 22) (N := some 116) (v := ?_) (a' := ?_) (lsb 42 8388607) rfl rfl (by as_aux_lemma => kernel_rfl) (fun _ _ _ h => h) (Or.inl ⟨by rfl, ?_⟩) ?_ ?_; rotate_left; (intro w'; go_simp; with_reducible rfl); rotate_left; (simp only [Act.put, List.setIfInBounds_toArray, List.set_cons_zero, List.set_cons_succ, i64_w, i32_w]; rfl)
                refine pure_ (i := 23) (N := some 117) (v := ?_) (a' := ?_) (lsb 42 16777215) rfl rfl (by as_aux_lemma => kernel_rfl) (fun _ _ _ h => h) (Or.inl ⟨by rfl, ?_⟩) ?_ ?_; rotate_left; (intro w'; go_simp; with_reducible rfl); rotate_left; (simp only [Act.put, List.setIfInBounds_toArray, List.set_cons_zero, List.set_cons_succ, i64_w, i32_w]; rfl)
                refine pure_ (i := 25) (N := some 119) (v := ?_) (a' := ?_) (lsb 42 50331647) rfl rfl (by as_aux_lemma => kernel_rfl) (fun _ _ _ h => h) (Or.inl ⟨by rfl, ?_⟩) ?_ ?_; rotate_left; (intro w'; go_simp; with_reducible rfl); rotate_left; (simp only [Act.put, List.setIfInBounds_toArray, List.set_cons_zero, List.set_cons_succ, i64_w, i32_w]; rfl)
                refine pure_ (i := 26) (N := some 120) (v := ?_) (a' := ?_) (lsb 42 117440511) rfl rfl (by as_aux_lemma => kernel_rfl) (fun _ _ _ h => h) (Or.inl ⟨by rfl, ?_⟩) ?_ ?_; rotate_left; (intro w'; go_simp; with_reducible rfl); rotate_left; (simp only [Act.put, List.setIfInBounds_toArray, List.set_cons_zero, List.set_cons_succ, i64_w, i32_w]; rfl)
                refine pure_ (i := 27) (N := some 121) (v := ?_) (a' := ?_) (lsb 42 251658239) rfl rfl (by as_aux_lemma => kernel_rfl) (fun _ _ _ h => h) (Or.inl ⟨by rfl, ?_⟩) ?_ ?_; rotate_left; (intro w'; go_simp; with_reducible rfl); rotate_left; (simp only [Act.put, List.setIfInBounds_toArray, List.set_cons_zero, List.set_cons_succ, i64_w, i32_w]; rfl)
                refine pure_ (i := 29) (N := some 123) (v := ?_) (a' := ?_) (lsb 42 788529151) rfl rfl (by as_aux_lemma => kernel_rfl) (fun _ _ _ h => h) (Or.inl ⟨by rfl, ?_⟩) ?_ ?_; rotate_left; (intro w'; go_simp; with_reducible rfl); rotate_left; (simp only [Act.put, List.setIfInBounds_toArray, List.set_cons_zero, List.set_cons_succ, i64_w, i32_w]; rfl)
                refine take_ (i := 24) (N := some 118) (v := ?_) (a' := ?_) (lsb 42 805306367) rfl rfl (by as_aux_lemma => kernel_rfl) (fun _ _ _ h => h) (Or.inl ⟨by rfl, ?_⟩) hHeld ?_ ?_; rotate_left; (rintro w' ⟨s0, s1⟩; go_simp; with_reducible rfl); rotate_left; (simp only [Act.put, List.setIfInBounds_toArray, List.set_cons_zero, List.set_cons_succ, i64_w, i32_w]; rfl)
                refine take_ (i := 28) (N := some 122) (v := ?_) (a' := ?_) (lsb 42 1073741823) rfl rfl (by as_aux_lemma => kernel_rfl) (fun _ _ _ h => h) (Or.inl ⟨by rfl, ?_⟩) hHeld ?_ ?_; rotate_left; (rintro w' ⟨s0, s1⟩; go_simp; with_reducible rfl); rotate_left; (simp only [Act.put, List.setIfInBounds_toArray, List.set_cons_zero, List.set_cons_succ, i64_w, i32_w]; rfl)
                refine pure_ (i := 30) (N := some 124) (v := ?_) (a' := ?_) (lsb 42 2147483647) rfl rfl (by as_aux_lemma => kernel_rfl) (fun _ _ _ h => h) (Or.inl ⟨by rfl, ?_⟩) ?_ ?_; rotate_left; (intro w'; go_simp; with_reducible rfl); rotate_left; (simp only [Act.put, List.setIfInBounds_toArray, List.set_cons_zero, List.set_cons_succ, i64_w, i32_w]; rfl)
                refine pure_ (i := 31) (N := some 125) (v := ?_) (a' := ?_) (lsb 42 4294967295) rfl rfl (by as_aux_lemma => kernel_rfl) (fun _ _ _ h => h) (Or.inl ⟨by rfl, ?_⟩) ?_ ?_; rotate_left; (intro w'; go_simp; with_reducible rfl); rotate_left; (simp only [Act.put, List.setIfInBounds_toArray, List.set_cons_zero, List.set_cons_succ, i64_w, i32_w]; rfl)
                refine pure_ (i := 32) (N := some 126) (v := ?_) (a' := ?_) (lsb 42 8589934591) rfl rfl (by as_aux_lemma => kernel_rfl) (fun _ _ _ h => h) (Or.inl ⟨by rfl, ?_⟩) ?_ ?_; rotate_left; (intro w'; go_simp; with_reducible rfl); rotate_left; (simp only [Act.put, List.setIfInBounds_toArray, List.set_cons_zero, List.set_cons_succ, i64_w, i32_w]; rfl)
                refine pure_ (i := 33) (N := some 127) (v := ?_) (a' := ?_) (lsb 42 17179869183) rfl rfl (by as_aux_lemma => kernel_rfl) (fun _ _ _ h => h) (Or.inl ⟨by rfl, ?_⟩) ?_ ?_; rotate_left; (intro w'; go_simp; with_reducible rfl); rotate_left; (simp only [Act.put, List.setIfInBounds_toArray, List.set_cons_zero, List.set_cons_succ, i64_w, i32_w]; rfl)
                refine pure_ (i := 34) (N := some 128) (v := ?_) (a' := ?_) (lsb 42 34359738367) rfl rfl (by as_aux_lemma => kernel_rfl) (fun _ _ _ h => h) (Or.inl ⟨by rfl, ?_⟩) ?_ ?_; rotate_left; (intro w'; go_simp; with_reducible rfl); rotate_left; (simp only [Act.put, List.setIfInBounds_toArray, List.set_cons_zero, List.set_cons_succ, i64_w, i32_w]; rfl)
                refine pure_ (i := 35) (N := some 129) (v := ?_) (a' := ?_) (lsb 42 68719476735) rfl rfl (by as_aux_lemma => kernel_rfl) (fun _ _ _ h => h) (Or.inl ⟨by rfl, ?_⟩) ?_ ?_; rotate_left; (intro w'; go_simp; with_reducible rfl); rotate_left; (simp only [Act.put, List.setIfInBounds_toArray, List.set_cons_zero, List.set_cons_succ, i64_w, i32_w]; rfl)
                refine pure_ (i := 36) (N := some 130) (v := ?_) (a' := ?_) (lsb 42 137438953471) rfl rfl (by as_aux_lemma => kernel_rfl) (fun _ _ _ h => h) (Or.inl ⟨by rfl, ?_⟩) ?_ ?_; rotate_left; (intro w'; go_simp; with_reducible rfl); rotate_left; (simp only [Act.put, List.setIfInBounds_toArray, List.set_cons_zero, List.set_cons_succ, i64_w, i32_w]; rfl)
                refine take_ (i := 37) (N := some 131) (v := ?_) (a' := ?_) (lsb 42 274877906943) rfl rfl (by as_aux_lemma => kernel_rfl) (fun _ _ _ h => h) (Or.inl ⟨by rfl, ?_⟩) hHeld ?_ ?_; rotate_left; (rintro w' ⟨s0, s1⟩; go_simp; with_reducible rfl); rotate_left; (simp only [Act.put, List.setIfInBounds_toArray, List.set_cons_zero, List.set_cons_succ, i64_w, i32_w]; rfl)
                refine pure_ (i := 38) (N := some 132) (v := ?_) (a' := ?_) (lsb 42 549755813887) rfl rfl (by as_aux_lemma => kernel_rfl) (fun _ _ _ h => h) (Or.inl ⟨by rfl, ?_⟩) ?_ ?_; rotate_left; (intro w'; go_simp; with_reducible rfl); rotate_left; (simp only [Act.put, List.setIfInBounds_toArray, List.set_cons_zero, List.set_cons_succ, i64_w, i32_w]; rfl)
                refine pure_ (i := 39) (N := some 133) (v := ?_) (a' := ?_) (lsb 42 1099511627775) rfl rfl (by as_aux_lemma => kernel_rfl) (fun _ _ _ h => h) (Or.inl ⟨by rfl, ?_⟩) ?_ ?_; rotate_left; (intro w'; go_simp; with_reducible rfl); rotate_left; (simp only [Act.put, List.setIfInBounds_toArray, List.set_cons_zero, List.set_cons_succ, i64_w, i32_w]; rfl)
                refine pure_ (i := 40) (N := some 134) (v := ?_) (a' := ?_) (lsb 42 2199023255551) rfl rfl (by as_aux_lemma => kernel_rfl) (fun _ _ _ h => h) (Or.inl ⟨by rfl, ?_⟩) ?_ ?_; rotate_left; (intro w'; go_simp; with_reducible rfl); rotate_left; (simp only [Act.put, List.setIfInBounds_toArray, List.set_cons_zero, List.set_cons_succ, i64_w, i32_w]; rfl)
                refine pure_ (i := 41) (N := some 135) (v := ?_) (a' := ?_) (lsb 42 4398046511103) rfl rfl (by as_aux_lemma => kernel_rfl) (fun _ _ _ h => h) (Or.inl ⟨by rfl, ?_⟩) ?_ ?_; rotate_left; (intro w'; go_simp; with_reducible rfl); rotate_left; (simp only [Act.put, List.setIfInBounds_toArray, List.set_cons_zero, List.set_cons_succ, i64_w, i32_w]; rfl)
                refine done_ (by kernel_rfl) ?_
                
                go_wp2_with fail
                go_roundw
                case rel => exact ⟨i + 1, by omega, by simp, lhid (below_then HLr.out HLr.out.size HT_45.out)⟩
                case measure => simp [intOf]; omega
        · have hie : i = G.length := by omega
          subst hie
          have hlt2 : ¬ (G.length : Int) < (G.length : Int) := by omega
          have HBw := lhid (below_then HWB.out HWB.out.size (below_then HB_15.out HB_15.out.size HLr.out))
          go_wp2_with fail
          with_reducible refine (alive_calls wd).mono ?_
          rintro e w961 ⟨rfl, hb⟩
          have HB_48 := lhid (below_then HBw.out HBw.out.size hb)
          clear HBw hb
          go_wp2_with fail
          go_ret
          exact ⟨rfl, HB_48.out⟩
theorem custodyUses_pure : kimberlitelaw06_CustodyUses.Pure2 := fun _ h0 => ⟨0, h0, trivial⟩
end Go.Proofs.Ytfnlghjkjmppdaa.PC
