/- ProofComplete: every proof that Include or Extend returns is accepted. The law's function walked by hand. -/
import Derived.Test.YtacjdoekgmmfoaaPLxPureProofComplete
import Derived.Test.YtacjdoekgmmfoaaLCv
namespace Go.Proofs.Ytacjdoekgmmfoaa.PL
open Go.RowKit Go.Proofs.YtacjdoekgmmfoaaW.PrintWords Go.Proofs.YtacjdoekgmmfoaaW.PrintLast Go.Proofs.YtacjdoekgmmfoaaW.PrintMore Go.Proofs.Ytacjdoekgmmfoaa.Opn
set_option linter.unusedVariables false
set_option linter.unusedSimpArgs false
set_option maxHeartbeats 6400000 in
set_option maxRecDepth 100000 in
theorem kimberlitelaw07_ProofComplete.calls (k : Nat) (A0 : Option Addr) (c0 : Nat) (l0 : List (List Int)) (a1 : Int) (a2 : Int) (w : World) (hr0 : Kd.C (Kd.slice 5 (Kd.int .u8)) w A0 l0.length l0) (hc0 : l0.length ≤ c0) (h : kimberlitelaw07_ProofComplete.ok l0 a1 a2) :
    Calls Try.prog 15 #[.slice A0 l0.length c0, .int .i64 a1, .int .i64 a2] w fun e w' => e = .returned (.bool true) ∧ Below w.heap.size w w' := by
  clear h
  have HR := chid hr0
  have HC := chid hc0
  clear hr0 hc0
  obtain ⟨t, ht, hft⟩ := few_ev l0
  obtain ⟨k1, hk1⟩ := Ev.rounds ht
  have HK1 := chid hk1
  have HFT := chid hft
  clear ht hk1 hft
  go_enter Try.func15, Try.ntmps15
  have HB_10 := chid (Below.refl w.heap.size w)
  go_wp2_with fail
  with_reducible refine (kimberlitelaw07_few.calls k1 A0 c0 l0 t w HR.out HC.out HK1.out).mono ?_
  rintro e w1 ⟨rfl, nd, hq⟩
  have hb := pw_below_drewN (Below.refl w.heap.size w) nd
  rw [← hq] at hb
  clear hq
  have HB_17 := chid (below_then HB_10.out HB_10.out.size hb)
  clear HB_10 hb
  cases t
  · go_wp2_with fail
    with_reducible refine (kimberlitelaw07_alive.calls 0 true _ rfl).mono ?_
    rintro e w2 ⟨rfl, hb⟩
    have HB_23 := chid (below_then HB_17.out HB_17.out.size hb)
    clear HB_17 hb
    go_wp2_with fail
    go_ret
    exact ⟨rfl, HB_23.out⟩
  · obtain ⟨hl1, hl2⟩ := HFT.out rfl
    have HL1 := chid hl1
    have HL2 := chid hl2
    clear hl1 hl2 HFT
    obtain ⟨k2, hk2⟩ := Ev.rounds (ev_Root l0 (by have := HL1.out; omega))
    have HK2 := chid hk2
    clear hk2
    go_wp2_with fail
    with_reducible refine (proof_Root.calls k2 A0 c0 l0 (rootS l0) (listE l0) w1 (Kd.C_below HR.out HB_17.out) HC.out HK2.out).mono ?_
    rintro e w2 ⟨rfl, hb⟩
    have HB_38 := chid (below_then HB_17.out HB_17.out.size hb)
    clear HB_17 hb
    by_cases he : listE l0 = 0
    · have HE := chid he
      rw [he]
      clear he
      obtain ⟨k3, hk3⟩ := Ev.rounds (ev_Include l0 a1)
      have HK3 := chid hk3
      clear hk3
      go_wp2_with fail
      with_reducible refine (proof_Include.calls k3 A0 c0 l0 a1 (incS l0 a1).1 (incS l0 a1).2 w2 (Kd.C_below HR.out HB_38.out) HC.out HK3.out).mono ?_
      rintro e w3 ⟨v3, rfl, hS, hb⟩
      have HS_50 := chid (Kd.R_lower hS HB_38.out.size)
      clear hS
      have HB_52 := chid (below_then HB_38.out HB_38.out.size hb)
      clear HB_38 hb
      obtain ⟨A3, c3, rfl⟩ := Kd.R_slice HS_50.out
      by_cases hi : 0 ≤ a1 ∧ a1 < l0.length
      · obtain ⟨i, rfl, hi2⟩ : ∃ i : Nat, a1 = (i : Int) ∧ i < l0.length := ⟨a1.toNat, by omega, by omega⟩
        have HI := chid hi2
        clear hi hi2
        have e3 : incS l0 (i : Int) = (wayS (l0.map leafS) i, 0) := by unfold incS; rw [if_pos HE.out, if_pos (by have := HI.out; omega)]; rfl
        rw [e3] at HS_50 ⊢
        clear e3 HK3
        have hN := way_small (l0.map leafS) i (by rw [List.length_map]; have := HL1.out; omega)
        have HN := chid hN
        clear hN
        obtain ⟨_, hcs, hCS⟩ := Kd.R_reads' HS_50.out
        have HCS := chid hCS
        have HHS := chid hcs
        clear hCS hcs
        obtain ⟨ad, Ai, ci, ei, hx, hl, hci⟩ := at_L1 (Kd.C_below HR.out HB_52.out) (i : Int) (by omega) (by have := HI.out; omega)
        cases ei
        rw [rdL_at l0 i HI.out] at hx hl hci
        rw [Int.toNat_natCast] at hx
        have HCI := chid hci
        have HLI := chid hl
        clear hci hl
        have hir : (i : Int) < (l0.length : Int) := by have := HI.out; omega
        have hv := incl_true l0 HE.out i HI.out
        have HV2 := chid hv.2
        have HV1 := chid hv.1
        clear hv
        have hsz : ∀ s ∈ wayS (l0.map leafS) i, okH s.f0 := way_ok _ _ i (Nat.le_refl _) (leafs_ok l0)
        have hel : l0[i].length < 1000000 := by have := HL2.out _ (List.getElem_mem HI.out); omega
        obtain ⟨k7, hk7⟩ := Ev.rounds (ev_Included l0[i] (i : Int) (l0.length : Int) (rootS l0) _ hel (by have := HN.out; omega) hsz)
        replace hk7 := hk7.trans (congrArg some HV1.out)
        obtain ⟨k8, hk8⟩ := Ev.rounds (ev_Follow l0[i] _ hel (by have := HN.out; omega) hsz)
        replace hk8 := hk8.trans (congrArg some HV2.out)
        have HK7 := chid hk7
        have HK8 := chid hk8
        clear hk7 hk8 hsz hel HV1 HV2
        go_wp2_with fail
        with_reducible refine (proof_Included.calls k7 Ai ci l0[i] (i : Int) (l0.length : Int) (rootS l0) A3 c3 _ true 0 w3 HCI.out HLI.out HCS.out HHS.out HK7.out).mono ?_
        rintro e w4 ⟨rfl, hb⟩
        have HB_93 := chid (below_then HB_52.out HB_52.out.size hb)
        have HS_94 := chid (Kd.R_below HS_50.out hb)
        have HCI_95 := chid (Kd.C_below HCI.out hb)
        have HCS_96 := chid (Kd.C_below HCS.out hb)
        have HX2_97 := pw_cell_below hb hx
        clear HB_52 HS_50 HCI HCS hx hb
        go_wp2_with fail
        with_reducible refine (proof_Follow.calls k8 Ai ci l0[i] A3 c3 _ (rootS l0) w4 HCI_95.out HLI.out HCS_96.out HHS.out HK8.out).mono ?_
        rintro e w5 ⟨rfl, hb⟩
        have HB_102 := chid (below_then HB_93.out HB_93.out.size hb)
        have HS_103 := chid (Kd.R_below HS_94.out hb)
        have HCI_104 := chid (Kd.C_below HCI_95.out hb)
        have HCS_105 := chid (Kd.C_below HCS_96.out hb)
        have HX2_106 := pw_cell_below hb HX2_97
        clear HB_93 HS_94 HCI_95 HCS_96 HX2_97 hb
        have hi3 := HI.out
        obtain ⟨k4, hk4⟩ := Ev.rounds (ev_Extend l0 a2)
        have HK4 := chid hk4
        clear hk4
        go_wp2_with fail
        with_reducible refine (proof_Extend.calls k4 _ c0 l0 a2 (exS l0 a2).1 (exS l0 a2).2 w5 (Kd.C_below HR.out HB_102.out) HC.out HK4.out).mono ?_
        rintro e w6 ⟨v4, rfl, hX, hb⟩
        have HX_115 := chid (Kd.R_lower hX HB_102.out.size)
        clear hX
        have HB_117 := chid (below_then HB_102.out HB_102.out.size hb)
        have HS_118 := chid (Kd.R_below HS_103.out hb)
        have HCI_119 := chid (Kd.C_below HCI_104.out hb)
        have HCS_120 := chid (Kd.C_below HCS_105.out hb)
        have HX2_121 := pw_cell_below hb HX2_106
        clear HB_102 HS_103 HCI_104 HCS_105 HX2_106 hb
        obtain ⟨A4, c4, rfl⟩ := Kd.R_slice HX_115.out
        by_cases hm : 1 ≤ a2 ∧ a2 ≤ l0.length
        · obtain ⟨hm1, hm2⟩ := hm
          have HM1 := chid hm1
          have HM2 := chid hm2
          have e4 : exS l0 a2 = (extS (l0.map leafS) a2.toNat true, 0) := by unfold exS; rw [if_pos HE.out, if_pos ⟨hm1, hm2⟩]
          rw [e4] at HX_115 ⊢
          clear e4 HK4
          obtain ⟨i0, hi0, _, _, _⟩ := info_parts info22
          have hcut := cut_to (P := Try.prog) 39 22 .i64 Try.underlying39 hi0 (some ad) l0.length c0 a2 (by omega) (by omega) HC.out
          have hC4 := Kd.C_take (m := a2.toNat) HR.out (by omega)
          obtain ⟨y, hy⟩ : ∃ y, y = l0.take a2.toNat := ⟨_, rfl⟩
          have hyl : y.length = a2.toNat := by rw [hy, List.length_take]; omega
          rw [← hyl] at hcut
          rw [← hy] at hC4
          have HC4 := chid hC4
          have HY := chid hy
          have hcy := HC.out
          have HCY := chid (show y.length ≤ c0 by omega)
          have HYL := chid hyl
          clear hcy hi0 hC4 hy hyl
          have hty := ext_true l0 HE.out a2.toNat (by omega) (by omega)
          rw [← HY.out, show ((a2.toNat : Nat) : Int) = a2 by omega] at hty
          obtain ⟨k6, hk6⟩ := Ev.rounds hty
          have HK6 := chid hk6
          clear hty hk6 hm1 hm2
          have hley : listE y = 0 := by rw [HY.out]; have hz := listE_zero.1 HE.out; exact listE_zero.2 ⟨by rw [List.length_take]; omega, fun x hx => hz.2 x (List.mem_of_mem_take hx)⟩
          obtain ⟨k5, hk5⟩ := Ev.rounds (ev_Root y (by have := HL1.out; have := HYL.out; have := HM2.out; omega))
          rw [hley] at hk5
          have HK5 := chid hk5
          clear hk5 hley
          have hd1 := eq_true HM1.out
          have hd2 := eq_true HM2.out
          have hd3 := eq_true (show (0 : Int) ≤ a2 by have := HM1.out; omega)
          have hd4 := eq_true (show a2 ≤ (c0 : Int) by have := HM2.out; have := HC.out; omega)
          go_wp2_with fail
          with_reducible refine (proof_Root.calls k5 _ c0 y (rootS y) 0 w6 (Kd.C_below HC4.out HB_117.out) HCY.out HK5.out).mono ?_
          rintro e w7 ⟨rfl, hb⟩
          have HB_161 := chid (below_then HB_117.out HB_117.out.size hb)
          have HS_162 := chid (Kd.R_below HS_118.out hb)
          have HCI_163 := chid (Kd.C_below HCI_119.out hb)
          have HCS_164 := chid (Kd.C_below HCS_120.out hb)
          have HX2_165 := pw_cell_below hb HX2_121
          have HX_166 := chid (Kd.R_below HX_115.out hb)
          clear HB_117 HS_118 HCI_119 HCS_120 HX2_121 HX_115 hb
          obtain ⟨_, hcx, hCX⟩ := Kd.R_reads' HX_166.out
          have HCX := chid hCX
          have HHX := chid hcx
          clear hCX hcx
          go_wp2_with fail
          with_reducible refine (proof_Extended.calls k6 a2 _ (rootS y) (rootS l0) A4 c4 _ true 0 w7 HCX.out HHX.out HK6.out).mono ?_
          rintro e w8 ⟨rfl, hb⟩
          have HB_175 := chid (below_then HB_161.out HB_161.out.size hb)
          have HS_176 := chid (Kd.R_below HS_162.out hb)
          have HCI_177 := chid (Kd.C_below HCI_163.out hb)
          have HCS_178 := chid (Kd.C_below HCS_164.out hb)
          have HX2_179 := pw_cell_below hb HX2_165
          have HX_180 := chid (Kd.R_below HX_166.out hb)
          clear HB_161 HS_162 HCI_163 HCS_164 HX2_165 HX_166 hb
          go_wp2_with fail
          with_reducible refine (kimberlitelaw07_alive.calls 0 true _ rfl).mono ?_
          rintro e w9 ⟨rfl, hb⟩
          have HB_185 := chid (below_then HB_175.out HB_175.out.size hb)
          have HS_186 := chid (Kd.R_below HS_176.out hb)
          have HCI_187 := chid (Kd.C_below HCI_177.out hb)
          have HCS_188 := chid (Kd.C_below HCS_178.out hb)
          have HX2_189 := pw_cell_below hb HX2_179
          have HX_190 := chid (Kd.R_below HX_180.out hb)
          clear HB_175 HS_176 HCI_177 HCS_178 HX2_179 HX_180 hb
          go_wp2_with fail
          go_ret
          exact ⟨rfl, HB_185.out⟩
        · have e4 : exS l0 a2 = ([], 2) := by unfold exS; rw [if_pos HE.out, if_neg hm]
          rw [e4] at HX_115 ⊢
          clear e4 HK4
          by_cases hm1 : 1 ≤ a2
          · have hd2 : decide (a2 ≤ (l0.length : Int)) = false := decide_eq_false (fun q => hm ⟨hm1, q⟩)
            clear hm
            go_wp2_with fail
            with_reducible refine (kimberlitelaw07_alive.calls 0 true _ rfl).mono ?_
            rintro e w7 ⟨rfl, hb⟩
            have HB_204 := chid (below_then HB_117.out HB_117.out.size hb)
            have HS_205 := chid (Kd.R_below HS_118.out hb)
            have HCI_206 := chid (Kd.C_below HCI_119.out hb)
            have HCS_207 := chid (Kd.C_below HCS_120.out hb)
            have HX2_208 := pw_cell_below hb HX2_121
            have HX_209 := chid (Kd.R_below HX_115.out hb)
            clear HB_117 HS_118 HCI_119 HCS_120 HX2_121 HX_115 hb
            go_wp2_with fail
            go_ret
            exact ⟨rfl, HB_204.out⟩
          · clear hm
            go_wp2_with fail
            with_reducible refine (kimberlitelaw07_alive.calls 0 true _ rfl).mono ?_
            rintro e w7 ⟨rfl, hb⟩
            have HB_218 := chid (below_then HB_117.out HB_117.out.size hb)
            have HS_219 := chid (Kd.R_below HS_118.out hb)
            have HCI_220 := chid (Kd.C_below HCI_119.out hb)
            have HCS_221 := chid (Kd.C_below HCS_120.out hb)
            have HX2_222 := pw_cell_below hb HX2_121
            have HX_223 := chid (Kd.R_below HX_115.out hb)
            clear HB_117 HS_118 HCI_119 HCS_120 HX2_121 HX_115 hb
            go_wp2_with fail
            go_ret
            exact ⟨rfl, HB_218.out⟩
      · have e3 : incS l0 a1 = ([], 6) := by unfold incS; rw [if_pos HE.out, if_neg hi]
        rw [e3] at HS_50 ⊢
        clear e3 HK3 hi
        obtain ⟨k4, hk4⟩ := Ev.rounds (ev_Extend l0 a2)
        have HK4 := chid hk4
        clear hk4
        go_wp2_with fail
        with_reducible refine (proof_Extend.calls k4 _ c0 l0 a2 (exS l0 a2).1 (exS l0 a2).2 w3 (Kd.C_below HR.out HB_52.out) HC.out HK4.out).mono ?_
        rintro e w4 ⟨v4, rfl, hX, hb⟩
        have HX_237 := chid (Kd.R_lower hX HB_52.out.size)
        clear hX
        have HB_239 := chid (below_then HB_52.out HB_52.out.size hb)
        have HS_240 := chid (Kd.R_below HS_50.out hb)
        clear HB_52 HS_50 hb
        obtain ⟨A4, c4, rfl⟩ := Kd.R_slice HX_237.out
        by_cases hm : 1 ≤ a2 ∧ a2 ≤ l0.length
        · obtain ⟨hm1, hm2⟩ := hm
          have HM1 := chid hm1
          have HM2 := chid hm2
          have e4 : exS l0 a2 = (extS (l0.map leafS) a2.toNat true, 0) := by unfold exS; rw [if_pos HE.out, if_pos ⟨hm1, hm2⟩]
          rw [e4] at HX_237 ⊢
          clear e4 HK4
          obtain ⟨i0, hi0, _, _, _⟩ := info_parts info22
          have hcut := cut_to (P := Try.prog) 39 22 .i64 Try.underlying39 hi0 (A0) l0.length c0 a2 (by omega) (by omega) HC.out
          have hC4 := Kd.C_take (m := a2.toNat) HR.out (by omega)
          obtain ⟨y, hy⟩ : ∃ y, y = l0.take a2.toNat := ⟨_, rfl⟩
          have hyl : y.length = a2.toNat := by rw [hy, List.length_take]; omega
          rw [← hyl] at hcut
          rw [← hy] at hC4
          have HC4 := chid hC4
          have HY := chid hy
          have hcy := HC.out
          have HCY := chid (show y.length ≤ c0 by omega)
          have HYL := chid hyl
          clear hcy hi0 hC4 hy hyl
          have hty := ext_true l0 HE.out a2.toNat (by omega) (by omega)
          rw [← HY.out, show ((a2.toNat : Nat) : Int) = a2 by omega] at hty
          obtain ⟨k6, hk6⟩ := Ev.rounds hty
          have HK6 := chid hk6
          clear hty hk6 hm1 hm2
          have hley : listE y = 0 := by rw [HY.out]; have hz := listE_zero.1 HE.out; exact listE_zero.2 ⟨by rw [List.length_take]; omega, fun x hx => hz.2 x (List.mem_of_mem_take hx)⟩
          obtain ⟨k5, hk5⟩ := Ev.rounds (ev_Root y (by have := HL1.out; have := HYL.out; have := HM2.out; omega))
          rw [hley] at hk5
          have HK5 := chid hk5
          clear hk5 hley
          have hd1 := eq_true HM1.out
          have hd2 := eq_true HM2.out
          have hd3 := eq_true (show (0 : Int) ≤ a2 by have := HM1.out; omega)
          have hd4 := eq_true (show a2 ≤ (c0 : Int) by have := HM2.out; have := HC.out; omega)
          go_wp2_with fail
          with_reducible refine (proof_Root.calls k5 _ c0 y (rootS y) 0 w4 (Kd.C_below HC4.out HB_239.out) HCY.out HK5.out).mono ?_
          rintro e w5 ⟨rfl, hb⟩
          have HB_280 := chid (below_then HB_239.out HB_239.out.size hb)
          have HS_281 := chid (Kd.R_below HS_240.out hb)
          have HX_282 := chid (Kd.R_below HX_237.out hb)
          clear HB_239 HS_240 HX_237 hb
          obtain ⟨_, hcx, hCX⟩ := Kd.R_reads' HX_282.out
          have HCX := chid hCX
          have HHX := chid hcx
          clear hCX hcx
          go_wp2_with fail
          with_reducible refine (proof_Extended.calls k6 a2 _ (rootS y) (rootS l0) A4 c4 _ true 0 w5 HCX.out HHX.out HK6.out).mono ?_
          rintro e w6 ⟨rfl, hb⟩
          have HB_291 := chid (below_then HB_280.out HB_280.out.size hb)
          have HS_292 := chid (Kd.R_below HS_281.out hb)
          have HX_293 := chid (Kd.R_below HX_282.out hb)
          clear HB_280 HS_281 HX_282 hb
          go_wp2_with fail
          with_reducible refine (kimberlitelaw07_alive.calls 0 true _ rfl).mono ?_
          rintro e w7 ⟨rfl, hb⟩
          have HB_298 := chid (below_then HB_291.out HB_291.out.size hb)
          have HS_299 := chid (Kd.R_below HS_292.out hb)
          have HX_300 := chid (Kd.R_below HX_293.out hb)
          clear HB_291 HS_292 HX_293 hb
          go_wp2_with fail
          go_ret
          exact ⟨rfl, HB_298.out⟩
        · have e4 : exS l0 a2 = ([], 2) := by unfold exS; rw [if_pos HE.out, if_neg hm]
          rw [e4] at HX_237 ⊢
          clear e4 HK4
          by_cases hm1 : 1 ≤ a2
          · have hd2 : decide (a2 ≤ (l0.length : Int)) = false := decide_eq_false (fun q => hm ⟨hm1, q⟩)
            clear hm
            go_wp2_with fail
            with_reducible refine (kimberlitelaw07_alive.calls 0 true _ rfl).mono ?_
            rintro e w5 ⟨rfl, hb⟩
            have HB_314 := chid (below_then HB_239.out HB_239.out.size hb)
            have HS_315 := chid (Kd.R_below HS_240.out hb)
            have HX_316 := chid (Kd.R_below HX_237.out hb)
            clear HB_239 HS_240 HX_237 hb
            go_wp2_with fail
            go_ret
            exact ⟨rfl, HB_314.out⟩
          · clear hm
            go_wp2_with fail
            with_reducible refine (kimberlitelaw07_alive.calls 0 true _ rfl).mono ?_
            rintro e w5 ⟨rfl, hb⟩
            have HB_325 := chid (below_then HB_239.out HB_239.out.size hb)
            have HS_326 := chid (Kd.R_below HS_240.out hb)
            have HX_327 := chid (Kd.R_below HX_237.out hb)
            clear HB_239 HS_240 HX_237 hb
            go_wp2_with fail
            go_ret
            exact ⟨rfl, HB_325.out⟩
    · have hr0 : rootS l0 = 0 := by unfold rootS; rw [if_neg he]
      have heb : (listE l0 != 0) = true := bne_iff_ne.mpr he
      rw [hr0]
      go_wp2_with fail
      with_reducible refine (kimberlitelaw07_alive.calls 0 true _ rfl).mono ?_
      rintro e w3 ⟨rfl, hb⟩
      have HB_338 := chid (below_then HB_38.out HB_38.out.size hb)
      clear HB_38 hb
      go_wp2_with fail
      go_ret
      exact ⟨rfl, HB_338.out⟩
theorem proofComplete_pure : kimberlitelaw07_ProofComplete.Pure2 := fun _ _ _ h0 h1 h2 => ⟨0, h0, h1, h2, trivial⟩
end Go.Proofs.Ytacjdoekgmmfoaa.PL
