/- ProofGrows: a log is append-only. The law's function walked by hand. -/
import Derived.Test.YtacjdoekgmmfoaaPLxPureProofGrows
import Derived.Test.YtacjdoekgmmfoaaLGr
namespace Go.Proofs.Ytacjdoekgmmfoaa.PL
open Go.RowKit Go.Proofs.YtacjdoekgmmfoaaW.PrintWords Go.Proofs.YtacjdoekgmmfoaaW.PrintLast Go.Proofs.YtacjdoekgmmfoaaW.PrintMore Go.Proofs.Ytacjdoekgmmfoaa.Opn
set_option linter.unusedVariables false
set_option linter.unusedSimpArgs false
set_option maxHeartbeats 12800000 in
set_option maxRecDepth 100000 in
theorem kimberlitelaw07_ProofGrows.calls (k : Nat) (A0 : Option Addr) (c0 : Nat) (l0 : List (List Int)) (A1 : Option Addr) (c1 : Nat) (l1 : List (List Int)) (a2 a3 a4 : Int) (w : World) (hr0 : Kd.C (Kd.slice 5 (Kd.int .u8)) w A0 l0.length l0) (hc0 : l0.length ≤ c0) (hr1 : Kd.C (Kd.slice 5 (Kd.int .u8)) w A1 l1.length l1) (hc1 : l1.length ≤ c1) (h : kimberlitelaw07_ProofGrows.ok l0 l1 a2 a3 a4) :
    Calls Try.prog 13 #[.slice A0 l0.length c0, .slice A1 l1.length c1, .int .i64 a2, .int .u8 a3, .int .u64 a4] w fun e w' => e = .returned (.bool true) ∧ Below w.heap.size w w' := by
  have HR0 := lhid hr0
  have HC0 := lhid hc0
  have HR1 := lhid hr1
  have HC1 := lhid hc1
  have HOK := lhid h
  clear hr0 hc0 hr1 hc1 h
  obtain ⟨t0, ht, hft⟩ := few_ev l0
  obtain ⟨k0, hk⟩ := Ev.rounds ht
  have HK0 := lhid hk
  have HFT0 := lhid hft
  clear ht hk hft
  obtain ⟨t1, ht, hft⟩ := few_ev l1
  obtain ⟨k1, hk⟩ := Ev.rounds ht
  have HK1 := lhid hk
  have HFT1 := lhid hft
  clear ht hk hft
  go_enter Try.func13, Try.ntmps13
  have HB_17 := lhid (Below.refl w.heap.size w)
  go_wp2_with fail
  with_reducible refine (kimberlitelaw07_few.calls k0 A0 c0 l0 t0 w HR0.out HC0.out HK0.out).mono ?_
  rintro e w1 ⟨rfl, nd, hq⟩
  have hb := pw_below_drewN (Below.refl w.heap.size w) nd
  rw [← hq] at hb
  clear hq
  have HB_24 := lhid (below_then HB_17.out HB_17.out.size hb)
  clear HB_17 hb
  cases t0
  · go_wp2_with fail
    with_reducible refine (kimberlitelaw07_alive.calls 0 true _ rfl).mono ?_
    rintro e w2 ⟨rfl, hb⟩
    have HB_30 := lhid (below_then HB_24.out HB_24.out.size hb)
    clear HB_24 hb
    go_wp2_with fail
    go_ret
    exact ⟨rfl, HB_30.out⟩
  go_wp2_with fail
  with_reducible refine (kimberlitelaw07_few.calls k1 A1 c1 l1 t1 _ (Kd.C_below HR1.out HB_24.out) HC1.out HK1.out).mono ?_
  rintro e w2 ⟨rfl, nd, hq⟩
  have hb := pw_below_drewN (Below.refl w1.heap.size w1) nd
  rw [← hq] at hb
  clear hq
  have HB_41 := lhid (below_then HB_24.out HB_24.out.size hb)
  clear HB_24 hb
  cases t1
  · go_wp2_with fail
    with_reducible refine (kimberlitelaw07_alive.calls 0 true _ rfl).mono ?_
    rintro e w3 ⟨rfl, hb⟩
    have HB_47 := lhid (below_then HB_41.out HB_41.out.size hb)
    clear HB_41 hb
    go_wp2_with fail
    go_ret
    exact ⟨rfl, HB_47.out⟩
  obtain ⟨hl1, hl2⟩ := HFT0.out (by first | rfl | trivial)
  obtain ⟨hm1, hm2⟩ := HFT1.out (by first | rfl | trivial)
  have HL1 := lhid hl1
  have HL2 := lhid hl2
  have HM1 := lhid hm1
  have HM2 := lhid hm2
  clear hl1 hl2 hm1 hm2 HFT0 HFT1 HK0 HK1
  go_wp2_with fail
  with_reducible refine (new_calls _).mono ?_
  rintro e w3 ⟨rfl, hG, hb⟩
  generalize hg : w2.heap.size = g at hG hb ⊢
  have HG0 := lhid (show LGS w.heap.size w3 g [] [] from ⟨hG.lower (by rw [← hg]; exact HB_41.out.size), rfl, fun x hx => by simp at hx⟩)
  clear hG
  rw [← hg] at hb
  have HB_66 := lhid (below_then HB_41.out HB_41.out.size hb)
  clear HB_41 hb
  clear hg
  go_wp2_with fail
  go_loopw [12] (fun v wr => ∃ i : Nat, ∃ es ls, i ≤ l0.length ∧ v = .int .i64 i ∧ Hid (ls.length ≤ i) ∧ Hid (LGS w.heap.size wr g es ls) ∧ Hid (Below w.heap.size w wr)) (fun v _ => l0.length - (intOf v).toNat)
  case atStart => exact ⟨0, [], [], Nat.zero_le _, rfl, lhid (Nat.le_refl _), HG0, HB_66⟩
  case round =>
    obtain ⟨i, es, ls, hi, rfl, HLN, HGr_73, HBr_73⟩ := hrel
    clear HG0 HB_66
    have hbd := HL1.out
    by_cases hlt : i < l0.length
    · obtain ⟨ad, Ai, ci, ei, hx, hl, hci⟩ := at_L1 HR0.out (i : Int) (by omega) (by omega)
      cases ei
      rw [rdL_at l0 i hlt] at hx hl hci
      rw [Int.toNat_natCast] at hx
      have HX := lhid hci
      have HXL := lhid hl
      have HXZ := lhid (HL2.out _ (List.getElem_mem hlt))
      replace hx := pw_cell_below HBr_73.out hx
      clear hci hl
      have hil : (i : Int) < (l0.length : Int) := by omega
      go_wp2_with fail
      with_reducible refine (grow_calls w.heap.size wr g es ls Ai ci l0[i] HGr_73.out (fun W hW => entry_keep HX.out HBr_73.out hW) HXL.out (by have := HLN.out; have := HL1.out; omega) (by have := HXZ.out; omega)).mono ?_
      rintro e w9 ⟨⟨v9, rfl⟩, ⟨es', ls', hG, hq1, hq2, hq3⟩, hb⟩
      have HG9 := lhid hG
      have HB9 := lhid (HBr_73.out.trans hb)
      clear hG hb
      go_wp2_with fail
      go_roundw
      case rel =>
        exact ⟨i + 1, es', ls', by omega, by go_num, lhid (by have := HLN.out; omega), HG9, HB9⟩
      case measure => simp [intOf]; omega
    obtain rfl : i = l0.length := by omega
    obtain ⟨ls1, hls⟩ : ∃ x, x = ls := ⟨_, rfl⟩
    have HS1 := lhid (show ls1.length ≤ 100 by rw [hls]; have := HLN.out; have := HL1.out; omega)
    have HO1 := lhid (show ∀ x ∈ ls1, okH x by rw [hls]; exact HGr_73.out.ok)
    have HN1 := lhid (show ls1.length = es.length by rw [hls]; exact HGr_73.out.len)
    have HLS := lhid hls
    clear hls HLN hlt hbd hi
    go_wp2_with fail
    with_reducible refine (len_calls w.heap.size _ g es ls HGr_73.out.lg).mono ?_
    rintro e w' ⟨rfl, rfl⟩
    obtain ⟨kr, hkr⟩ := Ev.rounds (ev_rootL ls1 (by have := HS1.out; omega) HO1.out)
    have HKR := lhid hkr
    clear hkr
    go_wp2_with fail
    with_reducible refine (root_calls kr w.heap.size _ g es ls (top ls1) HGr_73.out.lg (by rw [← HLS.out]; exact HKR.out)).mono ?_
    rintro e w3 ⟨rfl, hb⟩
    have HB_114 := lhid (below_then HBr_73.out HBr_73.out.size hb)
    have HG_115 := lhid (HGr_73.out.next hb)
    clear HBr_73 HGr_73 hb
    by_cases hm : 0 ≤ a2 ∧ a2 ≤ (ls1.length : Int)
    · have hm1 := hm.1
      have hm2 := hm.2
      have HM := lhid hm
      clear hm
      obtain ⟨ko, hko⟩ := Ev.rounds (ev_rootL (ls1.take a2.toNat) (by rw [List.length_take]; have := HS1.out; omega) (fun x hx => HO1.out x (List.mem_of_mem_take hx)))
      have HKO := lhid hko
      clear hko hm1 hm2
      go_wp2_with fail
      with_reducible refine (rootAt_calls ko w.heap.size _ g es ls a2 (top (ls1.take a2.toNat)) HG_115.out.lg HM.out.1 (by rw [← HLS.out]; exact HM.out.2) (by rw [← HLS.out]; exact HKO.out)).mono ?_
      rintro e w4 ⟨rfl, hb⟩
      have HB_128 := lhid (below_then HB_114.out HB_114.out.size hb)
      have HG_129 := lhid (HG_115.out.next hb)
      clear HB_114 HG_115 hb
      go_wp2_with fail
      go_loopw [17] (fun v wr => ∃ i : Nat, ∃ es ls, i ≤ l1.length ∧ v = .int .i64 i ∧ Hid (ls1.length ≤ ls.length) ∧ Hid (ls.length ≤ ls1.length + i) ∧ Hid (ls.take ls1.length = ls1) ∧ Hid (LGS w.heap.size wr g es ls) ∧ Hid (Below w.heap.size w wr)) (fun v _ => l1.length - (intOf v).toNat)
      case atStart => exact ⟨0, es, ls, Nat.zero_le _, rfl, lhid (by rw [HLS.out]; exact Nat.le_refl _), lhid (by rw [HLS.out]; exact Nat.le_refl _), lhid (by rw [HLS.out]; exact List.take_length), HG_129, HB_128⟩
      case round =>
        obtain ⟨i, es2, ls2, hi, rfl, HQ1, HQ2, HQ3, HGr_135, HBr_135⟩ := hrel
        clear HG_129 HB_128
        have hbd := HM1.out
        by_cases hlt : i < l1.length
        · obtain ⟨ad, Ai, ci, ei, hx, hl, hci⟩ := at_L1 HR1.out (i : Int) (by omega) (by omega)
          cases ei
          rw [rdL_at l1 i hlt] at hx hl hci
          rw [Int.toNat_natCast] at hx
          have HX := lhid hci
          have HXL := lhid hl
          have HXZ := lhid (HM2.out _ (List.getElem_mem hlt))
          replace hx := pw_cell_below HBr_135.out hx
          clear hci hl
          have hil : (i : Int) < (l1.length : Int) := by omega
          go_wp2_with fail
          with_reducible refine (grow_calls w.heap.size wr g es2 ls2 Ai ci l1[i] HGr_135.out (fun W hW => entry_keep HX.out HBr_135.out hW) HXL.out (by have := HQ2.out; have := HS1.out; have := HM1.out; omega) (by have := HXZ.out; omega)).mono ?_
          rintro e w9 ⟨⟨v9, rfl⟩, ⟨es', ls', hG, hq1, hq2, hq3⟩, hb⟩
          have HG9 := lhid hG
          have HB9 := lhid (HBr_135.out.trans hb)
          clear hG hb
          go_wp2_with fail
          go_roundw
          case rel =>
            exact ⟨i + 1, es', ls', by omega, by go_num, lhid (by have := HQ1.out; omega), lhid (by have := HQ2.out; omega), lhid (take_more HQ1.out hq3 HQ3.out), HG9, HB9⟩
          case measure => simp [intOf]; omega
        obtain rfl : i = l1.length := by omega
        have HL2S := lhid (show ls2.length ≤ 200 by have := HQ2.out; have := HS1.out; have := HM1.out; omega)
        have HO2 := lhid (show ∀ x ∈ ls2, okH x from HGr_135.out.ok)
        have HN2 := lhid (show ls2.length = es2.length from HGr_135.out.len)
        clear hlt hbd hi HQ2
        go_wp2_with fail
        with_reducible refine (rootAt_calls kr w.heap.size _ g es2 ls2 (es.length : Int) (top ls1) HGr_135.out.lg (by omega) (by have := HN1.out; have := HQ1.out; omega) (by rw [Int.toNat_natCast, ← HN1.out, HQ3.out]; exact HKR.out)).mono ?_
        rintro e w5 ⟨rfl, hb⟩
        have HB_168 := lhid (below_then HBr_135.out HBr_135.out.size hb)
        have HG_169 := lhid (HGr_135.out.next hb)
        clear HBr_135 HGr_135 hb
        go_wp2_with fail
        with_reducible refine (rootAt_calls ko w.heap.size _ g es2 ls2 a2 (top (ls1.take a2.toNat)) HG_169.out.lg HM.out.1 (by have := HM.out.2; have := HQ1.out; omega) (by rw [take_less HQ3.out (by have := HM.out; omega)]; exact HKO.out)).mono ?_
        rintro e w6 ⟨rfl, hb⟩
        have HB_174 := lhid (below_then HB_168.out HB_168.out.size hb)
        have HG_175 := lhid (HG_169.out.next hb)
        clear HB_168 HG_169 hb
        go_wp2_with fail
        with_reducible refine (len_calls w.heap.size _ g es2 ls2 HG_175.out.lg).mono ?_
        rintro e w' ⟨rfl, rfl⟩
        by_cases hc : 1 ≤ a2 ∧ a2 ≤ (ls2.length : Int)
        · have HC := lhid hc
          obtain ⟨hc1, hc2⟩ := hc
          obtain ⟨kx, hkx⟩ := Ev.rounds (ev_extL ls2 (by have := HL2S.out; omega) HO2.out a2 hc1 hc2)
          have HKX := lhid hkx
          have hc3 : a2 ≤ (es2.length : Int) := by rw [← HN2.out]; exact hc2
          have hd1 : decide (a2 < 1) = false := decide_eq_false (by omega)
          have hd2 : decide (a2 ≤ (es2.length : Int)) = true := decide_eq_true hc3
          clear hkx hc2 hc3
          go_wp2_with fail
          with_reducible refine (extend_calls kx w.heap.size _ g es2 ls2 a2 (es2.length : Int) (extS ls2 a2.toNat true) HG_175.out.lg HC.out.1 (by rw [← HN2.out]; exact HC.out.2) (by rw [← HN2.out]; exact Int.le_refl _) (by rw [take_less_all HN2.out]; exact HKX.out)).mono ?_
          rintro e w7 ⟨vx, rfl, hx, hb⟩
          have HX_192 := lhid (Kd.R_lower hx HB_174.out.size)
          clear hx
          have HB_194 := lhid (below_then HB_174.out HB_174.out.size hb)
          have HG_195 := lhid (HG_175.out.next hb)
          clear HB_174 HG_175 hb
          obtain ⟨Ax, cx, rfl⟩ := Kd.R_slice HX_192.out
          have e0 : ls1.take a2.toNat = ls2.take a2.toNat := (take_less HQ3.out (by have := HM.out; omega)).symm
          rw [e0]
          clear e0
          obtain ⟨kt, hkt⟩ := Ev.rounds (ev_rootL ls2 (by have := HL2S.out; omega) HO2.out)
          have HKT := lhid hkt
          clear hkt
          obtain ⟨k4, hk4⟩ := Ev.rounds (ext_val ls2 (by have := HL2S.out; omega) HO2.out a2 HC.out.1 HC.out.2 (top ls2) [])
          rw [List.append_nil, List.isEmpty_nil, beq_self_eq_true, Bool.and_self, HN2.out] at hk4
          have HK4 := lhid hk4
          clear hk4
          go_wp2_with fail
          with_reducible refine (len_calls w.heap.size _ g es2 ls2 HG_195.out.lg).mono ?_
          rintro e w' ⟨rfl, rfl⟩
          go_wp2_with fail
          with_reducible refine (root_calls kt w.heap.size _ g es2 ls2 (top ls2) HG_195.out.lg HKT.out).mono ?_
          rintro e w8 ⟨rfl, hb⟩
          have HB_214 := lhid (below_then HB_194.out HB_194.out.size hb)
          have HG_215 := lhid (HG_195.out.next hb)
          have HX_216 := lhid (Kd.R_below HX_192.out hb)
          clear HB_194 HG_195 HX_192 hb
          obtain ⟨_, hcx, hCX⟩ := Kd.R_reads' HX_216.out
          have HCX := lhid hCX
          have HHX := lhid hcx
          clear hCX hcx
          go_wp2_with fail
          with_reducible refine (proof_Extended.calls k4 a2 (es2.length : Int) _ (top ls2) Ax cx _ true 0 _ HCX.out HHX.out HK4.out).mono ?_
          rintro e w9 ⟨rfl, hb⟩
          have HB_225 := lhid (below_then HB_214.out HB_214.out.size hb)
          have HG_226 := lhid (HG_215.out.next hb)
          have HX_227 := lhid (Kd.R_below HX_216.out hb)
          clear HB_214 HG_215 HX_216 hb
          have ha3 := wf_u8 HOK.out.2.2.2.1
          obtain ⟨fl, hsh, hfo, hfz⟩ := shl_flip .u8 (a3.tmod 64) (by rw [Int.tmod_eq_emod_of_nonneg ha3.1]; omega) (by rw [Int.tmod_eq_emod_of_nonneg ha3.1]; omega)
          have HFO := lhid hfo
          have HFZ := lhid hfz
          clear ha3 hfo hfz
          have HXO := lhid (xor_ne (top ls2) fl (top_ok _ HO2.out) HFO.out HFZ.out)
          obtain ⟨k5, hk5⟩ := Ev.rounds (ext_val ls2 (by have := HL2S.out; omega) HO2.out a2 HC.out.1 HC.out.2 (bits .xor .u64 (top ls2) fl) [])
          rw [List.append_nil, List.isEmpty_nil, beq_eq_false_iff_ne.mpr (Ne.symm HXO.out), Bool.and_false, HN2.out] at hk5
          have HK5 := lhid hk5
          clear hk5
          go_wp2_with fail
          with_reducible refine (len_calls w.heap.size _ g es2 ls2 HG_226.out.lg).mono ?_
          rintro e w' ⟨rfl, rfl⟩
          go_wp2_with fail
          with_reducible refine (root_calls kt w.heap.size _ g es2 ls2 (top ls2) HG_226.out.lg HKT.out).mono ?_
          rintro e w10 ⟨rfl, hb⟩
          have HB_245 := lhid (below_then HB_225.out HB_225.out.size hb)
          have HG_246 := lhid (HG_226.out.next hb)
          have HX_247 := lhid (Kd.R_below HX_227.out hb)
          clear HB_225 HG_226 HX_227 hb
          obtain ⟨_, hcx, hCX⟩ := Kd.R_reads' HX_247.out
          have HCX := lhid hCX
          have HHX := lhid hcx
          clear hCX hcx
          go_wp2_with fail
          with_reducible refine (proof_Extended.calls k5 a2 (es2.length : Int) _ _ Ax cx _ false 0 _ HCX.out HHX.out HK5.out).mono ?_
          rintro e w11 ⟨rfl, hb⟩
          have HB_256 := lhid (below_then HB_245.out HB_245.out.size hb)
          have HG_257 := lhid (HG_246.out.next hb)
          have HX_258 := lhid (Kd.R_below HX_247.out hb)
          clear HB_245 HG_246 HX_247 hb
          clear HCX HHX HXO HK5 hsh HFO HFZ
          obtain ⟨k6, hk6⟩ := Ev.rounds (ext_val ls2 (by have := HL2S.out; omega) HO2.out a2 HC.out.1 HC.out.2 (top ls2) [a4])
          rw [HN2.out] at hk6
          obtain ⟨ys, hys⟩ : ∃ x, x = extS ls2 a2.toNat true ++ [a4] := ⟨_, rfl⟩
          rw [← hys] at hk6
          have HYS := lhid hys
          clear hys
          have HK6 := lhid (show proof_Extended.f k6 a2 (es2.length : Int) (top (ls2.take a2.toNat)) (top ls2) ys = some (false, 0) from hk6)
          clear hk6
          have HXN := lhid (ext_small ls2 a2.toNat true (by have := HL2S.out; omega))
          go_wp2_with fail
          with_reducible refine (len_calls w.heap.size _ g es2 ls2 HG_257.out.lg).mono ?_
          rintro e w' ⟨rfl, rfl⟩
          go_wp2_with fail
          with_reducible refine (root_calls kt w.heap.size _ g es2 ls2 (top ls2) HG_257.out.lg HKT.out).mono ?_
          rintro e w12 ⟨rfl, hb⟩
          have HB_276 := lhid (below_then HB_256.out HB_256.out.size hb)
          have HG_277 := lhid (HG_257.out.next hb)
          have HX_278 := lhid (Kd.R_below HX_258.out hb)
          clear HB_256 HG_257 HX_258 hb
          go_wp2_with (first | ((with_reducible refine gate_builtin (b := .append) (xs := #[.tmp 180, .tmp 182]) rfl ?_); at_builtin; refine Kd.R_append (Kd.int .u64) (w0 := w) w.heap.size rfl (.tmp 180) (.tmp 182) 46 33 (.int .u64 0) 8 rfl Try.underlying46 info33 rfl (by decide) (by omega) (.slice Ax (extS ls2 a2.toNat true).length cx) (extS ls2 a2.toNat true) a4 [.int .u64 a4] (fun _ => True) (fun _ => False) rfl rfl ?aP (fun _ hk => hk.elim) ?aF ?aO ?aB ?aS ?aL ?_; (case aP => exact rfl); (case aF => exact fun _ _ => trivial); (case aO => exact HX_278.out); (case aB => exact HB_276.out); (case aS => exact HB_276.out.size); (case aL => have := HXN.out; omega); intro v5 w5 ho hb hg hat; rw [← HYS.out] at ho; obtain ⟨A5, c5, rfl⟩ := Kd.R_slice ho; have HX5 := lhid ho; have HB5 := lhid hb; clear ho hb hg hat))
          obtain ⟨_, hcx, hCX⟩ := Kd.R_reads' HX5.out
          have HCX := lhid hCX
          have HHX := lhid hcx
          clear hCX hcx
          go_wp2_with fail
          with_reducible refine (proof_Extended.calls k6 a2 (es2.length : Int) _ (top ls2) A5 c5 _ false 0 _ HCX.out HHX.out HK6.out).mono ?_
          rintro e w13 ⟨rfl, hb⟩
          have HB_288 := lhid (below_then HB5.out HB5.out.size hb)
          have HX_289 := lhid (Kd.R_below HX5.out hb)
          clear HB5 HX5 hb
          go_wp2_with fail
          with_reducible refine (kimberlitelaw07_alive.calls 0 true _ rfl).mono ?_
          rintro e w14 ⟨rfl, hb⟩
          have HB_294 := lhid (below_then HB_288.out HB_288.out.size hb)
          have HX_295 := lhid (Kd.R_below HX_289.out hb)
          clear HB_288 HX_289 hb
          go_wp2_with fail
          go_ret
          exact ⟨rfl, HB_294.out⟩
        · have HC := lhid hc
          clear hc
          by_cases hz : 1 ≤ (ls2.length : Int)
          · have HZ := lhid hz
            clear hz
            go_wp2_with fail
            with_reducible refine (extend_arg w.heap.size _ g es2 ls2 a2 (es2.length : Int) HG_175.out.lg (by rw [← HN2.out]; exact HZ.out) (by rw [← HN2.out]; exact Int.le_refl _) (by rw [← HN2.out]; exact HC.out)).mono ?_
            rintro e w' ⟨rfl, rfl⟩
            by_cases hm3 : 1 ≤ a2
            · have hd2 : decide (a2 ≤ (es2.length : Int)) = false := decide_eq_false (fun q => HC.out ⟨hm3, by rw [HN2.out]; exact q⟩)
              go_wp2_with fail
              with_reducible refine (len_calls w.heap.size _ g es2 ls2 HG_175.out.lg).mono ?_
              rintro e w' ⟨rfl, rfl⟩
              go_wp2_with fail
              with_reducible refine (kimberlitelaw07_alive.calls 0 true _ rfl).mono ?_
              rintro e w7 ⟨rfl, hb⟩
              have HB_316 := lhid (below_then HB_174.out HB_174.out.size hb)
              have HG_317 := lhid (HG_175.out.next hb)
              clear HB_174 HG_175 hb
              go_wp2_with fail
              go_ret
              exact ⟨rfl, HB_316.out⟩
            · go_wp2_with fail
              with_reducible refine (kimberlitelaw07_alive.calls 0 true _ rfl).mono ?_
              rintro e w7 ⟨rfl, hb⟩
              have HB_325 := lhid (below_then HB_174.out HB_174.out.size hb)
              have HG_326 := lhid (HG_175.out.next hb)
              clear HB_174 HG_175 hb
              go_wp2_with fail
              go_ret
              exact ⟨rfl, HB_325.out⟩
          · have HZ := lhid hz
            clear hz
            go_wp2_with fail
            with_reducible refine (extend_none w.heap.size _ g es2 ls2 a2 (es2.length : Int) HG_175.out.lg (by rw [← HN2.out]; have := HZ.out; omega)).mono ?_
            rintro e w' ⟨rfl, rfl⟩
            by_cases hm3 : 1 ≤ a2
            · have hd2 : decide (a2 ≤ (es2.length : Int)) = false := decide_eq_false (fun q => HC.out ⟨hm3, by rw [HN2.out]; exact q⟩)
              go_wp2_with fail
              with_reducible refine (len_calls w.heap.size _ g es2 ls2 HG_175.out.lg).mono ?_
              rintro e w' ⟨rfl, rfl⟩
              go_wp2_with fail
              with_reducible refine (kimberlitelaw07_alive.calls 0 true _ rfl).mono ?_
              rintro e w7 ⟨rfl, hb⟩
              have HB_344 := lhid (below_then HB_174.out HB_174.out.size hb)
              have HG_345 := lhid (HG_175.out.next hb)
              clear HB_174 HG_175 hb
              go_wp2_with fail
              go_ret
              exact ⟨rfl, HB_344.out⟩
            · go_wp2_with fail
              with_reducible refine (kimberlitelaw07_alive.calls 0 true _ rfl).mono ?_
              rintro e w7 ⟨rfl, hb⟩
              have HB_353 := lhid (below_then HB_174.out HB_174.out.size hb)
              have HG_354 := lhid (HG_175.out.next hb)
              clear HB_174 HG_175 hb
              go_wp2_with fail
              go_ret
              exact ⟨rfl, HB_353.out⟩
    · have HM := lhid hm
      clear hm
      go_wp2_with fail
      with_reducible refine (rootAt_none w.heap.size _ g es ls a2 HG_115.out.lg (by rw [← HLS.out]; exact HM.out)).mono ?_
      rintro e w' ⟨rfl, rfl⟩
      go_wp2_with fail
      go_loopw [17] (fun v wr => ∃ i : Nat, ∃ es ls, i ≤ l1.length ∧ v = .int .i64 i ∧ Hid (ls1.length ≤ ls.length) ∧ Hid (ls.length ≤ ls1.length + i) ∧ Hid (ls.take ls1.length = ls1) ∧ Hid (LGS w.heap.size wr g es ls) ∧ Hid (Below w.heap.size w wr)) (fun v _ => l1.length - (intOf v).toNat)
      case atStart => exact ⟨0, es, ls, Nat.zero_le _, rfl, lhid (by rw [HLS.out]; exact Nat.le_refl _), lhid (by rw [HLS.out]; exact Nat.le_refl _), lhid (by rw [HLS.out]; exact List.take_length), HG_115, HB_114⟩
      case round =>
        obtain ⟨i, es2, ls2, hi, rfl, HQ1, HQ2, HQ3, HGr_368, HBr_368⟩ := hrel
        clear HG_115 HB_114
        have hbd := HM1.out
        by_cases hlt : i < l1.length
        · obtain ⟨ad, Ai, ci, ei, hx, hl, hci⟩ := at_L1 HR1.out (i : Int) (by omega) (by omega)
          cases ei
          rw [rdL_at l1 i hlt] at hx hl hci
          rw [Int.toNat_natCast] at hx
          have HX := lhid hci
          have HXL := lhid hl
          have HXZ := lhid (HM2.out _ (List.getElem_mem hlt))
          replace hx := pw_cell_below HBr_368.out hx
          clear hci hl
          have hil : (i : Int) < (l1.length : Int) := by omega
          go_wp2_with fail
          with_reducible refine (grow_calls w.heap.size wr g es2 ls2 Ai ci l1[i] HGr_368.out (fun W hW => entry_keep HX.out HBr_368.out hW) HXL.out (by have := HQ2.out; have := HS1.out; have := HM1.out; omega) (by have := HXZ.out; omega)).mono ?_
          rintro e w9 ⟨⟨v9, rfl⟩, ⟨es', ls', hG, hq1, hq2, hq3⟩, hb⟩
          have HG9 := lhid hG
          have HB9 := lhid (HBr_368.out.trans hb)
          clear hG hb
          go_wp2_with fail
          go_roundw
          case rel =>
            exact ⟨i + 1, es', ls', by omega, by go_num, lhid (by have := HQ1.out; omega), lhid (by have := HQ2.out; omega), lhid (take_more HQ1.out hq3 HQ3.out), HG9, HB9⟩
          case measure => simp [intOf]; omega
        obtain rfl : i = l1.length := by omega
        have HL2S := lhid (show ls2.length ≤ 200 by have := HQ2.out; have := HS1.out; have := HM1.out; omega)
        have HO2 := lhid (show ∀ x ∈ ls2, okH x from HGr_368.out.ok)
        have HN2 := lhid (show ls2.length = es2.length from HGr_368.out.len)
        clear hlt hbd hi HQ2
        go_wp2_with fail
        with_reducible refine (rootAt_calls kr w.heap.size _ g es2 ls2 (es.length : Int) (top ls1) HGr_368.out.lg (by omega) (by have := HN1.out; have := HQ1.out; omega) (by rw [Int.toNat_natCast, ← HN1.out, HQ3.out]; exact HKR.out)).mono ?_
        rintro e w4 ⟨rfl, hb⟩
        have HB_401 := lhid (below_then HBr_368.out HBr_368.out.size hb)
        have HG_402 := lhid (HGr_368.out.next hb)
        clear HBr_368 HGr_368 hb
        by_cases hm2 : 0 ≤ a2 ∧ a2 ≤ (ls2.length : Int)
        · obtain ⟨ko, hko⟩ := Ev.rounds (ev_rootL (ls2.take a2.toNat) (by rw [List.length_take]; have := HL2S.out; omega) (fun x hx => HO2.out x (List.mem_of_mem_take hx)))
          have HKO := lhid hko
          have HM2b := lhid hm2
          clear hko hm2
          go_wp2_with fail
          with_reducible refine (rootAt_calls ko w.heap.size _ g es2 ls2 a2 (top (ls2.take a2.toNat)) HG_402.out.lg HM2b.out.1 HM2b.out.2 HKO.out).mono ?_
          rintro e w5 ⟨rfl, hb⟩
          have HB_412 := lhid (below_then HB_401.out HB_401.out.size hb)
          have HG_413 := lhid (HG_402.out.next hb)
          clear HB_401 HG_402 hb
          go_wp2_with fail
          with_reducible refine (len_calls w.heap.size _ g es2 ls2 HG_413.out.lg).mono ?_
          rintro e w' ⟨rfl, rfl⟩
          by_cases hc : 1 ≤ a2 ∧ a2 ≤ (ls2.length : Int)
          · have HC := lhid hc
            obtain ⟨hc1, hc2⟩ := hc
            obtain ⟨kx, hkx⟩ := Ev.rounds (ev_extL ls2 (by have := HL2S.out; omega) HO2.out a2 hc1 hc2)
            have HKX := lhid hkx
            have hc3 : a2 ≤ (es2.length : Int) := by rw [← HN2.out]; exact hc2
            have hd1 : decide (a2 < 1) = false := decide_eq_false (by omega)
            have hd2 : decide (a2 ≤ (es2.length : Int)) = true := decide_eq_true hc3
            clear hkx hc2 hc3
            go_wp2_with fail
            with_reducible refine (extend_calls kx w.heap.size _ g es2 ls2 a2 (es2.length : Int) (extS ls2 a2.toNat true) HG_413.out.lg HC.out.1 (by rw [← HN2.out]; exact HC.out.2) (by rw [← HN2.out]; exact Int.le_refl _) (by rw [take_less_all HN2.out]; exact HKX.out)).mono ?_
            rintro e w6 ⟨vx, rfl, hx, hb⟩
            have HX_430 := lhid (Kd.R_lower hx HB_412.out.size)
            clear hx
            have HB_432 := lhid (below_then HB_412.out HB_412.out.size hb)
            have HG_433 := lhid (HG_413.out.next hb)
            clear HB_412 HG_413 hb
            obtain ⟨Ax, cx, rfl⟩ := Kd.R_slice HX_430.out
            go_wp2_with fail
            with_reducible refine (len_calls w.heap.size _ g es2 ls2 HG_433.out.lg).mono ?_
            rintro e w' ⟨rfl, rfl⟩
            go_wp2_with fail
            with_reducible refine (kimberlitelaw07_alive.calls 0 true _ rfl).mono ?_
            rintro e w7 ⟨rfl, hb⟩
            have HB_442 := lhid (below_then HB_432.out HB_432.out.size hb)
            have HG_443 := lhid (HG_433.out.next hb)
            have HX_444 := lhid (Kd.R_below HX_430.out hb)
            clear HB_432 HG_433 HX_430 hb
            go_wp2_with fail
            go_ret
            exact ⟨rfl, HB_442.out⟩
          · have HC := lhid hc
            clear hc
            by_cases hz : 1 ≤ (ls2.length : Int)
            · have HZ := lhid hz
              clear hz
              go_wp2_with fail
              with_reducible refine (extend_arg w.heap.size _ g es2 ls2 a2 (es2.length : Int) HG_413.out.lg (by rw [← HN2.out]; exact HZ.out) (by rw [← HN2.out]; exact Int.le_refl _) (by rw [← HN2.out]; exact HC.out)).mono ?_
              rintro e w' ⟨rfl, rfl⟩
              by_cases hm3 : 1 ≤ a2
              · have hd2 : decide (a2 ≤ (es2.length : Int)) = false := decide_eq_false (fun q => HC.out ⟨hm3, by rw [HN2.out]; exact q⟩)
                go_wp2_with fail
                with_reducible refine (len_calls w.heap.size _ g es2 ls2 HG_413.out.lg).mono ?_
                rintro e w' ⟨rfl, rfl⟩
                go_wp2_with fail
                with_reducible refine (kimberlitelaw07_alive.calls 0 true _ rfl).mono ?_
                rintro e w6 ⟨rfl, hb⟩
                have HB_465 := lhid (below_then HB_412.out HB_412.out.size hb)
                have HG_466 := lhid (HG_413.out.next hb)
                clear HB_412 HG_413 hb
                go_wp2_with fail
                go_ret
                exact ⟨rfl, HB_465.out⟩
              · go_wp2_with fail
                with_reducible refine (kimberlitelaw07_alive.calls 0 true _ rfl).mono ?_
                rintro e w6 ⟨rfl, hb⟩
                have HB_474 := lhid (below_then HB_412.out HB_412.out.size hb)
                have HG_475 := lhid (HG_413.out.next hb)
                clear HB_412 HG_413 hb
                go_wp2_with fail
                go_ret
                exact ⟨rfl, HB_474.out⟩
            · have HZ := lhid hz
              clear hz
              go_wp2_with fail
              with_reducible refine (extend_none w.heap.size _ g es2 ls2 a2 (es2.length : Int) HG_413.out.lg (by rw [← HN2.out]; have := HZ.out; omega)).mono ?_
              rintro e w' ⟨rfl, rfl⟩
              by_cases hm3 : 1 ≤ a2
              · have hd2 : decide (a2 ≤ (es2.length : Int)) = false := decide_eq_false (fun q => HC.out ⟨hm3, by rw [HN2.out]; exact q⟩)
                go_wp2_with fail
                with_reducible refine (len_calls w.heap.size _ g es2 ls2 HG_413.out.lg).mono ?_
                rintro e w' ⟨rfl, rfl⟩
                go_wp2_with fail
                with_reducible refine (kimberlitelaw07_alive.calls 0 true _ rfl).mono ?_
                rintro e w6 ⟨rfl, hb⟩
                have HB_493 := lhid (below_then HB_412.out HB_412.out.size hb)
                have HG_494 := lhid (HG_413.out.next hb)
                clear HB_412 HG_413 hb
                go_wp2_with fail
                go_ret
                exact ⟨rfl, HB_493.out⟩
              · go_wp2_with fail
                with_reducible refine (kimberlitelaw07_alive.calls 0 true _ rfl).mono ?_
                rintro e w6 ⟨rfl, hb⟩
                have HB_502 := lhid (below_then HB_412.out HB_412.out.size hb)
                have HG_503 := lhid (HG_413.out.next hb)
                clear HB_412 HG_413 hb
                go_wp2_with fail
                go_ret
                exact ⟨rfl, HB_502.out⟩
        · have HM2b := lhid hm2
          clear hm2
          go_wp2_with fail
          with_reducible refine (rootAt_none w.heap.size _ g es2 ls2 a2 HG_402.out.lg HM2b.out).mono ?_
          rintro e w' ⟨rfl, rfl⟩
          go_wp2_with fail
          with_reducible refine (len_calls w.heap.size _ g es2 ls2 HG_402.out.lg).mono ?_
          rintro e w' ⟨rfl, rfl⟩
          by_cases hc : 1 ≤ a2 ∧ a2 ≤ (ls2.length : Int)
          · have HC := lhid hc
            obtain ⟨hc1, hc2⟩ := hc
            obtain ⟨kx, hkx⟩ := Ev.rounds (ev_extL ls2 (by have := HL2S.out; omega) HO2.out a2 hc1 hc2)
            have HKX := lhid hkx
            have hc3 : a2 ≤ (es2.length : Int) := by rw [← HN2.out]; exact hc2
            have hd1 : decide (a2 < 1) = false := decide_eq_false (by omega)
            have hd2 : decide (a2 ≤ (es2.length : Int)) = true := decide_eq_true hc3
            clear hkx hc2 hc3
            go_wp2_with fail
            with_reducible refine (extend_calls kx w.heap.size _ g es2 ls2 a2 (es2.length : Int) (extS ls2 a2.toNat true) HG_402.out.lg HC.out.1 (by rw [← HN2.out]; exact HC.out.2) (by rw [← HN2.out]; exact Int.le_refl _) (by rw [take_less_all HN2.out]; exact HKX.out)).mono ?_
            rintro e w5 ⟨vx, rfl, hx, hb⟩
            have HX_528 := lhid (Kd.R_lower hx HB_401.out.size)
            clear hx
            have HB_530 := lhid (below_then HB_401.out HB_401.out.size hb)
            have HG_531 := lhid (HG_402.out.next hb)
            clear HB_401 HG_402 hb
            obtain ⟨Ax, cx, rfl⟩ := Kd.R_slice HX_528.out
            go_wp2_with fail
            with_reducible refine (len_calls w.heap.size _ g es2 ls2 HG_531.out.lg).mono ?_
            rintro e w' ⟨rfl, rfl⟩
            go_wp2_with fail
            with_reducible refine (kimberlitelaw07_alive.calls 0 true _ rfl).mono ?_
            rintro e w6 ⟨rfl, hb⟩
            have HB_540 := lhid (below_then HB_530.out HB_530.out.size hb)
            have HG_541 := lhid (HG_531.out.next hb)
            have HX_542 := lhid (Kd.R_below HX_528.out hb)
            clear HB_530 HG_531 HX_528 hb
            go_wp2_with fail
            go_ret
            exact ⟨rfl, HB_540.out⟩
          · have HC := lhid hc
            clear hc
            by_cases hz : 1 ≤ (ls2.length : Int)
            · have HZ := lhid hz
              clear hz
              go_wp2_with fail
              with_reducible refine (extend_arg w.heap.size _ g es2 ls2 a2 (es2.length : Int) HG_402.out.lg (by rw [← HN2.out]; exact HZ.out) (by rw [← HN2.out]; exact Int.le_refl _) (by rw [← HN2.out]; exact HC.out)).mono ?_
              rintro e w' ⟨rfl, rfl⟩
              by_cases hm3 : 1 ≤ a2
              · have hd2 : decide (a2 ≤ (es2.length : Int)) = false := decide_eq_false (fun q => HC.out ⟨hm3, by rw [HN2.out]; exact q⟩)
                go_wp2_with fail
                with_reducible refine (len_calls w.heap.size _ g es2 ls2 HG_402.out.lg).mono ?_
                rintro e w' ⟨rfl, rfl⟩
                go_wp2_with fail
                with_reducible refine (kimberlitelaw07_alive.calls 0 true _ rfl).mono ?_
                rintro e w5 ⟨rfl, hb⟩
                have HB_563 := lhid (below_then HB_401.out HB_401.out.size hb)
                have HG_564 := lhid (HG_402.out.next hb)
                clear HB_401 HG_402 hb
                go_wp2_with fail
                go_ret
                exact ⟨rfl, HB_563.out⟩
              · go_wp2_with fail
                with_reducible refine (kimberlitelaw07_alive.calls 0 true _ rfl).mono ?_
                rintro e w5 ⟨rfl, hb⟩
                have HB_572 := lhid (below_then HB_401.out HB_401.out.size hb)
                have HG_573 := lhid (HG_402.out.next hb)
                clear HB_401 HG_402 hb
                go_wp2_with fail
                go_ret
                exact ⟨rfl, HB_572.out⟩
            · have HZ := lhid hz
              clear hz
              go_wp2_with fail
              with_reducible refine (extend_none w.heap.size _ g es2 ls2 a2 (es2.length : Int) HG_402.out.lg (by rw [← HN2.out]; have := HZ.out; omega)).mono ?_
              rintro e w' ⟨rfl, rfl⟩
              by_cases hm3 : 1 ≤ a2
              · have hd2 : decide (a2 ≤ (es2.length : Int)) = false := decide_eq_false (fun q => HC.out ⟨hm3, by rw [HN2.out]; exact q⟩)
                go_wp2_with fail
                with_reducible refine (len_calls w.heap.size _ g es2 ls2 HG_402.out.lg).mono ?_
                rintro e w' ⟨rfl, rfl⟩
                go_wp2_with fail
                with_reducible refine (kimberlitelaw07_alive.calls 0 true _ rfl).mono ?_
                rintro e w5 ⟨rfl, hb⟩
                have HB_591 := lhid (below_then HB_401.out HB_401.out.size hb)
                have HG_592 := lhid (HG_402.out.next hb)
                clear HB_401 HG_402 hb
                go_wp2_with fail
                go_ret
                exact ⟨rfl, HB_591.out⟩
              · go_wp2_with fail
                with_reducible refine (kimberlitelaw07_alive.calls 0 true _ rfl).mono ?_
                rintro e w5 ⟨rfl, hb⟩
                have HB_600 := lhid (below_then HB_401.out HB_401.out.size hb)
                have HG_601 := lhid (HG_402.out.next hb)
                clear HB_401 HG_402 hb
                go_wp2_with fail
                go_ret
                exact ⟨rfl, HB_600.out⟩
theorem proofGrows_pure : kimberlitelaw07_ProofGrows.Pure2 := fun _ _ _ _ _ h0 h1 h2 h3 h4 => ⟨0, h0, h1, h2, h3, h4, trivial⟩
end Go.Proofs.Ytacjdoekgmmfoaa.PL
