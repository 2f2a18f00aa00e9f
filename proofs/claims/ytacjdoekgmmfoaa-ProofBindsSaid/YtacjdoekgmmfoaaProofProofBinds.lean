/- ProofBinds: another entry, index, root or step is rejected, or two byte strings collide. The law's function walked by hand. -/
import Derived.Test.YtacjdoekgmmfoaaPLxPureProofBinds
import Derived.Test.YtacjdoekgmmfoaaLBi
import Derived.Test.YtacjdoekgmmfoaaPLx14
import Derived.Test.YtacjdoekgmmfoaaPLx23
import Derived.Test.YtacjdoekgmmfoaaPLx5
import Derived.Test.YtacjdoekgmmfoaaPLx7
namespace Go.Proofs.Ytacjdoekgmmfoaa.PL
open Go.RowKit Go.Proofs.YtacjdoekgmmfoaaW.PrintWords Go.Proofs.YtacjdoekgmmfoaaW.PrintLast Go.Proofs.YtacjdoekgmmfoaaW.PrintMore Go.Proofs.Ytacjdoekgmmfoaa.Opn
set_option linter.unusedVariables false
set_option linter.unusedSimpArgs false
set_option maxHeartbeats 51200000 in
set_option maxRecDepth 100000 in
theorem kimberlitelaw07_ProofBinds.calls (k : Nat) (A0 : Option Addr) (c0 : Nat) (l0 : List (List Int)) (a1 : Int) (A2 : Option Addr) (c2 : Nat) (l2 : List Int) (a3 a4 : Int) (w : World) (hr0 : Kd.C (Kd.slice 5 (Kd.int .u8)) w A0 l0.length l0) (hc0 : l0.length ≤ c0) (hr2 : Kd.C (Kd.int .u8) w A2 l2.length l2) (hc2 : l2.length ≤ c2) (h : kimberlitelaw07_ProofBinds.ok l0 a1 l2 a3 a4) :
    Calls Try.prog 7 #[.slice A0 l0.length c0, .int .i64 a1, .slice A2 l2.length c2, .int .i64 a3, .int .i64 a4] w fun e w' => e = .returned (.bool true) ∧ Below w.heap.size w w' := by
  have HR0 := lhid hr0
  have HC0 := lhid hc0
  have HR2 := lhid hr2
  have HC2 := lhid hc2
  have HOK := lhid h
  clear hr0 hc0 hr2 hc2 h
  obtain ⟨t0, ht, hft⟩ := few_ev l0
  obtain ⟨k0, hk⟩ := Ev.rounds ht
  have HK0 := lhid hk
  have HFT0 := lhid hft
  clear ht hk hft
  go_enter Try.func7, Try.ntmps7
  have HB_1 := lhid (Below.refl w.heap.size w)
  go_wp2_with fail
  with_reducible refine (kimberlitelaw07_few.calls k0 A0 c0 l0 t0 w HR0.out HC0.out HK0.out).mono ?_
  rintro e w1 ⟨rfl, nd, hq⟩
  have hb := pw_below_drewN (Below.refl w.heap.size w) nd
  rw [← hq] at hb
  clear hq
  have HR2_2 := lhid (Kd.C_below HR2.out hb)
  have HB_3 := lhid (below_then HB_1.out HB_1.out.size hb)
  clear HR2 HB_1 hb
  cases t0
  · go_wp2_with fail
    with_reducible refine (kimberlitelaw07_alive.calls 0 true _ rfl).mono ?_
    rintro e w2 ⟨rfl, hb⟩
    have HR2_4 := lhid (Kd.C_below HR2_2.out hb)
    have HB_5 := lhid (below_then HB_3.out HB_3.out.size hb)
    clear HR2_2 HB_3 hb
    go_wp2_with fail
    go_ret
    exact ⟨rfl, HB_5.out⟩
  obtain ⟨hl1, hl2⟩ := HFT0.out (by first | rfl | trivial)
  have HL1 := lhid hl1
  have HL2 := lhid hl2
  clear hl1 hl2 HFT0 HK0
  by_cases ho : l2.length ≤ 256
  · have hbd : l0.length ≤ 100 := HL1.out
    obtain ⟨k2, hk2⟩ := Ev.rounds (ev_Root l0 (by omega))
    have HK2 := lhid hk2
    clear hk2
    generalize hE : listE l0 = E at HK2
    have HE := lhid hE
    clear hE
    go_wp2_with fail
    with_reducible refine (proof_Root.calls k2 A0 c0 l0 (rootS l0) E w1 (Kd.C_below HR0.out HB_3.out) HC0.out HK2.out).mono ?_
    rintro e w2 ⟨rfl, hb⟩
    have HR2_6 := lhid (Kd.C_below HR2_2.out hb)
    have HB_7 := lhid (below_then HB_3.out HB_3.out.size hb)
    clear HR2_2 HB_3 hb
    obtain ⟨k3, hk3⟩ := Ev.rounds (ev_Include l0 a1)
    have HK3 := lhid hk3
    clear hk3
    go_wp2_with fail
    with_reducible refine (proof_Include.calls k3 A0 c0 l0 a1 (incS l0 a1).1 (incS l0 a1).2 w2 (Kd.C_below HR0.out HB_7.out) HC0.out HK3.out).mono ?_
    rintro e w3 ⟨v3, rfl, hS, hb⟩
    have HS_8 := lhid (Kd.R_lower hS HB_7.out.size)
    clear hS
    have HR2_9 := lhid (Kd.C_below HR2_6.out hb)
    have HB_10 := lhid (below_then HB_7.out HB_7.out.size hb)
    clear HR2_6 HB_7 hb
    obtain ⟨A3, c3, rfl⟩ := Kd.R_slice HS_8.out
    by_cases he : E = 0
    · subst he
      by_cases hi : 0 ≤ a1 ∧ a1 < (l0.length : Int)
      · obtain ⟨hi0, hi1⟩ := hi
        obtain ⟨i, rfl⟩ : ∃ i : Nat, a1 = i := ⟨a1.toNat, by omega⟩
        have hi2 : i < l0.length := by omega
        have e3 : incS l0 (i : Int) = (wayS (l0.map leafS) i, 0) := by unfold incS; rw [if_pos HE.out, if_pos ⟨by omega, hi1⟩]; rfl
        rw [e3] at HS_8 ⊢
        clear e3 HK3
        obtain ⟨ss, hss⟩ : ∃ x, x = wayS (l0.map leafS) i := ⟨_, rfl⟩
        rw [← hss] at HS_8 ⊢
        have HSS := lhid hss
        have hsn : ss.length < 100 := by rw [hss]; exact way_small _ _ (by rw [List.length_map]; omega)
        have hso : ∀ s ∈ ss, okH s.f0 := by rw [hss]; exact way_ok _ _ i (Nat.le_refl _) (leafs_ok l0)
        have HSO := lhid hso
        clear hss hso
        obtain ⟨ad, Ai, ci, ei, hxi, hli, hci⟩ := at_L1 HR0.out (i : Int) (by omega) (by omega)
        cases ei
        rw [rdL_at l0 i hi2] at hxi hli hci
        rw [Int.toNat_natCast] at hxi
        obtain ⟨xi, hxie⟩ : ∃ x, x = l0[i] := ⟨_, rfl⟩
        rw [← hxie] at hxi hli hci
        have hbi : byteL xi := by rw [hxie]; exact fun x q => wf_u8' ((HOK.out.1.2 _ (List.getElem_mem hi2)).2 x q)
        have hb2 : byteL l2 := fun x q => wf_u8' (HOK.out.2.2.1.2 x q)
        have hz := listE_zero.1 HE.out
        have hxl : xi.length ≤ 256 := by rw [hxie]; exact hz.2 _ (List.getElem_mem hi2)
        have hin := (incl_true l0 HE.out i hi2).1
        rw [← hxie] at hin
        rw [← HSS.out] at hin
        have HXI := lhid hxi
        have HLI := lhid hli
        have HCI := lhid hci
        have HXIE := lhid hxie
        have HBI := lhid hbi
        have HB2 := lhid hb2
        have HIN := lhid hin
        have HXL := lhid hxl
        clear hxi hli hci hxie hbi hb2 hin hxl hz
        have HXI0 := HXI
        have HCI_11 := lhid (Kd.C_below HCI.out HB_10.out)
        have HXI_12 := lhid (pw_cell_below HB_10.out HXI.out)
        have hwz : ∀ z : Int, 0 ≤ IntKind.u64.wrap z := fun z => by rw [IntKind.wrap_u64]; omega
        obtain ⟨fl, hsh, hfo, hfz⟩ := shl_flip .u64 ((IntKind.u64.wrap a4).tmod 64) (by rw [Int.tmod_eq_emod_of_nonneg (hwz a4)]; omega) (by rw [Int.tmod_eq_emod_of_nonneg (hwz a4)]; omega)
        have hro : okH (rootS l0) := by unfold rootS; rw [if_pos HE.out]; exact top_ok _ (leafs_ok l0)
        have hxo := incl_root HIN.out (xor_ne (rootS l0) fl hro hfo hfz)
        clear hwz hfo hfz hro
        obtain ⟨k5, hk5⟩ := Ev.rounds (ev_Included xi (i : Int) (l0.length : Int) (bits .xor .u64 (rootS l0) fl) ss (by have := HXL.out; omega) (by omega) HSO.out)
        rw [hxo] at hk5
        have HK5 := lhid hk5
        clear hk5 hxo
        have hx0 := HXI_12.out
        go_wp2_with fail
        obtain ⟨_, hcs, hCS⟩ := Kd.R_reads' HS_8.out
        have HCS := lhid hCS
        have HHS := lhid hcs
        clear hCS hcs
        with_reducible refine (proof_Included.calls k5 Ai ci xi (i : Int) (l0.length : Int) _ A3 c3 ss false 0 _ HCI_11.out HLI.out HCS.out HHS.out HK5.out).mono ?_
        rintro e w4 ⟨rfl, hb⟩
        have HR2_13 := lhid (Kd.C_below HR2_9.out hb)
        have HB_14 := lhid (below_then HB_10.out HB_10.out.size hb)
        have HS_15 := lhid (Kd.R_below HS_8.out hb)
        have HCI_16 := lhid (Kd.C_below HCI_11.out hb)
        have HXI_17 := lhid (pw_cell_below hb HXI_12.out)
        have CS_18 := lhid (Kd.C_below HCS.out hb)
        clear HR2_9 HB_10 HS_8 HCI_11 HXI_12 HCS hb
        clear hx0 hsh HK5
        go_wp2_with fail
        have hb := below_drew1 (Below.refl w4.heap.size w4)
        have HR2_19 := lhid (Kd.C_below HR2_13.out hb)
        have HB_20 := lhid (below_then HB_14.out HB_14.out.size hb)
        have HS_21 := lhid (Kd.R_below HS_15.out hb)
        have HCI_22 := lhid (Kd.C_below HCI_16.out hb)
        have HXI_23 := lhid (pw_cell_below hb HXI_17.out)
        have CS_24 := lhid (Kd.C_below CS_18.out hb)
        clear HR2_13 HB_14 HS_15 HCI_16 HXI_17 CS_18 hb
        refine start_ (n := 8) (S := fun w' => w'.cell? (ad.add i) = some (.slice Ai xi.length ci) ∧ (convert 22 9 (.slice A2 l2.length c2)).run Try.prog w' = .ok (.string (strOfNums l2)) w' ∧ (convert 22 9 (.slice Ai xi.length ci)).run Try.prog w' = .ok (.string (strOfNums xi)) w') (ds := []) #[false, false, false, false, false, false, false, false] (by kernel_rfl) rfl rfl ⟨HXI_23.out, Kd.C_string (P := Try.prog) (A := A2) (c := c2) Try.underlying22 Try.underlying5 Try.underlying9 HR2_19.out, Kd.C_string (P := Try.prog) (A := Ai) (c := ci) Try.underlying22 Try.underlying5 Try.underlying9 HCI_22.out⟩ (fun hHeld => ?_)
        generalize w4.drew = w5 at HR2_19 HB_20 HS_21 HCI_22 HXI_23 CS_24 hHeld ⊢
        refine pure_ (i := 0) (N := some 73) (v := ?_) (a' := ?_) #[true, false, false, false, false, false, false, false] rfl rfl (by kernel_rfl) (fun _ _ _ h => h) (Or.inl ⟨by rfl, ?_⟩) ?_ ?_
        rotate_left
        · intro w'
          go_simp
          with_reducible rfl
        rotate_left
        · simp only [Act.put, List.setIfInBounds_toArray, List.set_cons_zero, List.set_cons_succ, i64_w, i32_w]
          rfl
        refine pure_ (i := 2) (N := some 75) (v := ?_) (a' := ?_) #[true, false, true, false, false, false, false, false] rfl rfl (by kernel_rfl) (fun _ _ _ h => h) (Or.inl ⟨by rfl, ?_⟩) ?_ ?_
        rotate_left
        · intro w'
          go_simp
          with_reducible rfl
        rotate_left
        · simp only [Act.put, List.setIfInBounds_toArray, List.set_cons_zero, List.set_cons_succ, i64_w, i32_w]
          rfl
        refine pure_ (i := 3) (N := some 76) (v := ?_) (a' := ?_) #[true, false, true, true, false, false, false, false] rfl rfl (by kernel_rfl) (fun _ _ _ h => h) (Or.inl ⟨by rfl, ?_⟩) ?_ ?_
        rotate_left
        · intro w'
          go_simp
          with_reducible rfl
        rotate_left
        · simp only [Act.put, List.setIfInBounds_toArray, List.set_cons_zero, List.set_cons_succ, i64_w, i32_w]
          rfl
        refine pure_ (i := 4) (N := some 77) (v := ?_) (a' := ?_) #[true, false, true, true, true, false, false, false] rfl rfl (by kernel_rfl) (fun _ _ _ h => h) (Or.inl ⟨by rfl, ?_⟩) ?_ ?_
        rotate_left
        · intro w'
          go_simp
          with_reducible rfl
        rotate_left
        · simp only [Act.put, List.setIfInBounds_toArray, List.set_cons_zero, List.set_cons_succ, i64_w, i32_w]
          rfl
        refine take_ (i := 1) (N := some 74) (v := ?_) (a' := ?_) #[true, true, true, true, true, false, false, false] rfl rfl (by kernel_rfl) (fun _ _ _ h => h) (Or.inl ⟨by rfl, ?_⟩) hHeld ?_ ?_
        rotate_left
        · rintro w' ⟨s0, s1, s2⟩
          go_simp
          with_reducible rfl
        rotate_left
        · simp only [Act.put, List.setIfInBounds_toArray, List.set_cons_zero, List.set_cons_succ, i64_w, i32_w]
          rfl
        refine take_ (i := 5) (N := some 78) (v := ?_) (a' := ?_) #[true, true, true, true, true, true, false, false] rfl rfl (by kernel_rfl) (fun _ _ _ h => h) (Or.inl ⟨by rfl, ?_⟩) hHeld ?_ ?_
        rotate_left
        · rintro w' ⟨s0, s1, s2⟩
          go_simp
          with_reducible rfl
        rotate_left
        · simp only [Act.put, List.setIfInBounds_toArray, List.set_cons_zero, List.set_cons_succ, i64_w, i32_w]
          rfl
        refine take_ (i := 6) (N := some 79) (v := ?_) (a' := ?_) #[true, true, true, true, true, true, true, false] rfl rfl (by kernel_rfl) (fun _ _ _ h => h) (Or.inl ⟨by rfl, ?_⟩) hHeld ?_ ?_
        rotate_left
        · rintro w' ⟨s0, s1, s2⟩
          go_simp
          with_reducible rfl
        rotate_left
        · simp only [Act.put, List.setIfInBounds_toArray, List.set_cons_zero, List.set_cons_succ, i64_w, i32_w]
          rfl
        refine pure_ (i := 7) (N := some 80) (v := ?_) (a' := ?_) #[true, true, true, true, true, true, true, true] rfl rfl (by kernel_rfl) (fun _ _ _ h => h) (Or.inl ⟨by rfl, ?_⟩) ?_ ?_
        rotate_left
        · intro w'
          go_simp
          with_reducible rfl
        rotate_left
        · simp only [Act.put, List.setIfInBounds_toArray, List.set_cons_zero, List.set_cons_succ, i64_w, i32_w]
          rfl
        refine done_ (by kernel_rfl) ?_
        
        go_upto_if 80 with (fail)
        generalize hB1 : ((strOfNums l2).toList == (strOfNums xi).toList) = B1
        have HB1 := lhid hB1
        clear hB1
        go_cut [17] (fun s17 wx => Hid (Below w.heap.size w wx) ∧ Hid (Kd.R k54 54 wx w.heap.size (fun _ => True) (.slice A3 ss.length c3) ss) ∧ Hid (Kd.C (Kd.int .u8) wx Ai xi.length xi) ∧ Hid (Kd.C (Kd.int .u8) wx A2 l2.length l2) ∧ Hid (wx.cell? (ad.add i) = some (.slice Ai xi.length ci)))
        case first =>
          by_cases hb2 : B1 = true
          · subst hb2
            go_wp2_with fail
            go_meet
            exact ⟨HB_20, HS_21, HCI_22, HR2_19, HXI_23⟩
          · have hb3 : B1 = false := by cases B1; rfl; exact (hb2 rfl).elim
            subst hb3
            have HS2 := lhid (show l2 ≠ xi from fun q => absurd HB1.out (by rw [q, beq_self_eq_true]; decide))
            clear hb2
            obtain ⟨x2, hx2⟩ : ∃ x, x = (inclS l2 (i : Int) (l0.length : Int) (rootS l0) ss).1 := ⟨_, rfl⟩
            obtain ⟨k6, hk6⟩ := Ev.rounds (ev_Included l2 (i : Int) (l0.length : Int) (rootS l0) ss (by omega) (by omega) HSO.out)
            replace hk6 := hk6.trans (show some (inclS l2 (i : Int) (l0.length : Int) (rootS l0) ss) = some (x2, 0) by rw [hx2, ← incl_code (e := l2) (i := (i : Int)) (n := (l0.length : Int)) (root := rootS l0) (ss := ss) ⟨by omega, by omega, by omega, by omega⟩ (by omega)])
            have HX2 := lhid hx2
            have HK6 := lhid hk6
            clear hx2 hk6
            go_wp2_with fail
            with_reducible refine (proof_Included.calls k6 A2 c2 l2 (i : Int) (l0.length : Int) (rootS l0) A3 c3 ss x2 0 w5 HR2_19.out HC2.out CS_24.out HHS.out HK6.out).mono ?_
            rintro e w6 ⟨rfl, hb⟩
            have HR2_25 := lhid (Kd.C_below HR2_19.out hb)
            have HB_26 := lhid (below_then HB_20.out HB_20.out.size hb)
            have HS_27 := lhid (Kd.R_below HS_21.out hb)
            have HCI_28 := lhid (Kd.C_below HCI_22.out hb)
            have HXI_29 := lhid (pw_cell_below hb HXI_23.out)
            have CS_30 := lhid (Kd.C_below CS_24.out hb)
            clear HR2_19 HB_20 HS_21 HCI_22 HXI_23 CS_24 hb
            have hx0 := HXI_29.out
            cases x2
            · go_wp2_with fail
              go_meet
              exact ⟨HB_26, HS_27, HCI_28, HR2_25, HXI_29⟩
            · go_wp2_with fail
              with_reducible refine (blamed_calls (i : Int) (l0.length : Int) Ai ci xi A3 c3 ss A2 c2 l2 A3 c3 ss (rootS l0) _ HCI_28.out HLI.out CS_30.out HHS.out HR2_25.out HC2.out CS_30.out HHS.out HBI.out HB2.out (by omega) (by omega) HSO.out HSO.out (Ne.symm HS2.out) (by rw [HIN.out]) HX2.out.symm).mono ?_
              rintro e w7 ⟨rfl, hb⟩
              have HR2_31 := lhid (Kd.C_below HR2_25.out hb)
              have HB_32 := lhid (below_then HB_26.out HB_26.out.size hb)
              have HS_33 := lhid (Kd.R_below HS_27.out hb)
              have HCI_34 := lhid (Kd.C_below HCI_28.out hb)
              have HXI_35 := lhid (pw_cell_below hb HXI_29.out)
              have CS_36 := lhid (Kd.C_below CS_30.out hb)
              clear HR2_25 HB_26 HS_27 HCI_28 HXI_29 CS_30 hb
              go_wp2_with fail
              go_meet
              exact ⟨HB_32, HS_33, HCI_34, HR2_31, HXI_35⟩
        case rest =>
          clear HHS
          obtain ⟨HBc_37, HSc_38, HCIc_39, HR2c_40, HXIc_41⟩ := hcut
          obtain ⟨_, hcs, hCS⟩ := Kd.R_reads' HSc_38.out
          have HCS := lhid hCS
          have HHS := lhid hcs
          clear hCS hcs
          obtain ⟨j, hj, hj2⟩ : ∃ q : Nat, (IntKind.u64.wrap a3).tmod (l0.length : Int) = (q : Int) ∧ q < l0.length := ⟨((IntKind.u64.wrap a3) % (l0.length : Int)).toNat, by
            have h0 : 0 ≤ IntKind.u64.wrap a3 := by rw [IntKind.wrap_u64]; omega
            rw [Int.tmod_eq_emod_of_nonneg h0]
            have h1 := Int.emod_nonneg (IntKind.u64.wrap a3) (show (l0.length : Int) ≠ 0 by omega)
            omega, by
            have h1 := Int.emod_lt_of_pos (IntKind.u64.wrap a3) (show (0 : Int) < (l0.length : Int) by omega)
            omega⟩
          go_upto_region 17 with (fail)
          clear hj
          have hj0 : (0 : Int) ≤ (j : Int) := by omega
          have hj1 : (j : Int) < (l0.length : Int) := by omega
          obtain ⟨ad2, Aj, cj, ej, hxj, hlj, hcj⟩ := at_L1 HR0.out (j : Int) (by omega) (by omega)
          cases ej
          rw [rdL_at l0 j hj2] at hxj hlj hcj
          rw [Int.toNat_natCast] at hxj
          obtain ⟨xj, hxje⟩ : ∃ x, x = l0[j] := ⟨_, rfl⟩
          rw [← hxje] at hxj hlj hcj
          have hbj : byteL xj := by rw [hxje]; exact fun x q => wf_u8' ((HOK.out.1.2 _ (List.getElem_mem hj2)).2 x q)
          have hinj := (incl_true l0 HE.out j hj2).1
          rw [← hxje] at hinj
          have HXJ := lhid hxj
          have HLJ := lhid hlj
          have HCJ := lhid hcj
          have HBJ := lhid hbj
          have HINJ := lhid hinj
          clear hxj hlj hcj hxje hbj hinj
          have HCJ_42 := lhid (Kd.C_below HCJ.out HBc_37.out)
          have HXJ_43 := lhid (pw_cell_below HBc_37.out HXJ.out)
          have hb := below_drew1 (Below.refl wc.heap.size wc)
          have HB_44 := lhid (below_then HBc_37.out HBc_37.out.size hb)
          have HS_45 := lhid (Kd.R_below HSc_38.out hb)
          have HCI_46 := lhid (Kd.C_below HCIc_39.out hb)
          have HR2_47 := lhid (Kd.C_below HR2c_40.out hb)
          have HXI_48 := lhid (pw_cell_below hb HXIc_41.out)
          have CS_49 := lhid (Kd.C_below HCS.out hb)
          have HCJ_50 := lhid (Kd.C_below HCJ_42.out hb)
          have HXJ_51 := lhid (pw_cell_below hb HXJ_43.out)
          clear HBc_37 HSc_38 HCIc_39 HR2c_40 HXIc_41 HCS HCJ_42 HXJ_43 hb
          refine start_ (n := 11) (S := fun w' => w'.cell? (ad.add j) = some (.slice Aj xj.length cj) ∧ w'.cell? (ad.add i) = some (.slice Ai xi.length ci) ∧ (convert 22 9 (.slice Aj xj.length cj)).run Try.prog w' = .ok (.string (strOfNums xj)) w' ∧ (convert 22 9 (.slice Ai xi.length ci)).run Try.prog w' = .ok (.string (strOfNums xi)) w') (ds := []) #[false, false, false, false, false, false, false, false, false, false, false] (by kernel_rfl) rfl rfl ⟨HXJ_51.out, HXI_48.out, Kd.C_string (P := Try.prog) (A := Aj) (c := cj) Try.underlying22 Try.underlying5 Try.underlying9 HCJ_50.out, Kd.C_string (P := Try.prog) (A := Ai) (c := ci) Try.underlying22 Try.underlying5 Try.underlying9 HCI_46.out⟩ (fun hHeld => ?_)
          generalize wc.drew = w7 at HB_44 HS_45 HCI_46 HR2_47 HXI_48 CS_49 HCJ_50 HXJ_51 hHeld ⊢
          refine pure_ (i := 0) (N := some 114) (v := ?_) (a' := ?_) #[true, false, false, false, false, false, false, false, false, false, false] rfl rfl (by kernel_rfl) (fun _ _ _ h => h) (Or.inl ⟨by rfl, ?_⟩) ?_ ?_
          rotate_left
          · intro w'
            go_simp
            with_reducible rfl
          rotate_left
          · simp only [Act.put, List.setIfInBounds_toArray, List.set_cons_zero, List.set_cons_succ, i64_w, i32_w]
            rfl
          refine pure_ (i := 1) (N := some 115) (v := ?_) (a' := ?_) #[true, true, false, false, false, false, false, false, false, false, false] rfl rfl (by kernel_rfl) (fun _ _ _ h => h) (Or.inl ⟨by rfl, ?_⟩) ?_ ?_
          rotate_left
          · intro w'
            go_simp
            with_reducible rfl
          rotate_left
          · simp only [Act.put, List.setIfInBounds_toArray, List.set_cons_zero, List.set_cons_succ, i64_w, i32_w]
            rfl
          refine pure_ (i := 2) (N := some 116) (v := ?_) (a' := ?_) #[true, true, true, false, false, false, false, false, false, false, false] rfl rfl (by kernel_rfl) (fun _ _ _ h => h) (Or.inl ⟨by rfl, ?_⟩) ?_ ?_
          rotate_left
          · intro w'
            go_simp
            with_reducible rfl
          rotate_left
          · simp only [Act.put, List.setIfInBounds_toArray, List.set_cons_zero, List.set_cons_succ, i64_w, i32_w]
            rfl
          refine pure_ (i := 5) (N := some 119) (v := ?_) (a' := ?_) #[true, true, true, false, false, true, false, false, false, false, false] rfl rfl (by kernel_rfl) (fun _ _ _ h => h) (Or.inl ⟨by rfl, ?_⟩) ?_ ?_
          rotate_left
          · intro w'
            go_simp
            with_reducible rfl
          rotate_left
          · simp only [Act.put, List.setIfInBounds_toArray, List.set_cons_zero, List.set_cons_succ, i64_w, i32_w]
            rfl
          refine pure_ (i := 6) (N := some 120) (v := ?_) (a' := ?_) #[true, true, true, false, false, true, true, false, false, false, false] rfl rfl (by kernel_rfl) (fun _ _ _ h => h) (Or.inl ⟨by rfl, ?_⟩) ?_ ?_
          rotate_left
          · intro w'
            go_simp
            with_reducible rfl
          rotate_left
          · simp only [Act.put, List.setIfInBounds_toArray, List.set_cons_zero, List.set_cons_succ, i64_w, i32_w]
            rfl
          refine pure_ (i := 7) (N := some 121) (v := ?_) (a' := ?_) #[true, true, true, false, false, true, true, true, false, false, false] rfl rfl (by kernel_rfl) (fun _ _ _ h => h) (Or.inl ⟨by rfl, ?_⟩) ?_ ?_
          rotate_left
          · intro w'
            go_simp
            with_reducible rfl
          rotate_left
          · simp only [Act.put, List.setIfInBounds_toArray, List.set_cons_zero, List.set_cons_succ, i64_w, i32_w]
            rfl
          refine take_ (i := 3) (N := some 117) (v := ?_) (a' := ?_) #[true, true, true, true, false, true, true, true, false, false, false] rfl rfl (by kernel_rfl) (fun _ _ _ h => h) (Or.inl ⟨by rfl, ?_⟩) hHeld ?_ ?_
          rotate_left
          · rintro w' ⟨s0, s1, s2, s3⟩
            go_simp
            with_reducible rfl
          rotate_left
          · simp only [Act.put, List.setIfInBounds_toArray, List.set_cons_zero, List.set_cons_succ, i64_w, i32_w]
            rfl
          refine take_ (i := 4) (N := some 118) (v := ?_) (a' := ?_) #[true, true, true, true, true, true, true, true, false, false, false] rfl rfl (by kernel_rfl) (fun _ _ _ h => h) (Or.inl ⟨by rfl, ?_⟩) hHeld ?_ ?_
          rotate_left
          · rintro w' ⟨s0, s1, s2, s3⟩
            go_simp
            with_reducible rfl
          rotate_left
          · simp only [Act.put, List.setIfInBounds_toArray, List.set_cons_zero, List.set_cons_succ, i64_w, i32_w]
            rfl
          refine take_ (i := 8) (N := some 122) (v := ?_) (a' := ?_) #[true, true, true, true, true, true, true, true, true, false, false] rfl rfl (by kernel_rfl) (fun _ _ _ h => h) (Or.inl ⟨by rfl, ?_⟩) hHeld ?_ ?_
          rotate_left
          · rintro w' ⟨s0, s1, s2, s3⟩
            go_simp
            with_reducible rfl
          rotate_left
          · simp only [Act.put, List.setIfInBounds_toArray, List.set_cons_zero, List.set_cons_succ, i64_w, i32_w]
            rfl
          refine take_ (i := 9) (N := some 123) (v := ?_) (a' := ?_) #[true, true, true, true, true, true, true, true, true, true, false] rfl rfl (by kernel_rfl) (fun _ _ _ h => h) (Or.inl ⟨by rfl, ?_⟩) hHeld ?_ ?_
          rotate_left
          · rintro w' ⟨s0, s1, s2, s3⟩
            go_simp
            with_reducible rfl
          rotate_left
          · simp only [Act.put, List.setIfInBounds_toArray, List.set_cons_zero, List.set_cons_succ, i64_w, i32_w]
            rfl
          refine pure_ (i := 10) (N := some 124) (v := ?_) (a' := ?_) #[true, true, true, true, true, true, true, true, true, true, true] rfl rfl (by kernel_rfl) (fun _ _ _ h => h) (Or.inl ⟨by rfl, ?_⟩) ?_ ?_
          rotate_left
          · intro w'
            go_simp
            with_reducible rfl
          rotate_left
          · simp only [Act.put, List.setIfInBounds_toArray, List.set_cons_zero, List.set_cons_succ, i64_w, i32_w]
            rfl
          refine done_ (by kernel_rfl) ?_
          
          go_upto_if 124 with (fail)
          generalize hB4 : ((strOfNums xj).toList == (strOfNums xi).toList) = B4
          have HB4 := lhid hB4
          clear hB4
          go_cut [17] (fun s17 wx => Hid (Below w.heap.size w wx) ∧ Hid (Kd.R k54 54 wx w.heap.size (fun _ => True) (.slice A3 ss.length c3) ss) ∧ Hid (Kd.C (Kd.int .u8) wx Ai xi.length xi) ∧ Hid (Kd.C (Kd.int .u8) wx A2 l2.length l2) ∧ Hid (wx.cell? (ad.add i) = some (.slice Ai xi.length ci)))
          case first =>
            by_cases hb4 : B4 = true
            · subst hb4
              go_wp2_with fail
              go_meet
              exact ⟨HB_44, HS_45, HCI_46, HR2_47, HXI_48⟩
            · have hb5 : B4 = false := by cases B4; rfl; exact (hb4 rfl).elim
              subst hb5
              have HS3 := lhid (show xj ≠ xi from fun q => absurd HB4.out (by rw [q, beq_self_eq_true]; decide))
              clear hb4
              obtain ⟨x3, hx3⟩ : ∃ x, x = (inclS xi (j : Int) (l0.length : Int) (rootS l0) ss).1 := ⟨_, rfl⟩
              obtain ⟨k7, hk7⟩ := Ev.rounds (ev_Included xi (j : Int) (l0.length : Int) (rootS l0) ss (by have := HXL.out; omega) (by omega) HSO.out)
              replace hk7 := hk7.trans (show some (inclS xi (j : Int) (l0.length : Int) (rootS l0) ss) = some (x3, 0) by rw [hx3, ← incl_code (e := xi) (i := (j : Int)) (n := (l0.length : Int)) (root := rootS l0) (ss := ss) ⟨by omega, by omega, by omega, by omega⟩ (by have := HXL.out; omega)])
              have HX3 := lhid hx3
              have HK7 := lhid hk7
              clear hx3 hk7
              obtain ⟨k8, hk8⟩ := Ev.rounds (ev_Include l0 (j : Int))
              have e8 : incS l0 (j : Int) = (wayS (l0.map leafS) j, 0) := by unfold incS; rw [if_pos HE.out, if_pos (by omega)]; rfl
              rw [e8] at hk8
              have HK8 := lhid hk8
              clear hk8 e8
              have hx0 := HXI_48.out
              go_wp2_with fail
              with_reducible refine (proof_Included.calls k7 Ai ci xi (j : Int) (l0.length : Int) (rootS l0) A3 c3 ss x3 0 w7 HCI_46.out HLI.out CS_49.out HHS.out HK7.out).mono ?_
              rintro e w8 ⟨rfl, hb⟩
              have HB_52 := lhid (below_then HB_44.out HB_44.out.size hb)
              have HS_53 := lhid (Kd.R_below HS_45.out hb)
              have HCI_54 := lhid (Kd.C_below HCI_46.out hb)
              have HR2_55 := lhid (Kd.C_below HR2_47.out hb)
              have HXI_56 := lhid (pw_cell_below hb HXI_48.out)
              have CS_57 := lhid (Kd.C_below CS_49.out hb)
              have HCJ_58 := lhid (Kd.C_below HCJ_50.out hb)
              have HXJ_59 := lhid (pw_cell_below hb HXJ_51.out)
              clear HB_44 HS_45 HCI_46 HR2_47 HXI_48 CS_49 HCJ_50 HXJ_51 hb
              clear hx0
              go_wp2_with fail
              with_reducible refine (proof_Include.calls k8 _ c0 l0 (j : Int) (wayS (l0.map leafS) j) 0 w8 (Kd.C_below HR0.out HB_52.out) HC0.out HK8.out).mono ?_
              rintro e w9 ⟨v8, rfl, hT, hb⟩
              have HT_60 := lhid (Kd.R_lower hT HB_52.out.size)
              clear hT
              have HB_61 := lhid (below_then HB_52.out HB_52.out.size hb)
              have HS_62 := lhid (Kd.R_below HS_53.out hb)
              have HCI_63 := lhid (Kd.C_below HCI_54.out hb)
              have HR2_64 := lhid (Kd.C_below HR2_55.out hb)
              have HXI_65 := lhid (pw_cell_below hb HXI_56.out)
              have CS_66 := lhid (Kd.C_below CS_57.out hb)
              have HCJ_67 := lhid (Kd.C_below HCJ_58.out hb)
              have HXJ_68 := lhid (pw_cell_below hb HXJ_59.out)
              clear HB_52 HS_53 HCI_54 HR2_55 HXI_56 CS_57 HCJ_58 HXJ_59 hb
              obtain ⟨A8, c8, rfl⟩ := Kd.R_slice HT_60.out
              obtain ⟨_, hct, hCT⟩ := Kd.R_reads' HT_60.out
              have HCT := lhid hCT
              have HHT := lhid hct
              clear hCT hct
              go_upto_region 20 with (fail)
              cases x3
              · have hb := below_drew1 (Below.refl w9.heap.size w9)
                have HB_69 := lhid (below_then HB_61.out HB_61.out.size hb)
                have HS_70 := lhid (Kd.R_below HS_62.out hb)
                have HCI_71 := lhid (Kd.C_below HCI_63.out hb)
                have HR2_72 := lhid (Kd.C_below HR2_64.out hb)
                have HXI_73 := lhid (pw_cell_below hb HXI_65.out)
                have CS_74 := lhid (Kd.C_below CS_66.out hb)
                have HCJ_75 := lhid (Kd.C_below HCJ_67.out hb)
                have HXJ_76 := lhid (pw_cell_below hb HXJ_68.out)
                have HT_77 := lhid (Kd.R_below HT_60.out hb)
                have CT_78 := lhid (Kd.C_below HCT.out hb)
                clear HB_61 HS_62 HCI_63 HR2_64 HXI_65 CS_66 HCJ_67 HXJ_68 HT_60 HCT hb
                refine start_ (n := 25) (S := fun w' => w'.cell? (ad.add j) = some (.slice Aj xj.length cj) ∧ w'.cell? (ad.add i) = some (.slice Ai xi.length ci)) (ds := []) #[false, false, false, false, false, false, false, false, false, false, false, false, false, false, false, false, false, false, false, false, false, false, false, false, false] (by kernel_rfl) rfl rfl ⟨HXJ_76.out, HXI_73.out⟩ (fun hHeld => ?_)
                generalize w9.drew = w10 at HB_69 HS_70 HCI_71 HR2_72 HXI_73 CS_74 HCJ_75 HXJ_76 HT_77 CT_78 hHeld ⊢
                refine pure_ (i := 0) (N := some 143) (v := ?_) (a' := ?_) #[true, false, false, false, false, false, false, false, false, false, false, false, false, false, false, false, false, false, false, false, false, false, false, false, false] rfl rfl (by kernel_rfl) (fun _ _ _ h => h) (Or.inl ⟨by rfl, ?_⟩) ?_ ?_
                rotate_left
                · intro w'
                  go_simp
                  with_reducible rfl
                rotate_left
                · simp only [Act.put, List.setIfInBounds_toArray, List.set_cons_zero, List.set_cons_succ, i64_w, i32_w]
                  rfl
                refine pure_ (i := 1) (N := some 144) (v := ?_) (a' := ?_) #[true, true, false, false, false, false, false, false, false, false, false, false, false, false, false, false, false, false, false, false, false, false, false, false, false] rfl rfl (by kernel_rfl) (fun _ _ _ h => h) (Or.inl ⟨by rfl, ?_⟩) ?_ ?_
                rotate_left
                · intro w'
                  go_simp
                  with_reducible rfl
                rotate_left
                · simp only [Act.put, List.setIfInBounds_toArray, List.set_cons_zero, List.set_cons_succ, i64_w, i32_w]
                  rfl
                refine pure_ (i := 2) (N := some 145) (v := ?_) (a' := ?_) #[true, true, true, false, false, false, false, false, false, false, false, false, false, false, false, false, false, false, false, false, false, false, false, false, false] rfl rfl (by kernel_rfl) (fun _ _ _ h => h) (Or.inl ⟨by rfl, ?_⟩) ?_ ?_
                rotate_left
                · intro w'
                  go_simp
                  with_reducible rfl
                rotate_left
                · simp only [Act.put, List.setIfInBounds_toArray, List.set_cons_zero, List.set_cons_succ, i64_w, i32_w]
                  rfl
                refine pure_ (i := 3) (N := some 146) (v := ?_) (a' := ?_) #[true, true, true, true, false, false, false, false, false, false, false, false, false, false, false, false, false, false, false, false, false, false, false, false, false] rfl rfl (by kernel_rfl) (fun _ _ _ h => h) (Or.inl ⟨by rfl, ?_⟩) ?_ ?_
                rotate_left
                · intro w'
                  go_simp
                  with_reducible rfl
                rotate_left
                · simp only [Act.put, List.setIfInBounds_toArray, List.set_cons_zero, List.set_cons_succ, i64_w, i32_w]
                  rfl
                refine pure_ (i := 4) (N := some 147) (v := ?_) (a' := ?_) #[true, true, true, true, true, false, false, false, false, false, false, false, false, false, false, false, false, false, false, false, false, false, false, false, false] rfl rfl (by kernel_rfl) (fun _ _ _ h => h) (Or.inl ⟨by rfl, ?_⟩) ?_ ?_
                rotate_left
                · intro w'
                  go_simp
                  with_reducible rfl
                rotate_left
                · simp only [Act.put, List.setIfInBounds_toArray, List.set_cons_zero, List.set_cons_succ, i64_w, i32_w]
                  rfl
                refine pure_ (i := 5) (N := some 148) (v := ?_) (a' := ?_) #[true, true, true, true, true, true, false, false, false, false, false, false, false, false, false, false, false, false, false, false, false, false, false, false, false] rfl rfl (by kernel_rfl) (fun _ _ _ h => h) (Or.inl ⟨by rfl, ?_⟩) ?_ ?_
                rotate_left
                · intro w'
                  go_simp
                  with_reducible rfl
                rotate_left
                · simp only [Act.put, List.setIfInBounds_toArray, List.set_cons_zero, List.set_cons_succ, i64_w, i32_w]
                  rfl
                refine pure_ (i := 6) (N := some 149) (v := ?_) (a' := ?_) #[true, true, true, true, true, true, true, false, false, false, false, false, false, false, false, false, false, false, false, false, false, false, false, false, false] rfl rfl (by kernel_rfl) (fun _ _ _ h => h) (Or.inl ⟨by rfl, ?_⟩) ?_ ?_
                rotate_left
                · intro w'
                  go_simp
                  with_reducible rfl
                rotate_left
                · simp only [Act.put, List.setIfInBounds_toArray, List.set_cons_zero, List.set_cons_succ, i64_w, i32_w]
                  rfl
                refine pure_ (i := 7) (N := some 150) (v := ?_) (a' := ?_) #[true, true, true, true, true, true, true, true, false, false, false, false, false, false, false, false, false, false, false, false, false, false, false, false, false] rfl rfl (by kernel_rfl) (fun _ _ _ h => h) (Or.inl ⟨by rfl, ?_⟩) ?_ ?_
                rotate_left
                · intro w'
                  go_simp
                  with_reducible rfl
                rotate_left
                · simp only [Act.put, List.setIfInBounds_toArray, List.set_cons_zero, List.set_cons_succ, i64_w, i32_w]
                  rfl
                refine pure_ (i := 8) (N := some 151) (v := ?_) (a' := ?_) #[true, true, true, true, true, true, true, true, true, false, false, false, false, false, false, false, false, false, false, false, false, false, false, false, false] rfl rfl (by kernel_rfl) (fun _ _ _ h => h) (Or.inl ⟨by rfl, ?_⟩) ?_ ?_
                rotate_left
                · intro w'
                  go_simp
                  with_reducible rfl
                rotate_left
                · simp only [Act.put, List.setIfInBounds_toArray, List.set_cons_zero, List.set_cons_succ, i64_w, i32_w]
                  rfl
                refine pure_ (i := 9) (N := some 152) (v := undef) (a' := ?_) #[true, true, true, true, true, true, true, true, true, true, false, false, false, false, false, false, false, false, false, false, false, false, false, false, false] rfl rfl (by kernel_rfl) (fun _ _ _ h => h) (Or.inr ⟨by rfl, rfl⟩) ?_ ?_
                rotate_left
                · simp only [Act.put, List.setIfInBounds_toArray, List.set_cons_zero, List.set_cons_succ, i64_w, i32_w]
                  rfl
                refine pure_ (i := 10) (N := some 153) (v := undef) (a' := ?_) #[true, true, true, true, true, true, true, true, true, true, true, false, false, false, false, false, false, false, false, false, false, false, false, false, false] rfl rfl (by kernel_rfl) (fun _ _ _ h => h) (Or.inr ⟨by rfl, rfl⟩) ?_ ?_
                rotate_left
                · simp only [Act.put, List.setIfInBounds_toArray, List.set_cons_zero, List.set_cons_succ, i64_w, i32_w]
                  rfl
                refine pure_ (i := 11) (N := some 154) (v := undef) (a' := ?_) #[true, true, true, true, true, true, true, true, true, true, true, true, false, false, false, false, false, false, false, false, false, false, false, false, false] rfl rfl (by kernel_rfl) (fun _ _ _ h => h) (Or.inr ⟨by rfl, rfl⟩) ?_ ?_
                rotate_left
                · simp only [Act.put, List.setIfInBounds_toArray, List.set_cons_zero, List.set_cons_succ, i64_w, i32_w]
                  rfl
                refine pure_ (i := 12) (N := some 155) (v := undef) (a' := ?_) #[true, true, true, true, true, true, true, true, true, true, true, true, true, false, false, false, false, false, false, false, false, false, false, false, false] rfl rfl (by kernel_rfl) (fun _ _ _ h => h) (Or.inr ⟨by rfl, rfl⟩) ?_ ?_
                rotate_left
                · simp only [Act.put, List.setIfInBounds_toArray, List.set_cons_zero, List.set_cons_succ, i64_w, i32_w]
                  rfl
                refine pure_ (i := 13) (N := some 156) (v := undef) (a' := ?_) #[true, true, true, true, true, true, true, true, true, true, true, true, true, true, false, false, false, false, false, false, false, false, false, false, false] rfl rfl (by kernel_rfl) (fun _ _ _ h => h) (Or.inr ⟨by rfl, rfl⟩) ?_ ?_
                rotate_left
                · simp only [Act.put, List.setIfInBounds_toArray, List.set_cons_zero, List.set_cons_succ, i64_w, i32_w]
                  rfl
                refine pure_ (i := 14) (N := some 157) (v := undef) (a' := ?_) #[true, true, true, true, true, true, true, true, true, true, true, true, true, true, true, false, false, false, false, false, false, false, false, false, false] rfl rfl (by kernel_rfl) (fun _ _ _ h => h) (Or.inr ⟨by rfl, rfl⟩) ?_ ?_
                rotate_left
                · simp only [Act.put, List.setIfInBounds_toArray, List.set_cons_zero, List.set_cons_succ, i64_w, i32_w]
                  rfl
                refine pure_ (i := 15) (N := some 158) (v := undef) (a' := ?_) #[true, true, true, true, true, true, true, true, true, true, true, true, true, true, true, true, false, false, false, false, false, false, false, false, false] rfl rfl (by kernel_rfl) (fun _ _ _ h => h) (Or.inr ⟨by rfl, rfl⟩) ?_ ?_
                rotate_left
                · simp only [Act.put, List.setIfInBounds_toArray, List.set_cons_zero, List.set_cons_succ, i64_w, i32_w]
                  rfl
                refine pure_ (i := 16) (N := some 159) (v := undef) (a' := ?_) #[true, true, true, true, true, true, true, true, true, true, true, true, true, true, true, true, true, false, false, false, false, false, false, false, false] rfl rfl (by kernel_rfl) (fun _ _ _ h => h) (Or.inr ⟨by rfl, rfl⟩) ?_ ?_
                rotate_left
                · simp only [Act.put, List.setIfInBounds_toArray, List.set_cons_zero, List.set_cons_succ, i64_w, i32_w]
                  rfl
                refine pure_ (i := 17) (N := some 160) (v := undef) (a' := ?_) #[true, true, true, true, true, true, true, true, true, true, true, true, true, true, true, true, true, true, false, false, false, false, false, false, false] rfl rfl (by kernel_rfl) (fun _ _ _ h => h) (Or.inr ⟨by rfl, rfl⟩) ?_ ?_
                rotate_left
                · simp only [Act.put, List.setIfInBounds_toArray, List.set_cons_zero, List.set_cons_succ, i64_w, i32_w]
                  rfl
                refine pure_ (i := 18) (N := some 161) (v := undef) (a' := ?_) #[true, true, true, true, true, true, true, true, true, true, true, true, true, true, true, true, true, true, true, false, false, false, false, false, false] rfl rfl (by kernel_rfl) (fun _ _ _ h => h) (Or.inr ⟨by rfl, rfl⟩) ?_ ?_
                rotate_left
                · simp only [Act.put, List.setIfInBounds_toArray, List.set_cons_zero, List.set_cons_succ, i64_w, i32_w]
                  rfl
                refine pure_ (i := 19) (N := some 162) (v := undef) (a' := ?_) #[true, true, true, true, true, true, true, true, true, true, true, true, true, true, true, true, true, true, true, true, false, false, false, false, false] rfl rfl (by kernel_rfl) (fun _ _ _ h => h) (Or.inr ⟨by rfl, rfl⟩) ?_ ?_
                rotate_left
                · simp only [Act.put, List.setIfInBounds_toArray, List.set_cons_zero, List.set_cons_succ, i64_w, i32_w]
                  rfl
                refine pure_ (i := 20) (N := some 163) (v := undef) (a' := ?_) #[true, true, true, true, true, true, true, true, true, true, true, true, true, true, true, true, true, true, true, true, true, false, false, false, false] rfl rfl (by kernel_rfl) (fun _ _ _ h => h) (Or.inr ⟨by rfl, rfl⟩) ?_ ?_
                rotate_left
                · simp only [Act.put, List.setIfInBounds_toArray, List.set_cons_zero, List.set_cons_succ, i64_w, i32_w]
                  rfl
                refine pure_ (i := 21) (N := some 164) (v := undef) (a' := ?_) #[true, true, true, true, true, true, true, true, true, true, true, true, true, true, true, true, true, true, true, true, true, true, false, false, false] rfl rfl (by kernel_rfl) (fun _ _ _ h => h) (Or.inr ⟨by rfl, rfl⟩) ?_ ?_
                rotate_left
                · simp only [Act.put, List.setIfInBounds_toArray, List.set_cons_zero, List.set_cons_succ, i64_w, i32_w]
                  rfl
                refine pure_ (i := 22) (N := some 165) (v := undef) (a' := ?_) #[true, true, true, true, true, true, true, true, true, true, true, true, true, true, true, true, true, true, true, true, true, true, true, false, false] rfl rfl (by kernel_rfl) (fun _ _ _ h => h) (Or.inr ⟨by rfl, rfl⟩) ?_ ?_
                rotate_left
                · simp only [Act.put, List.setIfInBounds_toArray, List.set_cons_zero, List.set_cons_succ, i64_w, i32_w]
                  rfl
                refine pure_ (i := 23) (N := some 166) (v := ?_) (a' := ?_) #[true, true, true, true, true, true, true, true, true, true, true, true, true, true, true, true, true, true, true, true, true, true, true, true, false] rfl rfl (by kernel_rfl) (fun _ _ _ h => h) (Or.inl ⟨by rfl, ?_⟩) ?_ ?_
                rotate_left
                · intro w'
                  go_simp
                  with_reducible rfl
                rotate_left
                · simp only [Act.put, List.setIfInBounds_toArray, List.set_cons_zero, List.set_cons_succ, i64_w, i32_w]
                  rfl
                refine pure_ (i := 24) (N := some 167) (v := ?_) (a' := ?_) #[true, true, true, true, true, true, true, true, true, true, true, true, true, true, true, true, true, true, true, true, true, true, true, true, true] rfl rfl (by kernel_rfl) (fun _ _ _ h => h) (Or.inl ⟨by rfl, ?_⟩) ?_ ?_
                rotate_left
                · intro w'
                  go_simp
                  with_reducible rfl
                rotate_left
                · simp only [Act.put, List.setIfInBounds_toArray, List.set_cons_zero, List.set_cons_succ, i64_w, i32_w]
                  rfl
                refine done_ (by kernel_rfl) ?_
                
                go_wp2_with fail
                go_meet
                exact ⟨HB_69, HS_70, HCI_71, HR2_72, HXI_73⟩
              · have hb := below_drew1 (Below.refl w9.heap.size w9)
                have HB_79 := lhid (below_then HB_61.out HB_61.out.size hb)
                have HS_80 := lhid (Kd.R_below HS_62.out hb)
                have HCI_81 := lhid (Kd.C_below HCI_63.out hb)
                have HR2_82 := lhid (Kd.C_below HR2_64.out hb)
                have HXI_83 := lhid (pw_cell_below hb HXI_65.out)
                have CS_84 := lhid (Kd.C_below CS_66.out hb)
                have HCJ_85 := lhid (Kd.C_below HCJ_67.out hb)
                have HXJ_86 := lhid (pw_cell_below hb HXJ_68.out)
                have HT_87 := lhid (Kd.R_below HT_60.out hb)
                have CT_88 := lhid (Kd.C_below HCT.out hb)
                clear HB_61 HS_62 HCI_63 HR2_64 HXI_65 CS_66 HCJ_67 HXJ_68 HT_60 HCT hb
                refine start_ (n := 25) (S := fun w' => w'.cell? (ad.add j) = some (.slice Aj xj.length cj) ∧ w'.cell? (ad.add i) = some (.slice Ai xi.length ci)) (ds := []) #[false, false, false, false, false, false, false, false, false, false, false, false, false, false, false, false, false, false, false, false, false, false, false, false, false] (by kernel_rfl) rfl rfl ⟨HXJ_86.out, HXI_83.out⟩ (fun hHeld => ?_)
                generalize w9.drew = w10 at HB_79 HS_80 HCI_81 HR2_82 HXI_83 CS_84 HCJ_85 HXJ_86 HT_87 CT_88 hHeld ⊢
                refine pure_ (i := 0) (N := some 143) (v := ?_) (a' := ?_) #[true, false, false, false, false, false, false, false, false, false, false, false, false, false, false, false, false, false, false, false, false, false, false, false, false] rfl rfl (by kernel_rfl) (fun _ _ _ h => h) (Or.inl ⟨by rfl, ?_⟩) ?_ ?_
                rotate_left
                · intro w'
                  go_simp
                  with_reducible rfl
                rotate_left
                · simp only [Act.put, List.setIfInBounds_toArray, List.set_cons_zero, List.set_cons_succ, i64_w, i32_w]
                  rfl
                refine pure_ (i := 1) (N := some 144) (v := ?_) (a' := ?_) #[true, true, false, false, false, false, false, false, false, false, false, false, false, false, false, false, false, false, false, false, false, false, false, false, false] rfl rfl (by kernel_rfl) (fun _ _ _ h => h) (Or.inl ⟨by rfl, ?_⟩) ?_ ?_
                rotate_left
                · intro w'
                  go_simp
                  with_reducible rfl
                rotate_left
                · simp only [Act.put, List.setIfInBounds_toArray, List.set_cons_zero, List.set_cons_succ, i64_w, i32_w]
                  rfl
                refine pure_ (i := 2) (N := some 145) (v := ?_) (a' := ?_) #[true, true, true, false, false, false, false, false, false, false, false, false, false, false, false, false, false, false, false, false, false, false, false, false, false] rfl rfl (by kernel_rfl) (fun _ _ _ h => h) (Or.inl ⟨by rfl, ?_⟩) ?_ ?_
                rotate_left
                · intro w'
                  go_simp
                  with_reducible rfl
                rotate_left
                · simp only [Act.put, List.setIfInBounds_toArray, List.set_cons_zero, List.set_cons_succ, i64_w, i32_w]
                  rfl
                refine pure_ (i := 3) (N := some 146) (v := ?_) (a' := ?_) #[true, true, true, true, false, false, false, false, false, false, false, false, false, false, false, false, false, false, false, false, false, false, false, false, false] rfl rfl (by kernel_rfl) (fun _ _ _ h => h) (Or.inl ⟨by rfl, ?_⟩) ?_ ?_
                rotate_left
                · intro w'
                  go_simp
                  with_reducible rfl
                rotate_left
                · simp only [Act.put, List.setIfInBounds_toArray, List.set_cons_zero, List.set_cons_succ, i64_w, i32_w]
                  rfl
                refine pure_ (i := 4) (N := some 147) (v := ?_) (a' := ?_) #[true, true, true, true, true, false, false, false, false, false, false, false, false, false, false, false, false, false, false, false, false, false, false, false, false] rfl rfl (by kernel_rfl) (fun _ _ _ h => h) (Or.inl ⟨by rfl, ?_⟩) ?_ ?_
                rotate_left
                · intro w'
                  go_simp
                  with_reducible rfl
                rotate_left
                · simp only [Act.put, List.setIfInBounds_toArray, List.set_cons_zero, List.set_cons_succ, i64_w, i32_w]
                  rfl
                refine pure_ (i := 5) (N := some 148) (v := ?_) (a' := ?_) #[true, true, true, true, true, true, false, false, false, false, false, false, false, false, false, false, false, false, false, false, false, false, false, false, false] rfl rfl (by kernel_rfl) (fun _ _ _ h => h) (Or.inl ⟨by rfl, ?_⟩) ?_ ?_
                rotate_left
                · intro w'
                  go_simp
                  with_reducible rfl
                rotate_left
                · simp only [Act.put, List.setIfInBounds_toArray, List.set_cons_zero, List.set_cons_succ, i64_w, i32_w]
                  rfl
                refine pure_ (i := 6) (N := some 149) (v := ?_) (a' := ?_) #[true, true, true, true, true, true, true, false, false, false, false, false, false, false, false, false, false, false, false, false, false, false, false, false, false] rfl rfl (by kernel_rfl) (fun _ _ _ h => h) (Or.inl ⟨by rfl, ?_⟩) ?_ ?_
                rotate_left
                · intro w'
                  go_simp
                  with_reducible rfl
                rotate_left
                · simp only [Act.put, List.setIfInBounds_toArray, List.set_cons_zero, List.set_cons_succ, i64_w, i32_w]
                  rfl
                refine pure_ (i := 7) (N := some 150) (v := ?_) (a' := ?_) #[true, true, true, true, true, true, true, true, false, false, false, false, false, false, false, false, false, false, false, false, false, false, false, false, false] rfl rfl (by kernel_rfl) (fun _ _ _ h => h) (Or.inl ⟨by rfl, ?_⟩) ?_ ?_
                rotate_left
                · intro w'
                  go_simp
                  with_reducible rfl
                rotate_left
                · simp only [Act.put, List.setIfInBounds_toArray, List.set_cons_zero, List.set_cons_succ, i64_w, i32_w]
                  rfl
                refine pure_ (i := 8) (N := some 151) (v := ?_) (a' := ?_) #[true, true, true, true, true, true, true, true, true, false, false, false, false, false, false, false, false, false, false, false, false, false, false, false, false] rfl rfl (by kernel_rfl) (fun _ _ _ h => h) (Or.inl ⟨by rfl, ?_⟩) ?_ ?_
                rotate_left
                · intro w'
                  go_simp
                  with_reducible rfl
                rotate_left
                · simp only [Act.put, List.setIfInBounds_toArray, List.set_cons_zero, List.set_cons_succ, i64_w, i32_w]
                  rfl
                refine pure_ (i := 9) (N := some 152) (v := ?_) (a' := ?_) #[true, true, true, true, true, true, true, true, true, true, false, false, false, false, false, false, false, false, false, false, false, false, false, false, false] rfl rfl (by kernel_rfl) (fun _ _ _ h => h) (Or.inl ⟨by rfl, ?_⟩) ?_ ?_
                rotate_left
                · intro w'
                  go_simp
                  with_reducible rfl
                rotate_left
                · simp only [Act.put, List.setIfInBounds_toArray, List.set_cons_zero, List.set_cons_succ, i64_w, i32_w]
                  rfl
                refine pure_ (i := 10) (N := some 153) (v := ?_) (a' := ?_) #[true, true, true, true, true, true, true, true, true, true, true, false, false, false, false, false, false, false, false, false, false, false, false, false, false] rfl rfl (by kernel_rfl) (fun _ _ _ h => h) (Or.inl ⟨by rfl, ?_⟩) ?_ ?_
                rotate_left
                · intro w'
                  go_simp
                  with_reducible rfl
                rotate_left
                · simp only [Act.put, List.setIfInBounds_toArray, List.set_cons_zero, List.set_cons_succ, i64_w, i32_w]
                  rfl
                refine pure_ (i := 11) (N := some 154) (v := ?_) (a' := ?_) #[true, true, true, true, true, true, true, true, true, true, true, true, false, false, false, false, false, false, false, false, false, false, false, false, false] rfl rfl (by kernel_rfl) (fun _ _ _ h => h) (Or.inl ⟨by rfl, ?_⟩) ?_ ?_
                rotate_left
                · intro w'
                  go_simp
                  with_reducible rfl
                rotate_left
                · simp only [Act.put, List.setIfInBounds_toArray, List.set_cons_zero, List.set_cons_succ, i64_w, i32_w]
                  rfl
                refine pure_ (i := 12) (N := some 155) (v := ?_) (a' := ?_) #[true, true, true, true, true, true, true, true, true, true, true, true, true, false, false, false, false, false, false, false, false, false, false, false, false] rfl rfl (by kernel_rfl) (fun _ _ _ h => h) (Or.inl ⟨by rfl, ?_⟩) ?_ ?_
                rotate_left
                · intro w'
                  go_simp
                  with_reducible rfl
                rotate_left
                · simp only [Act.put, List.setIfInBounds_toArray, List.set_cons_zero, List.set_cons_succ, i64_w, i32_w]
                  rfl
                refine pure_ (i := 13) (N := some 156) (v := ?_) (a' := ?_) #[true, true, true, true, true, true, true, true, true, true, true, true, true, true, false, false, false, false, false, false, false, false, false, false, false] rfl rfl (by kernel_rfl) (fun _ _ _ h => h) (Or.inl ⟨by rfl, ?_⟩) ?_ ?_
                rotate_left
                · intro w'
                  go_simp
                  with_reducible rfl
                rotate_left
                · simp only [Act.put, List.setIfInBounds_toArray, List.set_cons_zero, List.set_cons_succ, i64_w, i32_w]
                  rfl
                refine pure_ (i := 15) (N := some 158) (v := ?_) (a' := ?_) #[true, true, true, true, true, true, true, true, true, true, true, true, true, true, false, true, false, false, false, false, false, false, false, false, false] rfl rfl (by kernel_rfl) (fun _ _ _ h => h) (Or.inl ⟨by rfl, ?_⟩) ?_ ?_
                rotate_left
                · intro w'
                  go_simp
                  with_reducible rfl
                rotate_left
                · simp only [Act.put, List.setIfInBounds_toArray, List.set_cons_zero, List.set_cons_succ, i64_w, i32_w]
                  rfl
                refine pure_ (i := 16) (N := some 159) (v := ?_) (a' := ?_) #[true, true, true, true, true, true, true, true, true, true, true, true, true, true, false, true, true, false, false, false, false, false, false, false, false] rfl rfl (by kernel_rfl) (fun _ _ _ h => h) (Or.inl ⟨by rfl, ?_⟩) ?_ ?_
                rotate_left
                · intro w'
                  go_simp
                  with_reducible rfl
                rotate_left
                · simp only [Act.put, List.setIfInBounds_toArray, List.set_cons_zero, List.set_cons_succ, i64_w, i32_w]
                  rfl
                refine pure_ (i := 17) (N := some 160) (v := ?_) (a' := ?_) #[true, true, true, true, true, true, true, true, true, true, true, true, true, true, false, true, true, true, false, false, false, false, false, false, false] rfl rfl (by kernel_rfl) (fun _ _ _ h => h) (Or.inl ⟨by rfl, ?_⟩) ?_ ?_
                rotate_left
                · intro w'
                  go_simp
                  with_reducible rfl
                rotate_left
                · simp only [Act.put, List.setIfInBounds_toArray, List.set_cons_zero, List.set_cons_succ, i64_w, i32_w]
                  rfl
                refine pure_ (i := 18) (N := some 161) (v := ?_) (a' := ?_) #[true, true, true, true, true, true, true, true, true, true, true, true, true, true, false, true, true, true, true, false, false, false, false, false, false] rfl rfl (by kernel_rfl) (fun _ _ _ h => h) (Or.inl ⟨by rfl, ?_⟩) ?_ ?_
                rotate_left
                · intro w'
                  go_simp
                  with_reducible rfl
                rotate_left
                · simp only [Act.put, List.setIfInBounds_toArray, List.set_cons_zero, List.set_cons_succ, i64_w, i32_w]
                  rfl
                refine pure_ (i := 20) (N := some 163) (v := ?_) (a' := ?_) #[true, true, true, true, true, true, true, true, true, true, true, true, true, true, false, true, true, true, true, false, true, false, false, false, false] rfl rfl (by kernel_rfl) (fun _ _ _ h => h) (Or.inl ⟨by rfl, ?_⟩) ?_ ?_
                rotate_left
                · intro w'
                  go_simp
                  with_reducible rfl
                rotate_left
                · simp only [Act.put, List.setIfInBounds_toArray, List.set_cons_zero, List.set_cons_succ, i64_w, i32_w]
                  rfl
                refine take_ (i := 14) (N := some 157) (v := ?_) (a' := ?_) #[true, true, true, true, true, true, true, true, true, true, true, true, true, true, true, true, true, true, true, false, true, false, false, false, false] rfl rfl (by kernel_rfl) (fun _ _ _ h => h) (Or.inl ⟨by rfl, ?_⟩) hHeld ?_ ?_
                rotate_left
                · rintro w' ⟨s0, s1⟩
                  go_simp
                  with_reducible rfl
                rotate_left
                · simp only [Act.put, List.setIfInBounds_toArray, List.set_cons_zero, List.set_cons_succ, i64_w, i32_w]
                  rfl
                refine take_ (i := 19) (N := some 162) (v := ?_) (a' := ?_) #[true, true, true, true, true, true, true, true, true, true, true, true, true, true, true, true, true, true, true, true, true, false, false, false, false] rfl rfl (by kernel_rfl) (fun _ _ _ h => h) (Or.inl ⟨by rfl, ?_⟩) hHeld ?_ ?_
                rotate_left
                · rintro w' ⟨s0, s1⟩
                  go_simp
                  with_reducible rfl
                rotate_left
                · simp only [Act.put, List.setIfInBounds_toArray, List.set_cons_zero, List.set_cons_succ, i64_w, i32_w]
                  rfl
                refine one_ (i := 21) (N := some 164) #[true, true, true, true, true, true, true, true, true, true, true, true, true, true, true, true, true, true, true, true, true, true, false, false, false] rfl rfl (by kernel_rfl) (by decide) (fun K hK => ?_)
                refine goes_ Try.func37 (by kernel_rfl) rfl #[.int .i64 j, .int .i64 (l0.length : Int), .slice Aj xj.length cj, .slice A8 (wayS (l0.map leafS) j).length c8, .slice Ai xi.length ci, .slice A3 ss.length c3] (by rfl) rfl rfl (by (try simp only [List.map_toArray, List.map_cons, List.map_nil]); first | done | rfl) ?_
                with_reducible refine (blamed_calls (j : Int) (l0.length : Int) Aj cj xj A8 c8 (wayS (l0.map leafS) j) Ai ci xi A3 c3 ss (rootS l0) _ HCJ_85.out HLJ.out CT_88.out HHT.out HCI_81.out HLI.out CS_84.out HHS.out HBJ.out HBI.out (by have := way_small (l0.map leafS) j (by rw [List.length_map]; omega); omega) (by omega) (way_ok _ _ j (Nat.le_refl _) (leafs_ok l0)) HSO.out HS3.out (by rw [HINJ.out]) HX3.out.symm).mono ?_
                rintro e w11 ⟨rfl, hb⟩
                refine ⟨_, rfl, ?_⟩
                have HB_89 := lhid (below_then HB_79.out HB_79.out.size hb)
                have HS_90 := lhid (Kd.R_below HS_80.out hb)
                have HCI_91 := lhid (Kd.C_below HCI_81.out hb)
                have HR2_92 := lhid (Kd.C_below HR2_82.out hb)
                have HXI_93 := lhid (pw_cell_below hb HXI_83.out)
                have CS_94 := lhid (Kd.C_below CS_84.out hb)
                have HCJ_95 := lhid (Kd.C_below HCJ_85.out hb)
                have HXJ_96 := lhid (pw_cell_below hb HXJ_86.out)
                have HT_97 := lhid (Kd.R_below HT_87.out hb)
                have CT_98 := lhid (Kd.C_below CT_88.out hb)
                clear HB_79 HS_80 HCI_81 HR2_82 HXI_83 CS_84 HCJ_85 HXJ_86 HT_87 CT_88 hb
                refine hK.out _ _ ⟨HXJ_96.out, HXI_93.out⟩ (fun hHeld => ?_)
                clear hK K
                refine norm_ (a' := ?_) ?_ ?_
                rotate_left
                · show Act.put _ (some 164) _ = _
                  simp only [Act.put, List.setIfInBounds_toArray, List.set_cons_zero, List.set_cons_succ, i64_w, i32_w]
                  rfl
                refine pure_ (i := 22) (N := some 165) (v := ?_) (a' := ?_) #[true, true, true, true, true, true, true, true, true, true, true, true, true, true, true, true, true, true, true, true, true, true, true, false, false] rfl rfl (by kernel_rfl) (fun _ _ _ h => h) (Or.inl ⟨by rfl, ?_⟩) ?_ ?_
                rotate_left
                · intro w'
                  go_simp
                  with_reducible rfl
                rotate_left
                · simp only [Act.put, List.setIfInBounds_toArray, List.set_cons_zero, List.set_cons_succ, i64_w, i32_w]
                  rfl
                refine pure_ (i := 23) (N := some 166) (v := ?_) (a' := ?_) #[true, true, true, true, true, true, true, true, true, true, true, true, true, true, true, true, true, true, true, true, true, true, true, true, false] rfl rfl (by kernel_rfl) (fun _ _ _ h => h) (Or.inl ⟨by rfl, ?_⟩) ?_ ?_
                rotate_left
                · intro w'
                  go_simp
                  with_reducible rfl
                rotate_left
                · simp only [Act.put, List.setIfInBounds_toArray, List.set_cons_zero, List.set_cons_succ, i64_w, i32_w]
                  rfl
                refine pure_ (i := 24) (N := some 167) (v := ?_) (a' := ?_) #[true, true, true, true, true, true, true, true, true, true, true, true, true, true, true, true, true, true, true, true, true, true, true, true, true] rfl rfl (by kernel_rfl) (fun _ _ _ h => h) (Or.inl ⟨by rfl, ?_⟩) ?_ ?_
                rotate_left
                · intro w'
                  go_simp
                  with_reducible rfl
                rotate_left
                · simp only [Act.put, List.setIfInBounds_toArray, List.set_cons_zero, List.set_cons_succ, i64_w, i32_w]
                  rfl
                refine done_ (by kernel_rfl) ?_
                
                go_wp2_with fail
                go_meet
                exact ⟨HB_89, HS_90, HCI_91, HR2_92, HXI_93⟩
          case rest =>
            clear HHS
            obtain ⟨HBc_99, HSc_100, HCIc_101, HR2c_102, HXIc_103⟩ := hcut
            obtain ⟨_, hcs, hCS⟩ := Kd.R_reads' HSc_100.out
            have HCS := lhid hCS
            have HHS := lhid hcs
            clear hCS hcs
            by_cases hs0 : 0 < ss.length
            · obtain ⟨b3, rfl, hb3, _⟩ := R_ad HSc_100.out hs0
              have HB3 := lhid hb3
              clear hb3
              obtain ⟨q, hq, hq2⟩ : ∃ q : Nat, (IntKind.u64.wrap a3).tmod (ss.length : Int) = (q : Int) ∧ q < ss.length := ⟨((IntKind.u64.wrap a3) % (ss.length : Int)).toNat, by
                have h0 : 0 ≤ IntKind.u64.wrap a3 := by rw [IntKind.wrap_u64]; omega
                rw [Int.tmod_eq_emod_of_nonneg h0]
                have h1 := Int.emod_nonneg (IntKind.u64.wrap a3) (show (ss.length : Int) ≠ 0 by omega)
                omega, by
                have h1 := Int.emod_lt_of_pos (IntKind.u64.wrap a3) (show (0 : Int) < (ss.length : Int) by omega)
                omega⟩
              have hsl : (0 : Int) < (ss.length : Int) := by omega
              obtain ⟨fq, hfq⟩ : ∃ x, x = (ss.getD q z54).f1 := ⟨_, rfl⟩
              have hcq : wc.cell? ⟨b3, q * 2 + 1, none⟩ = some (.bool fq) := by
                obtain ⟨ad9, e9, _, h9⟩ := at_T54 HCS.out (q : Int) (by omega) (by omega)
                cases e9
                rw [Int.toNat_natCast, add_plain] at h9
                rw [hfq, show ss.getD q z54 = rd_T54 ss (q : Int) by unfold rd_T54; rw [Int.toNat_natCast]]
                exact h9
              have HCQ := lhid hcq
              have HFQ := lhid hfq
              clear hcq hfq
              go_upto_region 23 with (fail)
              have hne0 : ((ss.length : Int) == 0) = false := beq_eq_false_iff_ne.mpr (by omega)
              have hne1 : ¬ ss = [] := fun e => by rw [e] at hs0; simp at hs0
              have hw1 : wrap64 (q : Int) = (q : Int) := by unfold wrap64; omega
              have hw2 : IntKind.i64.wrap (q : Int) = (q : Int) := IntWalk.i64_in _ (by omega)
              have hw3 : IntKind.u64.wrap (q : Int) = (q : Int) := by rw [IntKind.wrap_u64]; omega
              have hw4 : IntKind.u64.wrap (ss.length : Int) = (ss.length : Int) := by rw [IntKind.wrap_u64]; omega
              have hq0 : (0 : Int) ≤ (q : Int) := by omega
              have hq1 : (q : Int) < (ss.length : Int) := by omega
              have hb := below_drew1 (Below.refl wc.heap.size wc)
              have HB_104 := lhid (below_then HBc_99.out HBc_99.out.size hb)
              have HS_105 := lhid (Kd.R_below HSc_100.out hb)
              have HCI_106 := lhid (Kd.C_below HCIc_101.out hb)
              have HR2_107 := lhid (Kd.C_below HR2c_102.out hb)
              have HXI_108 := lhid (pw_cell_below hb HXIc_103.out)
              have CS_109 := lhid (Kd.C_below HCS.out hb)
              have CQ_110 := lhid (pw_cell_below hb HCQ.out)
              clear HBc_99 HSc_100 HCIc_101 HR2c_102 HXIc_103 HCS HCQ hb
              refine start_ (n := 23) (S := fun w' => w'.cell? ⟨b3, q * 2 + 1, none⟩ = some (.bool fq)) (ds := [22]) #[false, false, false, false, false, false, false, false, false, false, false, false, false, false, false, false, false, false, false, false, false, false, false] (by kernel_rfl) rfl rfl (CQ_110.out) (fun hHeld => ?_)
              generalize wc.drew = w9 at HB_104 HS_105 HCI_106 HR2_107 HXI_108 CS_109 CQ_110 hHeld ⊢
              refine pure_ (i := 0) (N := some 171) (v := ?_) (a' := ?_) #[true, false, false, false, false, false, false, false, false, false, false, false, false, false, false, false, false, false, false, false, false, false, false] rfl rfl (by kernel_rfl) (fun _ _ _ h => h) (Or.inl ⟨by rfl, ?_⟩) ?_ ?_
              rotate_left
              · intro w'
                go_simp
                with_reducible rfl
              rotate_left
              · simp only [Act.put, List.setIfInBounds_toArray, List.set_cons_zero, List.set_cons_succ, i64_w, i32_w]
                rfl
              refine pure_ (i := 1) (N := some 172) (v := ?_) (a' := ?_) #[true, true, false, false, false, false, false, false, false, false, false, false, false, false, false, false, false, false, false, false, false, false, false] rfl rfl (by kernel_rfl) (fun _ _ _ h => h) (Or.inl ⟨by rfl, ?_⟩) ?_ ?_
              rotate_left
              · intro w'
                go_simp
                with_reducible rfl
              rotate_left
              · simp only [Act.put, List.setIfInBounds_toArray, List.set_cons_zero, List.set_cons_succ, i64_w, i32_w]
                rfl
              refine pure_ (i := 2) (N := some 173) (v := ?_) (a' := ?_) #[true, true, true, false, false, false, false, false, false, false, false, false, false, false, false, false, false, false, false, false, false, false, false] rfl rfl (by kernel_rfl) (fun _ _ _ h => h) (Or.inl ⟨by rfl, ?_⟩) ?_ ?_
              rotate_left
              · intro w'
                go_simp
                with_reducible rfl
              rotate_left
              · simp only [Act.put, List.setIfInBounds_toArray, List.set_cons_zero, List.set_cons_succ, i64_w, i32_w]
                rfl
              refine pure_ (i := 3) (N := some 174) (v := ?_) (a' := ?_) #[true, true, true, true, false, false, false, false, false, false, false, false, false, false, false, false, false, false, false, false, false, false, false] rfl rfl (by kernel_rfl) (fun _ _ _ h => h) (Or.inl ⟨by rfl, ?_⟩) ?_ ?_
              rotate_left
              · intro w'
                go_simp
                with_reducible rfl
              rotate_left
              · simp only [Act.put, List.setIfInBounds_toArray, List.set_cons_zero, List.set_cons_succ, i64_w, i32_w]
                rfl
              refine pure_ (i := 4) (N := some 175) (v := ?_) (a' := ?_) #[true, true, true, true, true, false, false, false, false, false, false, false, false, false, false, false, false, false, false, false, false, false, false] rfl rfl (by kernel_rfl) (fun _ _ _ h => h) (Or.inl ⟨by rfl, ?_⟩) ?_ ?_
              rotate_left
              · intro w'
                go_simp
                with_reducible rfl
              rotate_left
              · simp only [Act.put, List.setIfInBounds_toArray, List.set_cons_zero, List.set_cons_succ, i64_w, i32_w]
                rfl
              refine pure_ (i := 5) (N := some 176) (v := ?_) (a' := ?_) #[true, true, true, true, true, true, false, false, false, false, false, false, false, false, false, false, false, false, false, false, false, false, false] rfl rfl (by kernel_rfl) (fun _ _ _ h => h) (Or.inl ⟨by rfl, ?_⟩) ?_ ?_
              rotate_left
              · intro w'
                go_simp
                with_reducible rfl
              rotate_left
              · simp only [Act.put, List.setIfInBounds_toArray, List.set_cons_zero, List.set_cons_succ, i64_w, i32_w]
                rfl
              refine pure_ (i := 6) (N := some 177) (v := ?_) (a' := ?_) #[true, true, true, true, true, true, true, false, false, false, false, false, false, false, false, false, false, false, false, false, false, false, false] rfl rfl (by kernel_rfl) (fun _ _ _ h => h) (Or.inl ⟨by rfl, ?_⟩) ?_ ?_
              rotate_left
              · intro w'
                go_simp
                with_reducible rfl
              rotate_left
              · simp only [Act.put, List.setIfInBounds_toArray, List.set_cons_zero, List.set_cons_succ, i64_w, i32_w]
                rfl
              refine pure_ (i := 7) (N := some 178) (v := ?_) (a' := ?_) #[true, true, true, true, true, true, true, true, false, false, false, false, false, false, false, false, false, false, false, false, false, false, false] rfl rfl (by kernel_rfl) (fun _ _ _ h => h) (Or.inl ⟨by rfl, ?_⟩) ?_ ?_
              rotate_left
              · intro w'
                go_simp
                with_reducible rfl
              rotate_left
              · simp only [Act.put, List.setIfInBounds_toArray, List.set_cons_zero, List.set_cons_succ, i64_w, i32_w]
                rfl
              refine pure_ (i := 8) (N := some 179) (v := ?_) (a' := ?_) #[true, true, true, true, true, true, true, true, true, false, false, false, false, false, false, false, false, false, false, false, false, false, false] rfl rfl (by kernel_rfl) (fun _ _ _ h => h) (Or.inl ⟨by rfl, ?_⟩) ?_ ?_
              rotate_left
              · intro w'
                go_simp
                with_reducible rfl
              rotate_left
              · simp only [Act.put, List.setIfInBounds_toArray, List.set_cons_zero, List.set_cons_succ, i64_w, i32_w]
                rfl
              refine pure_ (i := 9) (N := some 180) (v := ?_) (a' := ?_) #[true, true, true, true, true, true, true, true, true, true, false, false, false, false, false, false, false, false, false, false, false, false, false] rfl rfl (by kernel_rfl) (fun _ _ _ h => h) (Or.inl ⟨by rfl, ?_⟩) ?_ ?_
              rotate_left
              · intro w'
                go_simp
                with_reducible rfl
              rotate_left
              · simp only [Act.put, List.setIfInBounds_toArray, List.set_cons_zero, List.set_cons_succ, i64_w, i32_w]
                rfl
              refine pure_ (i := 10) (N := some 181) (v := ?_) (a' := ?_) #[true, true, true, true, true, true, true, true, true, true, true, false, false, false, false, false, false, false, false, false, false, false, false] rfl rfl (by kernel_rfl) (fun _ _ _ h => h) (Or.inl ⟨by rfl, ?_⟩) ?_ ?_
              rotate_left
              · intro w'
                go_simp
                with_reducible rfl
              rotate_left
              · simp only [Act.put, List.setIfInBounds_toArray, List.set_cons_zero, List.set_cons_succ, i64_w, i32_w]
                rfl
              refine pure_ (i := 11) (N := some 182) (v := ?_) (a' := ?_) #[true, true, true, true, true, true, true, true, true, true, true, true, false, false, false, false, false, false, false, false, false, false, false] rfl rfl (by kernel_rfl) (fun _ _ _ h => h) (Or.inl ⟨by rfl, ?_⟩) ?_ ?_
              rotate_left
              · intro w'
                go_simp
                with_reducible rfl
              rotate_left
              · simp only [Act.put, List.setIfInBounds_toArray, List.set_cons_zero, List.set_cons_succ, i64_w, i32_w]
                rfl
              refine pure_ (i := 12) (N := some 183) (v := ?_) (a' := ?_) #[true, true, true, true, true, true, true, true, true, true, true, true, true, false, false, false, false, false, false, false, false, false, false] rfl rfl (by kernel_rfl) (fun _ _ _ h => h) (Or.inl ⟨by rfl, ?_⟩) ?_ ?_
              rotate_left
              · intro w'
                go_simp
                with_reducible rfl
              rotate_left
              · simp only [Act.put, List.setIfInBounds_toArray, List.set_cons_zero, List.set_cons_succ, i64_w, i32_w]
                rfl
              refine pure_ (i := 13) (N := some 184) (v := ?_) (a' := ?_) #[true, true, true, true, true, true, true, true, true, true, true, true, true, true, false, false, false, false, false, false, false, false, false] rfl rfl (by kernel_rfl) (fun _ _ _ h => h) (Or.inl ⟨by rfl, ?_⟩) ?_ ?_
              rotate_left
              · intro w'
                go_simp
                with_reducible rfl
              rotate_left
              · simp only [Act.put, List.setIfInBounds_toArray, List.set_cons_zero, List.set_cons_succ, i64_w, i32_w]
                rfl
              refine pure_ (i := 14) (N := some 185) (v := ?_) (a' := ?_) #[true, true, true, true, true, true, true, true, true, true, true, true, true, true, true, false, false, false, false, false, false, false, false] rfl rfl (by kernel_rfl) (fun _ _ _ h => h) (Or.inl ⟨by rfl, ?_⟩) ?_ ?_
              rotate_left
              · intro w'
                go_simp
                with_reducible rfl
              rotate_left
              · simp only [Act.put, List.setIfInBounds_toArray, List.set_cons_zero, List.set_cons_succ, i64_w, i32_w]
                rfl
              refine pure_ (i := 15) (N := some 186) (v := ?_) (a' := ?_) #[true, true, true, true, true, true, true, true, true, true, true, true, true, true, true, true, false, false, false, false, false, false, false] rfl rfl (by kernel_rfl) (fun _ _ _ h => h) (Or.inl ⟨by rfl, ?_⟩) ?_ ?_
              rotate_left
              · intro w'
                go_simp
                with_reducible rfl
              rotate_left
              · simp only [Act.put, List.setIfInBounds_toArray, List.set_cons_zero, List.set_cons_succ, i64_w, i32_w]
                rfl
              refine pure_ (i := 16) (N := some 187) (v := ?_) (a' := ?_) #[true, true, true, true, true, true, true, true, true, true, true, true, true, true, true, true, true, false, false, false, false, false, false] rfl rfl (by kernel_rfl) (fun _ _ _ h => h) (Or.inl ⟨by rfl, ?_⟩) ?_ ?_
              rotate_left
              · intro w'
                go_simp
                with_reducible rfl
              rotate_left
              · simp only [Act.put, List.setIfInBounds_toArray, List.set_cons_zero, List.set_cons_succ, i64_w, i32_w]
                rfl
              refine pure_ (i := 17) (N := some 188) (v := ?_) (a' := ?_) #[true, true, true, true, true, true, true, true, true, true, true, true, true, true, true, true, true, true, false, false, false, false, false] rfl rfl (by kernel_rfl) (fun _ _ _ h => h) (Or.inl ⟨by rfl, ?_⟩) ?_ ?_
              rotate_left
              · intro w'
                go_simp
                with_reducible rfl
              rotate_left
              · simp only [Act.put, List.setIfInBounds_toArray, List.set_cons_zero, List.set_cons_succ, i64_w, i32_w]
                rfl
              refine take_ (i := 18) (N := some 189) (v := ?_) (a' := ?_) #[true, true, true, true, true, true, true, true, true, true, true, true, true, true, true, true, true, true, true, false, false, false, false] rfl rfl (by kernel_rfl) (fun _ _ _ h => h) (Or.inl ⟨by rfl, ?_⟩) hHeld ?_ ?_
              rotate_left
              · intro w' s0
                go_simp
                with_reducible rfl
              rotate_left
              · simp only [Act.put, List.setIfInBounds_toArray, List.set_cons_zero, List.set_cons_succ, i64_w, i32_w]
                rfl
              refine pure_ (i := 19) (N := some 190) (v := ?_) (a' := ?_) #[true, true, true, true, true, true, true, true, true, true, true, true, true, true, true, true, true, true, true, true, false, false, false] rfl rfl (by kernel_rfl) (fun _ _ _ h => h) (Or.inl ⟨by rfl, ?_⟩) ?_ ?_
              rotate_left
              · intro w'
                go_simp
                with_reducible rfl
              rotate_left
              · simp only [Act.put, List.setIfInBounds_toArray, List.set_cons_zero, List.set_cons_succ, i64_w, i32_w]
                rfl
              refine pure_ (i := 20) (N := some 191) (v := ?_) (a' := ?_) #[true, true, true, true, true, true, true, true, true, true, true, true, true, true, true, true, true, true, true, true, true, false, false] rfl rfl (by kernel_rfl) (fun _ _ _ h => h) (Or.inl ⟨by rfl, ?_⟩) ?_ ?_
              rotate_left
              · intro w'
                go_simp
                with_reducible rfl
              rotate_left
              · simp only [Act.put, List.setIfInBounds_toArray, List.set_cons_zero, List.set_cons_succ, i64_w, i32_w]
                rfl
              refine pure_ (i := 21) (N := some 192) (v := ?_) (a' := ?_) #[true, true, true, true, true, true, true, true, true, true, true, true, true, true, true, true, true, true, true, true, true, true, false] rfl rfl (by kernel_rfl) (fun _ _ _ h => h) (Or.inl ⟨by rfl, ?_⟩) ?_ ?_
              rotate_left
              · intro w'
                go_simp
                with_reducible rfl
              rotate_left
              · simp only [Act.put, List.setIfInBounds_toArray, List.set_cons_zero, List.set_cons_succ, i64_w, i32_w]
                rfl
              refine last_ (i := 22) (N := none) #[true, true, true, true, true, true, true, true, true, true, true, true, true, true, true, true, true, true, true, true, true, true, true] rfl rfl (by kernel_rfl) (by decide) (fun K hK => ?_)
              have hff : ∀ o, w9.frozen? ⟨b3, o, none⟩ = false := by obtain ⟨b9, e9, _, f9⟩ := R_ad HS_105.out hs0; cases e9; exact f9
              have hf1 := hff (q * 2 + 1)
              have hc1 := CQ_110.out
              clear hff
              refine skip_ (w1 := ?_) (by rfl) rfl ?_ ?_
              rotate_left
              · go_simp
                rfl
              refine hK.out _ _ ?_
              clear hK K
              refine done_ (by kernel_rfl) ?_
              
              have hsf := R_flip HS_105.out hq2
              rw [← HFQ.out] at hsf
              have HSF := lhid hsf
              have HBF := lhid (HB_104.out.setCell (p := ⟨b3, q * 2 + 1, none⟩) HB3.out (.bool (!fq)))
              have hcx : (w9.setCell ⟨b3, q * 2 + 1, none⟩ (.bool (!fq))).heap.size = w9.heap.size := by simp
              have hgb : Below w.heap.size w9 (w9.setCell ⟨b3, q * 2 + 1, none⟩ (.bool (!fq))) := (Below.refl _ _).setCell (p := ⟨b3, q * 2 + 1, none⟩) HB3.out _
              have HXB := lhid (show Kd.C (Kd.int .u8) (w9.setCell ⟨b3, q * 2 + 1, none⟩ (.bool (!fq))) Ai xi.length xi from (by
                obtain ⟨ad9, A9, c9, e9, hx9, hl9, hc9⟩ := at_L1 (Kd.C_below HR0.out HBF.out) (i : Int) (by omega) (by omega)
                cases e9
                rw [rdL_at l0 i hi2] at hx9 hl9 hc9
                rw [← HXIE.out] at hx9 hc9
                have q9 := pw_cell_below HBF.out HXI0.out
                rw [Int.toNat_natCast, q9] at hx9
                injection hx9 with hx9
                injection hx9 with hx9
                subst hx9
                exact hc9))
              have HXC := lhid (pw_cell_below HBF.out HXI0.out)
              clear hsf hcx hgb
              generalize World.setCell w9 ⟨b3, q * 2 + 1, none⟩ (.bool (!fq)) = w30 at HSF HBF HXB HXC ⊢
              have hff := incl_flip (e := xi) (i := (i : Int)) (n := (l0.length : Int)) (root := rootS l0) (ss := ss) (q := q) ⟨by omega, by omega, by omega, by omega⟩ (by have := HXL.out; omega) hq2 (incl_parts' HIN.out)
              obtain ⟨k9, hk9⟩ := Ev.rounds (ev_Included xi (i : Int) (l0.length : Int) (rootS l0) (flipS ss q) (by have := HXL.out; omega) (by rw [flip_len]; omega) (flip_ok HSO.out hq2))
              rw [hff] at hk9
              have HK9 := lhid hk9
              clear hk9 hff
              obtain ⟨_, hcs, hCS⟩ := Kd.R_reads' HSF.out
              have hI := proof_Included.calls k9 Ai ci xi (i : Int) (l0.length : Int) (rootS l0) (some ⟨b3, 0, none⟩) c3 (flipS ss q) false 0 w30 HXB.out HLI.out hCS (by first | exact hcs | rw [flip_len]; exact hcs) HK9.out
              have HI9 := lhid hI
              clear hcs hCS hI
              have hx0 := HXC.out
              go_wp2_with fail
              with_reducible refine (HI9.out).mono ?_
              rintro e w31 ⟨rfl, hb⟩
              have HB_111 := lhid (below_then HBF.out HBF.out.size hb)
              have HCI_112 := lhid (Kd.C_below HXB.out hb)
              have HXI_113 := lhid (pw_cell_below hb HXC.out)
              have HS_114 := lhid (Kd.R_below HSF.out hb)
              clear HBF HXB HXC HSF hb
              clear HI9 hx0 HK9
              go_wp2_with fail
              with_reducible refine (kimberlitelaw07_alive.calls 0 true _ rfl).mono ?_
              rintro e w32 ⟨rfl, hb⟩
              have HB_115 := lhid (below_then HB_111.out HB_111.out.size hb)
              have HCI_116 := lhid (Kd.C_below HCI_112.out hb)
              have HXI_117 := lhid (pw_cell_below hb HXI_113.out)
              have HS_118 := lhid (Kd.R_below HS_114.out hb)
              clear HB_111 HCI_112 HXI_113 HS_114 hb
              go_wp2_with fail
              go_ret
              exact ⟨rfl, HB_115.out⟩
            · have hsl : ss = [] := List.eq_nil_of_length_eq_zero (by omega)
              subst hsl
              go_wp2_with fail
              with_reducible refine (kimberlitelaw07_alive.calls 0 true _ rfl).mono ?_
              rintro e w9 ⟨rfl, hb⟩
              have HB_119 := lhid (below_then HBc_99.out HBc_99.out.size hb)
              have HS_120 := lhid (Kd.R_below HSc_100.out hb)
              have HCI_121 := lhid (Kd.C_below HCIc_101.out hb)
              have HR2_122 := lhid (Kd.C_below HR2c_102.out hb)
              have HXI_123 := lhid (pw_cell_below hb HXIc_103.out)
              have CS_124 := lhid (Kd.C_below HCS.out hb)
              clear HBc_99 HSc_100 HCIc_101 HR2c_102 HXIc_103 HCS hb
              go_wp2_with fail
              go_ret
              exact ⟨rfl, HB_119.out⟩
      · have e3 : incS l0 a1 = ([], 6) := by unfold incS; rw [if_pos HE.out, if_neg hi]
        rw [e3] at HS_8 ⊢
        clear e3 HK3 hi
        go_wp2_with fail
        with_reducible refine (kimberlitelaw07_alive.calls 0 true _ rfl).mono ?_
        rintro e w4 ⟨rfl, hb⟩
        have HR2_125 := lhid (Kd.C_below HR2_9.out hb)
        have HB_126 := lhid (below_then HB_10.out HB_10.out.size hb)
        have HS_127 := lhid (Kd.R_below HS_8.out hb)
        clear HR2_9 HB_10 HS_8 hb
        go_wp2_with fail
        go_ret
        exact ⟨rfl, HB_126.out⟩
    · have heb : (E != 0) = true := bne_iff_ne.mpr he
      clear he
      go_wp2_with fail
      with_reducible refine (kimberlitelaw07_alive.calls 0 true _ rfl).mono ?_
      rintro e w4 ⟨rfl, hb⟩
      have HR2_128 := lhid (Kd.C_below HR2_9.out hb)
      have HB_129 := lhid (below_then HB_10.out HB_10.out.size hb)
      have HS_130 := lhid (Kd.R_below HS_8.out hb)
      clear HR2_9 HB_10 HS_8 hb
      go_wp2_with fail
      go_ret
      exact ⟨rfl, HB_129.out⟩
  · have hob : decide ((l2.length : Int) > 256) = true := decide_eq_true (by omega)
    clear ho
    go_wp2_with fail
    with_reducible refine (kimberlitelaw07_alive.calls 0 true _ rfl).mono ?_
    rintro e w2 ⟨rfl, hb⟩
    have HR2_131 := lhid (Kd.C_below HR2_2.out hb)
    have HB_132 := lhid (below_then HB_3.out HB_3.out.size hb)
    clear HR2_2 HB_3 hb
    go_wp2_with fail
    go_ret
    exact ⟨rfl, HB_132.out⟩
theorem proofBinds_pure : kimberlitelaw07_ProofBinds.Pure2 := fun _ _ _ _ _ h0 h1 h2 h3 h4 => ⟨0, h0, h1, h2, h3, h4, trivial⟩
end Go.Proofs.Ytacjdoekgmmfoaa.PL
