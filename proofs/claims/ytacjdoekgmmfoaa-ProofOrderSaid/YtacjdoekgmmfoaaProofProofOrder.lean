/- ProofOrder: two lists with one root are equal, or two byte strings collide. The law's function walked by hand. -/
import Derived.Test.YtacjdoekgmmfoaaPLxPureProofOrder
import Derived.Test.YtacjdoekgmmfoaaLOr
import Derived.Test.YtacjdoekgmmfoaaPLx14
import Derived.Test.YtacjdoekgmmfoaaPLx23
import Derived.Test.YtacjdoekgmmfoaaPLx7
namespace Go.Proofs.Ytacjdoekgmmfoaa.PL
open Go.RowKit Go.Proofs.YtacjdoekgmmfoaaW.PrintWords Go.Proofs.YtacjdoekgmmfoaaW.PrintLast Go.Proofs.YtacjdoekgmmfoaaW.PrintMore Go.Proofs.Ytacjdoekgmmfoaa.Opn
set_option linter.unusedVariables false
set_option linter.unusedSimpArgs false
set_option maxHeartbeats 25600000 in
set_option maxRecDepth 100000 in
theorem kimberlitelaw07_ProofOrder.calls (k : Nat) (A0 : Option Addr) (c0 : Nat) (l0 : List (List Int)) (a1 : Int) (a2 : Int) (w : World) (hr0 : Kd.C (Kd.slice 5 (Kd.int .u8)) w A0 l0.length l0) (hc0 : l0.length ≤ c0) (h : kimberlitelaw07_ProofOrder.ok l0 a1 a2) :
    Calls Try.prog 8 #[.slice A0 l0.length c0, .int .i64 a1, .int .i64 a2] w fun e w' => e = .returned (.bool true) ∧ Below w.heap.size w w' := by
  have HR0 := lhid hr0
  have HC0 := lhid hc0
  have HOK := lhid h
  clear hr0 hc0 h
  obtain ⟨t0, ht, hft⟩ := few_ev l0
  obtain ⟨k0, hk⟩ := Ev.rounds ht
  have HK0 := lhid hk
  have HFT0 := lhid hft
  clear ht hk hft
  go_enter Try.func8, Try.ntmps8
  have HB_1 := lhid (Below.refl w.heap.size w)
  go_wp2_with fail
  with_reducible refine (kimberlitelaw07_few.calls k0 A0 c0 l0 t0 w HR0.out HC0.out HK0.out).mono ?_
  rintro e w1 ⟨rfl, nd, hq⟩
  have hb := pw_below_drewN (Below.refl w.heap.size w) nd
  rw [← hq] at hb
  clear hq
  have HB_2 := lhid (below_then HB_1.out HB_1.out.size hb)
  clear HB_1 hb
  cases t0
  · go_wp2_with fail
    with_reducible refine (kimberlitelaw07_alive.calls 0 true _ rfl).mono ?_
    rintro e w2 ⟨rfl, hb⟩
    have HB_3 := lhid (below_then HB_2.out HB_2.out.size hb)
    clear HB_2 hb
    go_wp2_with fail
    go_ret
    exact ⟨rfl, HB_3.out⟩
  obtain ⟨hl1, hl2⟩ := HFT0.out (by first | rfl | trivial)
  have HL1 := lhid hl1
  have HL2 := lhid hl2
  clear hl1 hl2 HFT0 HK0
  by_cases hix : (0 ≤ a1 ∧ a1 < (l0.length : Int)) ∧ (0 ≤ a2 ∧ a2 < (l0.length : Int))
  · obtain ⟨⟨hi0, hi1⟩, hk0, hk1⟩ := hix
    obtain ⟨i, rfl⟩ : ∃ i : Nat, a1 = i := ⟨a1.toNat, by omega⟩
    obtain ⟨j, rfl⟩ : ∃ j : Nat, a2 = j := ⟨a2.toNat, by omega⟩
    have hi2 : i < l0.length := by omega
    have hj2 : j < l0.length := by omega
    have hbd : l0.length ≤ 100 := HL1.out
    have hd1 : decide ((i : Int) < 0) = false := decide_eq_false (by omega)
    have hd2 : decide ((i : Int) ≥ (l0.length : Int)) = false := decide_eq_false (by omega)
    have hd3 : decide ((j : Int) < 0) = false := decide_eq_false (by omega)
    have hd4 : decide ((j : Int) ≥ (l0.length : Int)) = false := decide_eq_false (by omega)
    have hN0 := Kd.N_nil (Kd.slice 5 (Kd.int .u8)) 22 w1 w.heap.size (fun _ => True)
    have HN0 := lhid hN0
    have hF := Kd.C_F (Kd.heap_slice 5 (Kd.heap_int .u8)) (Kd.C_below HR0.out HB_2.out)
    have HF := lhid hF
    clear hN0 hF
    go_wp2_with (first | ((with_reducible refine gate_builtin (b := .append) (xs := #[.tmp 40, .tmp 41]) rfl ?_); at_builtin; refine Kd.N_append_rows (Kd.slice 5 (Kd.int .u8)) (w0 := w) w.heap.size rfl (.tmp 40) (.tmp 41) 39 22 (.slice none 0 0) 24 rfl Try.underlying39 info22 rfl (by decide) (by omega) (.slice none 0 0) [] l0 A0 l0.length c0 (fun _ => True) (fun q => q < w1.heap.size) rfl rfl ?aO ?aR (fun _ _ => ⟨trivial, by simp [Value.ownBlock]⟩) (fun _ _ => trivial) ?aB ?aS ?aL ?_; (case aO => exact HN0.out); (case aR => exact HF.out); (case aB => exact HB_2.out); (case aS => exact HB_2.out.size); (case aL => simp; omega); intro v2 w2 ho hb hg hat; rw [List.nil_append] at ho; obtain ⟨Am, cm, rfl⟩ := Kd.N_slice ho; have HM2 := lhid ho; have HB2 := lhid hb; clear ho hb hg hat))
    clear HN0 HF
    obtain ⟨bm, rfl, hbm, _⟩ := N_ad HM2.out (by omega)
    have HBM := lhid hbm
    clear hbm
    obtain ⟨Au, nu, cu, hci⟩ : ∃ A n c, w2.cell? ⟨bm, i, none⟩ = some (.slice A n c) := by
      obtain ⟨ad, A9, c9, e9, hx9, _⟩ := at_L1 (Kd.N_reads' HM2.out).2.2 (i : Int) (by omega) (by omega)
      cases e9
      rw [Int.toNat_natCast, add_plain] at hx9
      exact ⟨_, _, _, hx9⟩
    have HUi := lhid hci
    clear hci
    obtain ⟨Av, nv, cv, hcj⟩ : ∃ A n c, w2.cell? ⟨bm, j, none⟩ = some (.slice A n c) := by
      obtain ⟨ad, A9, c9, e9, hx9, _⟩ := at_L1 (Kd.N_reads' HM2.out).2.2 (j : Int) (by omega) (by omega)
      cases e9
      rw [Int.toNat_natCast, add_plain] at hx9
      exact ⟨_, _, _, hx9⟩
    have HUj := lhid hcj
    clear hcj
    have hwi : (0 : Int) ≤ (i : Int) := by omega
    have hwj : (0 : Int) ≤ (j : Int) := by omega
    have hb := below_drew1 (Below.refl w2.heap.size w2)
    have HB_4 := lhid (below_then HB2.out HB2.out.size hb)
    have HM_5 := lhid (Kd.N_below HM2.out hb)
    have HUi_6 := lhid (pw_cell_below hb HUi.out)
    have HUj_7 := lhid (pw_cell_below hb HUj.out)
    clear HB2 HM2 HUi HUj hb
    refine start_ (n := 16) (S := fun w' => w'.cell? ⟨bm, j, none⟩ = some (.slice Av nv cv) ∧ w'.cell? ⟨bm, i, none⟩ = some (.slice Au nu cu)) (ds := [13, 15]) #[false, false, false, false, false, false, false, false, false, false, false, false, false, false, false, false] (by kernel_rfl) rfl rfl ⟨HUj_7.out, HUi_6.out⟩ (fun hHeld => ?_)
    generalize w2.drew = w3 at HB_4 HM_5 HUi_6 HUj_7 hHeld ⊢
    refine pure_ (i := 0) (N := some 43) (v := ?_) (a' := ?_) #[true, false, false, false, false, false, false, false, false, false, false, false, false, false, false, false] rfl rfl (by kernel_rfl) (fun _ _ _ h => h) (Or.inl ⟨by rfl, ?_⟩) ?_ ?_
    rotate_left
    · intro w'
      go_simp
      with_reducible rfl
    rotate_left
    · simp only [Act.put, List.setIfInBounds_toArray, List.set_cons_zero, List.set_cons_succ, i64_w, i32_w]
      rfl
    refine pure_ (i := 1) (N := some 44) (v := ?_) (a' := ?_) #[true, true, false, false, false, false, false, false, false, false, false, false, false, false, false, false] rfl rfl (by kernel_rfl) (fun _ _ _ h => h) (Or.inl ⟨by rfl, ?_⟩) ?_ ?_
    rotate_left
    · intro w'
      go_simp
      with_reducible rfl
    rotate_left
    · simp only [Act.put, List.setIfInBounds_toArray, List.set_cons_zero, List.set_cons_succ, i64_w, i32_w]
      rfl
    refine pure_ (i := 2) (N := some 45) (v := ?_) (a' := ?_) #[true, true, true, false, false, false, false, false, false, false, false, false, false, false, false, false] rfl rfl (by kernel_rfl) (fun _ _ _ h => h) (Or.inl ⟨by rfl, ?_⟩) ?_ ?_
    rotate_left
    · intro w'
      go_simp
      with_reducible rfl
    rotate_left
    · simp only [Act.put, List.setIfInBounds_toArray, List.set_cons_zero, List.set_cons_succ, i64_w, i32_w]
      rfl
    refine pure_ (i := 3) (N := some 46) (v := ?_) (a' := ?_) #[true, true, true, true, false, false, false, false, false, false, false, false, false, false, false, false] rfl rfl (by kernel_rfl) (fun _ _ _ h => h) (Or.inl ⟨by rfl, ?_⟩) ?_ ?_
    rotate_left
    · intro w'
      go_simp
      with_reducible rfl
    rotate_left
    · simp only [Act.put, List.setIfInBounds_toArray, List.set_cons_zero, List.set_cons_succ, i64_w, i32_w]
      rfl
    refine pure_ (i := 4) (N := some 47) (v := ?_) (a' := ?_) #[true, true, true, true, true, false, false, false, false, false, false, false, false, false, false, false] rfl rfl (by kernel_rfl) (fun _ _ _ h => h) (Or.inl ⟨by rfl, ?_⟩) ?_ ?_
    rotate_left
    · intro w'
      go_simp
      with_reducible rfl
    rotate_left
    · simp only [Act.put, List.setIfInBounds_toArray, List.set_cons_zero, List.set_cons_succ, i64_w, i32_w]
      rfl
    refine pure_ (i := 5) (N := some 48) (v := ?_) (a' := ?_) #[true, true, true, true, true, true, false, false, false, false, false, false, false, false, false, false] rfl rfl (by kernel_rfl) (fun _ _ _ h => h) (Or.inl ⟨by rfl, ?_⟩) ?_ ?_
    rotate_left
    · intro w'
      go_simp
      with_reducible rfl
    rotate_left
    · simp only [Act.put, List.setIfInBounds_toArray, List.set_cons_zero, List.set_cons_succ, i64_w, i32_w]
      rfl
    refine pure_ (i := 6) (N := some 49) (v := ?_) (a' := ?_) #[true, true, true, true, true, true, true, false, false, false, false, false, false, false, false, false] rfl rfl (by kernel_rfl) (fun _ _ _ h => h) (Or.inl ⟨by rfl, ?_⟩) ?_ ?_
    rotate_left
    · intro w'
      go_simp
      with_reducible rfl
    rotate_left
    · simp only [Act.put, List.setIfInBounds_toArray, List.set_cons_zero, List.set_cons_succ, i64_w, i32_w]
      rfl
    refine pure_ (i := 8) (N := some 51) (v := ?_) (a' := ?_) #[true, true, true, true, true, true, true, false, true, false, false, false, false, false, false, false] rfl rfl (by kernel_rfl) (fun _ _ _ h => h) (Or.inl ⟨by rfl, ?_⟩) ?_ ?_
    rotate_left
    · intro w'
      go_simp
      with_reducible rfl
    rotate_left
    · simp only [Act.put, List.setIfInBounds_toArray, List.set_cons_zero, List.set_cons_succ, i64_w, i32_w]
      rfl
    refine pure_ (i := 9) (N := some 52) (v := ?_) (a' := ?_) #[true, true, true, true, true, true, true, false, true, true, false, false, false, false, false, false] rfl rfl (by kernel_rfl) (fun _ _ _ h => h) (Or.inl ⟨by rfl, ?_⟩) ?_ ?_
    rotate_left
    · intro w'
      go_simp
      with_reducible rfl
    rotate_left
    · simp only [Act.put, List.setIfInBounds_toArray, List.set_cons_zero, List.set_cons_succ, i64_w, i32_w]
      rfl
    refine pure_ (i := 10) (N := some 53) (v := ?_) (a' := ?_) #[true, true, true, true, true, true, true, false, true, true, true, false, false, false, false, false] rfl rfl (by kernel_rfl) (fun _ _ _ h => h) (Or.inl ⟨by rfl, ?_⟩) ?_ ?_
    rotate_left
    · intro w'
      go_simp
      with_reducible rfl
    rotate_left
    · simp only [Act.put, List.setIfInBounds_toArray, List.set_cons_zero, List.set_cons_succ, i64_w, i32_w]
      rfl
    refine take_ (i := 7) (N := some 50) (v := ?_) (a' := ?_) #[true, true, true, true, true, true, true, true, true, true, true, false, false, false, false, false] rfl rfl (by kernel_rfl) (fun _ _ _ h => h) (Or.inl ⟨by rfl, ?_⟩) hHeld ?_ ?_
    rotate_left
    · rintro w' ⟨s0, s1⟩
      go_simp
      with_reducible rfl
    rotate_left
    · simp only [Act.put, List.setIfInBounds_toArray, List.set_cons_zero, List.set_cons_succ, i64_w, i32_w]
      rfl
    refine take_ (i := 11) (N := some 54) (v := ?_) (a' := ?_) #[true, true, true, true, true, true, true, true, true, true, true, true, false, false, false, false] rfl rfl (by kernel_rfl) (fun _ _ _ h => h) (Or.inl ⟨by rfl, ?_⟩) hHeld ?_ ?_
    rotate_left
    · rintro w' ⟨s0, s1⟩
      go_simp
      with_reducible rfl
    rotate_left
    · simp only [Act.put, List.setIfInBounds_toArray, List.set_cons_zero, List.set_cons_succ, i64_w, i32_w]
      rfl
    refine pure_ (i := 12) (N := some 55) (v := ?_) (a' := ?_) #[true, true, true, true, true, true, true, true, true, true, true, true, true, false, false, false] rfl rfl (by kernel_rfl) (fun _ _ _ h => h) (Or.inl ⟨by rfl, ?_⟩) ?_ ?_
    rotate_left
    · intro w'
      go_simp
      with_reducible rfl
    rotate_left
    · simp only [Act.put, List.setIfInBounds_toArray, List.set_cons_zero, List.set_cons_succ, i64_w, i32_w]
      rfl
    refine last_ (i := 13) (N := none) #[true, true, true, true, true, true, true, true, true, true, true, true, true, true, false, false] rfl rfl (by kernel_rfl) (by decide) (fun K hK => ?_)
    have hfz := (N_ad HM_5.out (by omega)).choose_spec
    have hsA : ∀ o, w3.frozen? ⟨bm, o, none⟩ = false := by obtain ⟨b9, e9, _, f9⟩ := N_ad HM_5.out (by omega); cases e9; exact f9
    have hf1 := hsA i
    have hc1 := HUi_6.out
    clear hsA hfz
    refine skip_ (w1 := ?_) (by rfl) rfl ?_ ?_
    rotate_left
    · go_simp
      rfl
    refine hK.out _ _ ?_
    clear hK K
    refine pure_ (i := 14) (N := some 56) (v := ?_) (a' := ?_) #[true, true, true, true, true, true, true, true, true, true, true, true, true, true, true, false] rfl rfl (by kernel_rfl) (fun _ _ _ h => h) (Or.inl ⟨by rfl, ?_⟩) ?_ ?_
    rotate_left
    · intro w'
      go_simp
      with_reducible rfl
    rotate_left
    · simp only [Act.put, List.setIfInBounds_toArray, List.set_cons_zero, List.set_cons_succ, i64_w, i32_w]
      rfl
    refine last_ (i := 15) (N := none) #[true, true, true, true, true, true, true, true, true, true, true, true, true, true, true, true] rfl rfl (by kernel_rfl) (by decide) (fun K hK => ?_)
    have hsA : ∀ o, w3.frozen? ⟨bm, o, none⟩ = false := by obtain ⟨b9, e9, _, f9⟩ := N_ad HM_5.out (by omega); cases e9; exact f9
    have hf2 : (w3.setCell ⟨bm, i, none⟩ (.slice Av nv cv)).frozen? ⟨bm, j, none⟩ = false := frz_set (hsA j)
    obtain ⟨z9, hz9⟩ := set_some (x := .slice Av nv cv) HUi_6.out HUj_7.out
    clear hsA hf1 hc1
    refine skip_ (w1 := ?_) (by rfl) rfl ?_ ?_
    rotate_left
    · go_simp
      rfl
    refine hK.out _ _ ?_
    clear hK K
    refine done_ (by kernel_rfl) ?_
    
    have HM6 := lhid (N_swap HM_5.out hi2 hj2 HUi_6.out HUj_7.out)
    have HB6 := lhid ((HB_4.out.setCell (p := ⟨bm, i, none⟩) HBM.out (.slice Av nv cv)).setCell (p := ⟨bm, j, none⟩) HBM.out (.slice Au nu cu))
    generalize (World.setCell w3 ⟨bm, i, none⟩ (.slice Av nv cv)).setCell ⟨bm, j, none⟩ (.slice Au nu cu) = w6 at HM6 HB6 ⊢
    obtain ⟨y, hy⟩ : ∃ y, y = swapS l0 i j := ⟨_, rfl⟩
    rw [← hy] at HM6
    have hyl : y.length = l0.length := by rw [hy]; exact swap_len l0 i j
    have hle : listE y = listE l0 := by rw [hy]; exact swap_listE l0 i j hi2 hj2
    have HY := lhid hy
    have HYL := lhid hyl
    have HLE := lhid hle
    clear hy hyl hle
    obtain ⟨k2, hk2⟩ := Ev.rounds (ev_Root l0 (by have := HL1.out; omega))
    have HK2 := lhid hk2
    obtain ⟨k3, hk3⟩ := Ev.rounds (ev_Root y (by have := HYL.out; omega))
    rw [HLE.out] at hk3
    have HK3 := lhid hk3
    clear hk2 hk3
    generalize hE : listE l0 = E at HK2 HK3 HLE
    have HE := lhid hE
    clear hE
    go_wp2_with fail
    with_reducible refine (proof_Root.calls k2 A0 c0 l0 (rootS l0) E w6 (Kd.C_below HR0.out HB6.out) HC0.out HK2.out).mono ?_
    rintro e w7 ⟨rfl, hb⟩
    have HB_8 := lhid (below_then HB6.out HB6.out.size hb)
    have HM_9 := lhid (Kd.N_below HM6.out hb)
    clear HB6 HM6 hb
    have hRy := proof_Root.calls k3 (some ⟨bm, 0, none⟩) cm y (rootS y) E w7 (Kd.N_reads' HM_9.out).2.2 (by have := (Kd.N_reads' HM_9.out).2.1; have := HYL.out; omega) HK3.out
    rw [HYL.out] at hRy
    have HRY := lhid hRy
    clear hRy
    go_wp2_with fail
    with_reducible refine (HRY.out).mono ?_
    rintro e w8 ⟨rfl, hb⟩
    have HB_10 := lhid (below_then HB_8.out HB_8.out.size hb)
    have HM_11 := lhid (Kd.N_below HM_9.out hb)
    clear HB_8 HM_9 hb
    clear HRY
    by_cases he : E = 0
    · subst he
      obtain ⟨ad, Ai, ci, ei, hxi, hli, hci⟩ := at_L1 HR0.out (i : Int) (by omega) (by omega)
      obtain ⟨ad2, Aj, cj, ej, hxj, hlj, hcj⟩ := at_L1 HR0.out (j : Int) (by omega) (by omega)
      cases ei
      cases ej
      rw [rdL_at l0 i hi2] at hxi hli hci
      rw [rdL_at l0 j hj2] at hxj hlj hcj
      rw [Int.toNat_natCast] at hxi hxj
      obtain ⟨xi, hxie⟩ : ∃ x, x = l0[i] := ⟨_, rfl⟩
      obtain ⟨xj, hxje⟩ : ∃ x, x = l0[j] := ⟨_, rfl⟩
      rw [← hxie] at hxi hli hci
      rw [← hxje] at hxj hlj hcj
      have hbi : byteL xi := by rw [hxie]; exact fun x q => wf_u8' ((HOK.out.1.2 _ (List.getElem_mem hi2)).2 x q)
      have hbj : byteL xj := by rw [hxje]; exact fun x q => wf_u8' ((HOK.out.1.2 _ (List.getElem_mem hj2)).2 x q)
      have HXI := lhid hxi
      have HXJ := lhid hxj
      have HLI := lhid hli
      have HCI := lhid hci
      have HLJ := lhid hlj
      have HCJ := lhid hcj
      have HXIE := lhid hxie
      have HXJE := lhid hxje
      have HBI := lhid hbi
      have HBJ := lhid hbj
      clear hxi hxj hli hci hlj hcj hxie hxje hbi hbj
      have HCI_12 := lhid (Kd.C_below HCI.out HB_10.out)
      have HCJ_13 := lhid (Kd.C_below HCJ.out HB_10.out)
      have HXI_14 := lhid (pw_cell_below HB_10.out HXI.out)
      have HXJ_15 := lhid (pw_cell_below HB_10.out HXJ.out)
      go_wp2_with fail
      by_cases hs : xi = xj
      · have hq1 : ((strOfNums xi).toList == (strOfNums xj).toList) = true := beq_iff_eq.mpr (by rw [hs])
        have hyy : y = l0 := by rw [HY.out]; exact swap_same l0 i j hi2 hj2 (HXIE.out.symm.trans (hs.trans HXJE.out))
        have hrr : rootS y = rootS l0 := by rw [hyy]
        rw [hrr]
        clear hyy hrr hs
        have hb := below_drew1 (Below.refl w8.heap.size w8)
        have HB_16 := lhid (below_then HB_10.out HB_10.out.size hb)
        have HM_17 := lhid (Kd.N_below HM_11.out hb)
        have HCI_18 := lhid (Kd.C_below HCI_12.out hb)
        have HCJ_19 := lhid (Kd.C_below HCJ_13.out hb)
        have HXI_20 := lhid (pw_cell_below hb HXI_14.out)
        have HXJ_21 := lhid (pw_cell_below hb HXJ_15.out)
        clear HB_10 HM_11 HCI_12 HCJ_13 HXI_14 HXJ_15 hb
        refine start_ (n := 11) (S := fun w' => w'.cell? (ad.add i) = some (.slice Ai xi.length ci) ∧ w'.cell? (ad.add j) = some (.slice Aj xj.length cj) ∧ (convert 22 9 (.slice Ai xi.length ci)).run Try.prog w' = .ok (.string (strOfNums xi)) w' ∧ (convert 22 9 (.slice Aj xj.length cj)).run Try.prog w' = .ok (.string (strOfNums xj)) w') (ds := []) #[false, false, false, false, false, false, false, false, false, false, false] (by kernel_rfl) rfl rfl ⟨HXI_20.out, HXJ_21.out, Kd.C_string (P := Try.prog) (A := Ai) (c := ci) Try.underlying22 Try.underlying5 Try.underlying9 HCI_18.out, Kd.C_string (P := Try.prog) (A := Aj) (c := cj) Try.underlying22 Try.underlying5 Try.underlying9 HCJ_19.out⟩ (fun hHeld => ?_)
        generalize w8.drew = w9 at HB_16 HM_17 HCI_18 HCJ_19 HXI_20 HXJ_21 hHeld ⊢
        refine pure_ (i := 0) (N := some 80) (v := ?_) (a' := ?_) #[true, false, false, false, false, false, false, false, false, false, false] rfl rfl (by kernel_rfl) (fun _ _ _ h => h) (Or.inl ⟨by rfl, ?_⟩) ?_ ?_
        rotate_left
        · intro w'
          go_simp
          with_reducible rfl
        rotate_left
        · simp only [Act.put, List.setIfInBounds_toArray, List.set_cons_zero, List.set_cons_succ, i64_w, i32_w]
          rfl
        refine pure_ (i := 1) (N := some 81) (v := ?_) (a' := ?_) #[true, true, false, false, false, false, false, false, false, false, false] rfl rfl (by kernel_rfl) (fun _ _ _ h => h) (Or.inl ⟨by rfl, ?_⟩) ?_ ?_
        rotate_left
        · intro w'
          go_simp
          with_reducible rfl
        rotate_left
        · simp only [Act.put, List.setIfInBounds_toArray, List.set_cons_zero, List.set_cons_succ, i64_w, i32_w]
          rfl
        refine pure_ (i := 2) (N := some 82) (v := ?_) (a' := ?_) #[true, true, true, false, false, false, false, false, false, false, false] rfl rfl (by kernel_rfl) (fun _ _ _ h => h) (Or.inl ⟨by rfl, ?_⟩) ?_ ?_
        rotate_left
        · intro w'
          go_simp
          with_reducible rfl
        rotate_left
        · simp only [Act.put, List.setIfInBounds_toArray, List.set_cons_zero, List.set_cons_succ, i64_w, i32_w]
          rfl
        refine pure_ (i := 5) (N := some 85) (v := ?_) (a' := ?_) #[true, true, true, false, false, true, false, false, false, false, false] rfl rfl (by kernel_rfl) (fun _ _ _ h => h) (Or.inl ⟨by rfl, ?_⟩) ?_ ?_
        rotate_left
        · intro w'
          go_simp
          with_reducible rfl
        rotate_left
        · simp only [Act.put, List.setIfInBounds_toArray, List.set_cons_zero, List.set_cons_succ, i64_w, i32_w]
          rfl
        refine pure_ (i := 6) (N := some 86) (v := ?_) (a' := ?_) #[true, true, true, false, false, true, true, false, false, false, false] rfl rfl (by kernel_rfl) (fun _ _ _ h => h) (Or.inl ⟨by rfl, ?_⟩) ?_ ?_
        rotate_left
        · intro w'
          go_simp
          with_reducible rfl
        rotate_left
        · simp only [Act.put, List.setIfInBounds_toArray, List.set_cons_zero, List.set_cons_succ, i64_w, i32_w]
          rfl
        refine pure_ (i := 7) (N := some 87) (v := ?_) (a' := ?_) #[true, true, true, false, false, true, true, true, false, false, false] rfl rfl (by kernel_rfl) (fun _ _ _ h => h) (Or.inl ⟨by rfl, ?_⟩) ?_ ?_
        rotate_left
        · intro w'
          go_simp
          with_reducible rfl
        rotate_left
        · simp only [Act.put, List.setIfInBounds_toArray, List.set_cons_zero, List.set_cons_succ, i64_w, i32_w]
          rfl
        refine take_ (i := 3) (N := some 83) (v := ?_) (a' := ?_) #[true, true, true, true, false, true, true, true, false, false, false] rfl rfl (by kernel_rfl) (fun _ _ _ h => h) (Or.inl ⟨by rfl, ?_⟩) hHeld ?_ ?_
        rotate_left
        · rintro w' ⟨s0, s1, s2, s3⟩
          go_simp
          with_reducible rfl
        rotate_left
        · simp only [Act.put, List.setIfInBounds_toArray, List.set_cons_zero, List.set_cons_succ, i64_w, i32_w]
          rfl
        refine take_ (i := 4) (N := some 84) (v := ?_) (a' := ?_) #[true, true, true, true, true, true, true, true, false, false, false] rfl rfl (by kernel_rfl) (fun _ _ _ h => h) (Or.inl ⟨by rfl, ?_⟩) hHeld ?_ ?_
        rotate_left
        · rintro w' ⟨s0, s1, s2, s3⟩
          go_simp
          with_reducible rfl
        rotate_left
        · simp only [Act.put, List.setIfInBounds_toArray, List.set_cons_zero, List.set_cons_succ, i64_w, i32_w]
          rfl
        refine take_ (i := 8) (N := some 88) (v := ?_) (a' := ?_) #[true, true, true, true, true, true, true, true, true, false, false] rfl rfl (by kernel_rfl) (fun _ _ _ h => h) (Or.inl ⟨by rfl, ?_⟩) hHeld ?_ ?_
        rotate_left
        · rintro w' ⟨s0, s1, s2, s3⟩
          go_simp
          with_reducible rfl
        rotate_left
        · simp only [Act.put, List.setIfInBounds_toArray, List.set_cons_zero, List.set_cons_succ, i64_w, i32_w]
          rfl
        refine take_ (i := 9) (N := some 89) (v := ?_) (a' := ?_) #[true, true, true, true, true, true, true, true, true, true, false] rfl rfl (by kernel_rfl) (fun _ _ _ h => h) (Or.inl ⟨by rfl, ?_⟩) hHeld ?_ ?_
        rotate_left
        · rintro w' ⟨s0, s1, s2, s3⟩
          go_simp
          with_reducible rfl
        rotate_left
        · simp only [Act.put, List.setIfInBounds_toArray, List.set_cons_zero, List.set_cons_succ, i64_w, i32_w]
          rfl
        refine pure_ (i := 10) (N := some 90) (v := ?_) (a' := ?_) #[true, true, true, true, true, true, true, true, true, true, true] rfl rfl (by kernel_rfl) (fun _ _ _ h => h) (Or.inl ⟨by rfl, ?_⟩) ?_ ?_
        rotate_left
        · intro w'
          go_simp
          with_reducible rfl
        rotate_left
        · simp only [Act.put, List.setIfInBounds_toArray, List.set_cons_zero, List.set_cons_succ, i64_w, i32_w]
          rfl
        refine done_ (by kernel_rfl) ?_
        
        go_wp2_with fail
        with_reducible refine (kimberlitelaw07_alive.calls 0 true _ rfl).mono ?_
        rintro e w10 ⟨rfl, hb⟩
        have HB_22 := lhid (below_then HB_16.out HB_16.out.size hb)
        have HM_23 := lhid (Kd.N_below HM_17.out hb)
        have HCI_24 := lhid (Kd.C_below HCI_18.out hb)
        have HCJ_25 := lhid (Kd.C_below HCJ_19.out hb)
        have HXI_26 := lhid (pw_cell_below hb HXI_20.out)
        have HXJ_27 := lhid (pw_cell_below hb HXJ_21.out)
        clear HB_16 HM_17 HCI_18 HCJ_19 HXI_20 HXJ_21 hb
        go_wp2_with fail
        go_ret
        exact ⟨rfl, HB_22.out⟩
      · have HS := lhid hs
        have hq1 : ((strOfNums xi).toList == (strOfNums xj).toList) = false := beq_eq_false_iff_ne.mpr (fun q => hs (str_inj HBI.out HBJ.out q))
        clear hs
        have hb := below_drew1 (Below.refl w8.heap.size w8)
        have HB_28 := lhid (below_then HB_10.out HB_10.out.size hb)
        have HM_29 := lhid (Kd.N_below HM_11.out hb)
        have HCI_30 := lhid (Kd.C_below HCI_12.out hb)
        have HCJ_31 := lhid (Kd.C_below HCJ_13.out hb)
        have HXI_32 := lhid (pw_cell_below hb HXI_14.out)
        have HXJ_33 := lhid (pw_cell_below hb HXJ_15.out)
        clear HB_10 HM_11 HCI_12 HCJ_13 HXI_14 HXJ_15 hb
        refine start_ (n := 11) (S := fun w' => w'.cell? (ad.add i) = some (.slice Ai xi.length ci) ∧ w'.cell? (ad.add j) = some (.slice Aj xj.length cj) ∧ (convert 22 9 (.slice Ai xi.length ci)).run Try.prog w' = .ok (.string (strOfNums xi)) w' ∧ (convert 22 9 (.slice Aj xj.length cj)).run Try.prog w' = .ok (.string (strOfNums xj)) w') (ds := []) #[false, false, false, false, false, false, false, false, false, false, false] (by kernel_rfl) rfl rfl ⟨HXI_32.out, HXJ_33.out, Kd.C_string (P := Try.prog) (A := Ai) (c := ci) Try.underlying22 Try.underlying5 Try.underlying9 HCI_30.out, Kd.C_string (P := Try.prog) (A := Aj) (c := cj) Try.underlying22 Try.underlying5 Try.underlying9 HCJ_31.out⟩ (fun hHeld => ?_)
        generalize w8.drew = w9 at HB_28 HM_29 HCI_30 HCJ_31 HXI_32 HXJ_33 hHeld ⊢
        refine pure_ (i := 0) (N := some 80) (v := ?_) (a' := ?_) #[true, false, false, false, false, false, false, false, false, false, false] rfl rfl (by kernel_rfl) (fun _ _ _ h => h) (Or.inl ⟨by rfl, ?_⟩) ?_ ?_
        rotate_left
        · intro w'
          go_simp
          with_reducible rfl
        rotate_left
        · simp only [Act.put, List.setIfInBounds_toArray, List.set_cons_zero, List.set_cons_succ, i64_w, i32_w]
          rfl
        refine pure_ (i := 1) (N := some 81) (v := ?_) (a' := ?_) #[true, true, false, false, false, false, false, false, false, false, false] rfl rfl (by kernel_rfl) (fun _ _ _ h => h) (Or.inl ⟨by rfl, ?_⟩) ?_ ?_
        rotate_left
        · intro w'
          go_simp
          with_reducible rfl
        rotate_left
        · simp only [Act.put, List.setIfInBounds_toArray, List.set_cons_zero, List.set_cons_succ, i64_w, i32_w]
          rfl
        refine pure_ (i := 2) (N := some 82) (v := ?_) (a' := ?_) #[true, true, true, false, false, false, false, false, false, false, false] rfl rfl (by kernel_rfl) (fun _ _ _ h => h) (Or.inl ⟨by rfl, ?_⟩) ?_ ?_
        rotate_left
        · intro w'
          go_simp
          with_reducible rfl
        rotate_left
        · simp only [Act.put, List.setIfInBounds_toArray, List.set_cons_zero, List.set_cons_succ, i64_w, i32_w]
          rfl
        refine pure_ (i := 5) (N := some 85) (v := ?_) (a' := ?_) #[true, true, true, false, false, true, false, false, false, false, false] rfl rfl (by kernel_rfl) (fun _ _ _ h => h) (Or.inl ⟨by rfl, ?_⟩) ?_ ?_
        rotate_left
        · intro w'
          go_simp
          with_reducible rfl
        rotate_left
        · simp only [Act.put, List.setIfInBounds_toArray, List.set_cons_zero, List.set_cons_succ, i64_w, i32_w]
          rfl
        refine pure_ (i := 6) (N := some 86) (v := ?_) (a' := ?_) #[true, true, true, false, false, true, true, false, false, false, false] rfl rfl (by kernel_rfl) (fun _ _ _ h => h) (Or.inl ⟨by rfl, ?_⟩) ?_ ?_
        rotate_left
        · intro w'
          go_simp
          with_reducible rfl
        rotate_left
        · simp only [Act.put, List.setIfInBounds_toArray, List.set_cons_zero, List.set_cons_succ, i64_w, i32_w]
          rfl
        refine pure_ (i := 7) (N := some 87) (v := ?_) (a' := ?_) #[true, true, true, false, false, true, true, true, false, false, false] rfl rfl (by kernel_rfl) (fun _ _ _ h => h) (Or.inl ⟨by rfl, ?_⟩) ?_ ?_
        rotate_left
        · intro w'
          go_simp
          with_reducible rfl
        rotate_left
        · simp only [Act.put, List.setIfInBounds_toArray, List.set_cons_zero, List.set_cons_succ, i64_w, i32_w]
          rfl
        refine take_ (i := 3) (N := some 83) (v := ?_) (a' := ?_) #[true, true, true, true, false, true, true, true, false, false, false] rfl rfl (by kernel_rfl) (fun _ _ _ h => h) (Or.inl ⟨by rfl, ?_⟩) hHeld ?_ ?_
        rotate_left
        · rintro w' ⟨s0, s1, s2, s3⟩
          go_simp
          with_reducible rfl
        rotate_left
        · simp only [Act.put, List.setIfInBounds_toArray, List.set_cons_zero, List.set_cons_succ, i64_w, i32_w]
          rfl
        refine take_ (i := 4) (N := some 84) (v := ?_) (a' := ?_) #[true, true, true, true, true, true, true, true, false, false, false] rfl rfl (by kernel_rfl) (fun _ _ _ h => h) (Or.inl ⟨by rfl, ?_⟩) hHeld ?_ ?_
        rotate_left
        · rintro w' ⟨s0, s1, s2, s3⟩
          go_simp
          with_reducible rfl
        rotate_left
        · simp only [Act.put, List.setIfInBounds_toArray, List.set_cons_zero, List.set_cons_succ, i64_w, i32_w]
          rfl
        refine take_ (i := 8) (N := some 88) (v := ?_) (a' := ?_) #[true, true, true, true, true, true, true, true, true, false, false] rfl rfl (by kernel_rfl) (fun _ _ _ h => h) (Or.inl ⟨by rfl, ?_⟩) hHeld ?_ ?_
        rotate_left
        · rintro w' ⟨s0, s1, s2, s3⟩
          go_simp
          with_reducible rfl
        rotate_left
        · simp only [Act.put, List.setIfInBounds_toArray, List.set_cons_zero, List.set_cons_succ, i64_w, i32_w]
          rfl
        refine take_ (i := 9) (N := some 89) (v := ?_) (a' := ?_) #[true, true, true, true, true, true, true, true, true, true, false] rfl rfl (by kernel_rfl) (fun _ _ _ h => h) (Or.inl ⟨by rfl, ?_⟩) hHeld ?_ ?_
        rotate_left
        · rintro w' ⟨s0, s1, s2, s3⟩
          go_simp
          with_reducible rfl
        rotate_left
        · simp only [Act.put, List.setIfInBounds_toArray, List.set_cons_zero, List.set_cons_succ, i64_w, i32_w]
          rfl
        refine pure_ (i := 10) (N := some 90) (v := ?_) (a' := ?_) #[true, true, true, true, true, true, true, true, true, true, true] rfl rfl (by kernel_rfl) (fun _ _ _ h => h) (Or.inl ⟨by rfl, ?_⟩) ?_ ?_
        rotate_left
        · intro w'
          go_simp
          with_reducible rfl
        rotate_left
        · simp only [Act.put, List.setIfInBounds_toArray, List.set_cons_zero, List.set_cons_succ, i64_w, i32_w]
          rfl
        refine done_ (by kernel_rfl) ?_
        
        by_cases hrr : rootS l0 = rootS y
        · have HRR := lhid hrr
          rw [← hrr]
          clear hrr
          obtain ⟨k4, hk4⟩ := Ev.rounds (ev_Include l0 (i : Int))
          obtain ⟨k5, hk5⟩ := Ev.rounds (ev_Include y (i : Int))
          have e4 : incS l0 (i : Int) = (wayS (l0.map leafS) i, 0) := by unfold incS; rw [if_pos HE.out, if_pos (by omega)]; rfl
          have e5 : incS y (i : Int) = (wayS (y.map leafS) i, 0) := by unfold incS; rw [if_pos HLE.out, if_pos (by have := HYL.out; omega)]; rfl
          rw [e4] at hk4
          rw [e5] at hk5
          have HK4 := lhid hk4
          have HK5 := lhid hk5
          clear hk4 hk5 e4 e5
          go_wp2_with fail
          with_reducible refine (proof_Include.calls k4 _ c0 l0 (i : Int) (wayS (l0.map leafS) i) 0 w9 (Kd.C_below HR0.out HB_28.out) HC0.out HK4.out).mono ?_
          rintro e w10 ⟨v4, rfl, hS, hb⟩
          have HSA_34 := lhid (Kd.R_lower hS HB_28.out.size)
          clear hS
          have HB_35 := lhid (below_then HB_28.out HB_28.out.size hb)
          have HM_36 := lhid (Kd.N_below HM_29.out hb)
          have HCI_37 := lhid (Kd.C_below HCI_30.out hb)
          have HCJ_38 := lhid (Kd.C_below HCJ_31.out hb)
          have HXI_39 := lhid (pw_cell_below hb HXI_32.out)
          have HXJ_40 := lhid (pw_cell_below hb HXJ_33.out)
          clear HB_28 HM_29 HCI_30 HCJ_31 HXI_32 HXJ_33 hb
          obtain ⟨A4, c4, rfl⟩ := Kd.R_slice HSA_34.out
          have hRy := proof_Include.calls k5 (some ⟨bm, 0, none⟩) cm y (i : Int) (wayS (y.map leafS) i) 0 w10 (Kd.N_reads' HM_36.out).2.2 (by have := (Kd.N_reads' HM_36.out).2.1; have := HYL.out; omega) HK5.out
          rw [HYL.out] at hRy
          have HRY := lhid hRy
          clear hRy
          go_wp2_with fail
          with_reducible refine (HRY.out).mono ?_
          rintro e w11 ⟨v5, rfl, hS, hb⟩
          have HSB_41 := lhid (Kd.R_lower hS HB_35.out.size)
          clear hS
          have HB_42 := lhid (below_then HB_35.out HB_35.out.size hb)
          have HM_43 := lhid (Kd.N_below HM_36.out hb)
          have HCI_44 := lhid (Kd.C_below HCI_37.out hb)
          have HCJ_45 := lhid (Kd.C_below HCJ_38.out hb)
          have HXI_46 := lhid (pw_cell_below hb HXI_39.out)
          have HXJ_47 := lhid (pw_cell_below hb HXJ_40.out)
          have HSA_48 := lhid (Kd.R_below HSA_34.out hb)
          clear HB_35 HM_36 HCI_37 HCJ_38 HXI_39 HXJ_40 HSA_34 hb
          clear HRY
          obtain ⟨A5, c5, rfl⟩ := Kd.R_slice HSB_41.out
          obtain ⟨ad7, A7, c7, e7, hx7, hl7, hc7⟩ := at_L1 (Kd.N_reads' HM_43.out).2.2 (i : Int) (by omega) (by have := HYL.out; omega)
          cases e7
          have hiy : i < y.length := by have := HYL.out; omega
          rw [rdL_at y i hiy] at hx7 hl7 hc7
          rw [Int.toNat_natCast, add_plain] at hx7
          have hyi : y[i] = xj := by
            have q := swap_at l0 i j hi2 hj2 (by rw [← HXIE.out, ← HXJE.out]; exact HS.out)
            simp only [← HY.out] at q
            rw [q, HXJE.out]
          rw [hyi] at hx7 hl7 hc7
          have HX7 := lhid hx7
          have HC7 := lhid hc7
          have HL7 := lhid hl7
          have HYI := lhid hyi
          clear hx7 hc7 hl7 hyi
          have hin1 := incl_true l0 HE.out i hi2
          rw [← HXIE.out] at hin1
          have hin2 := incl_true y HLE.out i hiy
          rw [HYI.out, HYL.out, ← HRR.out] at hin2
          have HI1 := lhid hin1.1
          have HI2 := lhid hin2.1
          clear hin1 hin2
          obtain ⟨_, hcx, hCX⟩ := Kd.R_reads' HSA_48.out
          have HCP := lhid hCX
          have HHP := lhid hcx
          clear hCX hcx
          obtain ⟨_, hcx, hCX⟩ := Kd.R_reads' HSB_41.out
          have HCQ := lhid hCX
          have HHQ := lhid hcx
          clear hCX hcx
          go_wp2_with fail
          have hb := below_drew1 (Below.refl w11.heap.size w11)
          have HB_49 := lhid (below_then HB_42.out HB_42.out.size hb)
          have HM_50 := lhid (Kd.N_below HM_43.out hb)
          have HCI_51 := lhid (Kd.C_below HCI_44.out hb)
          have HCJ_52 := lhid (Kd.C_below HCJ_45.out hb)
          have HXI_53 := lhid (pw_cell_below hb HXI_46.out)
          have HXJ_54 := lhid (pw_cell_below hb HXJ_47.out)
          have HSA_55 := lhid (Kd.R_below HSA_48.out hb)
          have HSB_56 := lhid (Kd.R_below HSB_41.out hb)
          have HX7_57 := lhid (pw_cell_below hb HX7.out)
          have HC7_58 := lhid (Kd.C_below HC7.out hb)
          have HCP_59 := lhid (Kd.C_below HCP.out hb)
          have HCQ_60 := lhid (Kd.C_below HCQ.out hb)
          clear HB_42 HM_43 HCI_44 HCJ_45 HXI_46 HXJ_47 HSA_48 HSB_41 HX7 HC7 HCP HCQ hb
          refine start_ (n := 26) (S := fun w' => w'.cell? (ad.add i) = some (.slice Ai xi.length ci) ∧ w'.cell? ⟨bm, i, none⟩ = some (.slice A7 xj.length c7)) (ds := []) #[false, false, false, false, false, false, false, false, false, false, false, false, false, false, false, false, false, false, false, false, false, false, false, false, false, false] (by kernel_rfl) rfl rfl ⟨HXI_53.out, HX7_57.out⟩ (fun hHeld => ?_)
          generalize w11.drew = w12 at HB_49 HM_50 HCI_51 HCJ_52 HXI_53 HXJ_54 HSA_55 HSB_56 HX7_57 HC7_58 HCP_59 HCQ_60 hHeld ⊢
          refine pure_ (i := 0) (N := some 113) (v := ?_) (a' := ?_) #[true, false, false, false, false, false, false, false, false, false, false, false, false, false, false, false, false, false, false, false, false, false, false, false, false, false] rfl rfl (by kernel_rfl) (fun _ _ _ h => h) (Or.inl ⟨by rfl, ?_⟩) ?_ ?_
          rotate_left
          · intro w'
            go_simp
            with_reducible rfl
          rotate_left
          · simp only [Act.put, List.setIfInBounds_toArray, List.set_cons_zero, List.set_cons_succ, i64_w, i32_w]
            rfl
          refine pure_ (i := 1) (N := some 114) (v := ?_) (a' := ?_) #[true, true, false, false, false, false, false, false, false, false, false, false, false, false, false, false, false, false, false, false, false, false, false, false, false, false] rfl rfl (by kernel_rfl) (fun _ _ _ h => h) (Or.inl ⟨by rfl, ?_⟩) ?_ ?_
          rotate_left
          · intro w'
            go_simp
            with_reducible rfl
          rotate_left
          · simp only [Act.put, List.setIfInBounds_toArray, List.set_cons_zero, List.set_cons_succ, i64_w, i32_w]
            rfl
          refine pure_ (i := 2) (N := some 115) (v := ?_) (a' := ?_) #[true, true, true, false, false, false, false, false, false, false, false, false, false, false, false, false, false, false, false, false, false, false, false, false, false, false] rfl rfl (by kernel_rfl) (fun _ _ _ h => h) (Or.inl ⟨by rfl, ?_⟩) ?_ ?_
          rotate_left
          · intro w'
            go_simp
            with_reducible rfl
          rotate_left
          · simp only [Act.put, List.setIfInBounds_toArray, List.set_cons_zero, List.set_cons_succ, i64_w, i32_w]
            rfl
          refine pure_ (i := 3) (N := some 116) (v := ?_) (a' := ?_) #[true, true, true, true, false, false, false, false, false, false, false, false, false, false, false, false, false, false, false, false, false, false, false, false, false, false] rfl rfl (by kernel_rfl) (fun _ _ _ h => h) (Or.inl ⟨by rfl, ?_⟩) ?_ ?_
          rotate_left
          · intro w'
            go_simp
            with_reducible rfl
          rotate_left
          · simp only [Act.put, List.setIfInBounds_toArray, List.set_cons_zero, List.set_cons_succ, i64_w, i32_w]
            rfl
          refine pure_ (i := 4) (N := some 117) (v := ?_) (a' := ?_) #[true, true, true, true, true, false, false, false, false, false, false, false, false, false, false, false, false, false, false, false, false, false, false, false, false, false] rfl rfl (by kernel_rfl) (fun _ _ _ h => h) (Or.inl ⟨by rfl, ?_⟩) ?_ ?_
          rotate_left
          · intro w'
            go_simp
            with_reducible rfl
          rotate_left
          · simp only [Act.put, List.setIfInBounds_toArray, List.set_cons_zero, List.set_cons_succ, i64_w, i32_w]
            rfl
          refine pure_ (i := 5) (N := some 118) (v := ?_) (a' := ?_) #[true, true, true, true, true, true, false, false, false, false, false, false, false, false, false, false, false, false, false, false, false, false, false, false, false, false] rfl rfl (by kernel_rfl) (fun _ _ _ h => h) (Or.inl ⟨by rfl, ?_⟩) ?_ ?_
          rotate_left
          · intro w'
            go_simp
            with_reducible rfl
          rotate_left
          · simp only [Act.put, List.setIfInBounds_toArray, List.set_cons_zero, List.set_cons_succ, i64_w, i32_w]
            rfl
          refine pure_ (i := 6) (N := some 119) (v := ?_) (a' := ?_) #[true, true, true, true, true, true, true, false, false, false, false, false, false, false, false, false, false, false, false, false, false, false, false, false, false, false] rfl rfl (by kernel_rfl) (fun _ _ _ h => h) (Or.inl ⟨by rfl, ?_⟩) ?_ ?_
          rotate_left
          · intro w'
            go_simp
            with_reducible rfl
          rotate_left
          · simp only [Act.put, List.setIfInBounds_toArray, List.set_cons_zero, List.set_cons_succ, i64_w, i32_w]
            rfl
          refine pure_ (i := 7) (N := some 120) (v := ?_) (a' := ?_) #[true, true, true, true, true, true, true, true, false, false, false, false, false, false, false, false, false, false, false, false, false, false, false, false, false, false] rfl rfl (by kernel_rfl) (fun _ _ _ h => h) (Or.inl ⟨by rfl, ?_⟩) ?_ ?_
          rotate_left
          · intro w'
            go_simp
            with_reducible rfl
          rotate_left
          · simp only [Act.put, List.setIfInBounds_toArray, List.set_cons_zero, List.set_cons_succ, i64_w, i32_w]
            rfl
          refine pure_ (i := 8) (N := some 121) (v := ?_) (a' := ?_) #[true, true, true, true, true, true, true, true, true, false, false, false, false, false, false, false, false, false, false, false, false, false, false, false, false, false] rfl rfl (by kernel_rfl) (fun _ _ _ h => h) (Or.inl ⟨by rfl, ?_⟩) ?_ ?_
          rotate_left
          · intro w'
            go_simp
            with_reducible rfl
          rotate_left
          · simp only [Act.put, List.setIfInBounds_toArray, List.set_cons_zero, List.set_cons_succ, i64_w, i32_w]
            rfl
          refine pure_ (i := 9) (N := some 122) (v := ?_) (a' := ?_) #[true, true, true, true, true, true, true, true, true, true, false, false, false, false, false, false, false, false, false, false, false, false, false, false, false, false] rfl rfl (by kernel_rfl) (fun _ _ _ h => h) (Or.inl ⟨by rfl, ?_⟩) ?_ ?_
          rotate_left
          · intro w'
            go_simp
            with_reducible rfl
          rotate_left
          · simp only [Act.put, List.setIfInBounds_toArray, List.set_cons_zero, List.set_cons_succ, i64_w, i32_w]
            rfl
          refine pure_ (i := 10) (N := some 123) (v := ?_) (a' := ?_) #[true, true, true, true, true, true, true, true, true, true, true, false, false, false, false, false, false, false, false, false, false, false, false, false, false, false] rfl rfl (by kernel_rfl) (fun _ _ _ h => h) (Or.inl ⟨by rfl, ?_⟩) ?_ ?_
          rotate_left
          · intro w'
            go_simp
            with_reducible rfl
          rotate_left
          · simp only [Act.put, List.setIfInBounds_toArray, List.set_cons_zero, List.set_cons_succ, i64_w, i32_w]
            rfl
          refine pure_ (i := 11) (N := some 124) (v := ?_) (a' := ?_) #[true, true, true, true, true, true, true, true, true, true, true, true, false, false, false, false, false, false, false, false, false, false, false, false, false, false] rfl rfl (by kernel_rfl) (fun _ _ _ h => h) (Or.inl ⟨by rfl, ?_⟩) ?_ ?_
          rotate_left
          · intro w'
            go_simp
            with_reducible rfl
          rotate_left
          · simp only [Act.put, List.setIfInBounds_toArray, List.set_cons_zero, List.set_cons_succ, i64_w, i32_w]
            rfl
          refine pure_ (i := 12) (N := some 125) (v := ?_) (a' := ?_) #[true, true, true, true, true, true, true, true, true, true, true, true, true, false, false, false, false, false, false, false, false, false, false, false, false, false] rfl rfl (by kernel_rfl) (fun _ _ _ h => h) (Or.inl ⟨by rfl, ?_⟩) ?_ ?_
          rotate_left
          · intro w'
            go_simp
            with_reducible rfl
          rotate_left
          · simp only [Act.put, List.setIfInBounds_toArray, List.set_cons_zero, List.set_cons_succ, i64_w, i32_w]
            rfl
          refine pure_ (i := 14) (N := some 127) (v := ?_) (a' := ?_) #[true, true, true, true, true, true, true, true, true, true, true, true, true, false, true, false, false, false, false, false, false, false, false, false, false, false] rfl rfl (by kernel_rfl) (fun _ _ _ h => h) (Or.inl ⟨by rfl, ?_⟩) ?_ ?_
          rotate_left
          · intro w'
            go_simp
            with_reducible rfl
          rotate_left
          · simp only [Act.put, List.setIfInBounds_toArray, List.set_cons_zero, List.set_cons_succ, i64_w, i32_w]
            rfl
          refine pure_ (i := 15) (N := some 128) (v := ?_) (a' := ?_) #[true, true, true, true, true, true, true, true, true, true, true, true, true, false, true, true, false, false, false, false, false, false, false, false, false, false] rfl rfl (by kernel_rfl) (fun _ _ _ h => h) (Or.inl ⟨by rfl, ?_⟩) ?_ ?_
          rotate_left
          · intro w'
            go_simp
            with_reducible rfl
          rotate_left
          · simp only [Act.put, List.setIfInBounds_toArray, List.set_cons_zero, List.set_cons_succ, i64_w, i32_w]
            rfl
          refine pure_ (i := 16) (N := some 129) (v := ?_) (a' := ?_) #[true, true, true, true, true, true, true, true, true, true, true, true, true, false, true, true, true, false, false, false, false, false, false, false, false, false] rfl rfl (by kernel_rfl) (fun _ _ _ h => h) (Or.inl ⟨by rfl, ?_⟩) ?_ ?_
          rotate_left
          · intro w'
            go_simp
            with_reducible rfl
          rotate_left
          · simp only [Act.put, List.setIfInBounds_toArray, List.set_cons_zero, List.set_cons_succ, i64_w, i32_w]
            rfl
          refine pure_ (i := 17) (N := some 130) (v := ?_) (a' := ?_) #[true, true, true, true, true, true, true, true, true, true, true, true, true, false, true, true, true, true, false, false, false, false, false, false, false, false] rfl rfl (by kernel_rfl) (fun _ _ _ h => h) (Or.inl ⟨by rfl, ?_⟩) ?_ ?_
          rotate_left
          · intro w'
            go_simp
            with_reducible rfl
          rotate_left
          · simp only [Act.put, List.setIfInBounds_toArray, List.set_cons_zero, List.set_cons_succ, i64_w, i32_w]
            rfl
          refine pure_ (i := 19) (N := some 132) (v := ?_) (a' := ?_) #[true, true, true, true, true, true, true, true, true, true, true, true, true, false, true, true, true, true, false, true, false, false, false, false, false, false] rfl rfl (by kernel_rfl) (fun _ _ _ h => h) (Or.inl ⟨by rfl, ?_⟩) ?_ ?_
          rotate_left
          · intro w'
            go_simp
            with_reducible rfl
          rotate_left
          · simp only [Act.put, List.setIfInBounds_toArray, List.set_cons_zero, List.set_cons_succ, i64_w, i32_w]
            rfl
          refine take_ (i := 13) (N := some 126) (v := ?_) (a' := ?_) #[true, true, true, true, true, true, true, true, true, true, true, true, true, true, true, true, true, true, false, true, false, false, false, false, false, false] rfl rfl (by kernel_rfl) (fun _ _ _ h => h) (Or.inl ⟨by rfl, ?_⟩) hHeld ?_ ?_
          rotate_left
          · rintro w' ⟨s0, s1⟩
            go_simp
            with_reducible rfl
          rotate_left
          · simp only [Act.put, List.setIfInBounds_toArray, List.set_cons_zero, List.set_cons_succ, i64_w, i32_w]
            rfl
          refine take_ (i := 18) (N := some 131) (v := ?_) (a' := ?_) #[true, true, true, true, true, true, true, true, true, true, true, true, true, true, true, true, true, true, true, true, false, false, false, false, false, false] rfl rfl (by kernel_rfl) (fun _ _ _ h => h) (Or.inl ⟨by rfl, ?_⟩) hHeld ?_ ?_
          rotate_left
          · rintro w' ⟨s0, s1⟩
            go_simp
            with_reducible rfl
          rotate_left
          · simp only [Act.put, List.setIfInBounds_toArray, List.set_cons_zero, List.set_cons_succ, i64_w, i32_w]
            rfl
          refine one_ (i := 20) (N := some 133) #[true, true, true, true, true, true, true, true, true, true, true, true, true, true, true, true, true, true, true, true, true, false, false, false, false, false] rfl rfl (by kernel_rfl) (by decide) (fun K hK => ?_)
          refine goes_ Try.func37 (by kernel_rfl) rfl #[.int .i64 i, .int .i64 (l0.length : Int), .slice Ai xi.length ci, .slice A4 (wayS (l0.map leafS) i).length c4, .slice A7 xj.length c7, .slice A5 (wayS (y.map leafS) i).length c5] (by rfl) rfl rfl (by (try simp only [List.map_toArray, List.map_cons, List.map_nil]); first | done | rfl) ?_
          with_reducible refine (blamed_calls (i : Int) (l0.length : Int) Ai ci xi A4 c4 (wayS (l0.map leafS) i) A7 c7 xj A5 c5 (wayS (y.map leafS) i) (rootS l0) _ HCI_51.out HLI.out HCP_59.out HHP.out HC7_58.out HL7.out HCQ_60.out HHQ.out HBI.out HBJ.out (by have := way_small (l0.map leafS) i (by rw [List.length_map]; omega); omega) (by have := way_small (y.map leafS) i (by rw [List.length_map, HYL.out]; omega); omega) (way_ok _ _ i (Nat.le_refl _) (leafs_ok l0)) (way_ok _ _ i (Nat.le_refl _) (leafs_ok y)) HS.out (by rw [HI1.out]) (by rw [HI2.out])).mono ?_
          rintro e w13 ⟨rfl, hb⟩
          refine ⟨_, rfl, ?_⟩
          have HB_61 := lhid (below_then HB_49.out HB_49.out.size hb)
          have HM_62 := lhid (Kd.N_below HM_50.out hb)
          have HCI_63 := lhid (Kd.C_below HCI_51.out hb)
          have HCJ_64 := lhid (Kd.C_below HCJ_52.out hb)
          have HXI_65 := lhid (pw_cell_below hb HXI_53.out)
          have HXJ_66 := lhid (pw_cell_below hb HXJ_54.out)
          have HSA_67 := lhid (Kd.R_below HSA_55.out hb)
          have HSB_68 := lhid (Kd.R_below HSB_56.out hb)
          have HX7_69 := lhid (pw_cell_below hb HX7_57.out)
          have HC7_70 := lhid (Kd.C_below HC7_58.out hb)
          have HCP_71 := lhid (Kd.C_below HCP_59.out hb)
          have HCQ_72 := lhid (Kd.C_below HCQ_60.out hb)
          clear HB_49 HM_50 HCI_51 HCJ_52 HXI_53 HXJ_54 HSA_55 HSB_56 HX7_57 HC7_58 HCP_59 HCQ_60 hb
          refine hK.out _ _ ⟨HXI_65.out, HX7_69.out⟩ (fun hHeld => ?_)
          clear hK K
          refine norm_ (a' := ?_) ?_ ?_
          rotate_left
          · show Act.put _ (some 133) _ = _
            simp only [Act.put, List.setIfInBounds_toArray, List.set_cons_zero, List.set_cons_succ, i64_w, i32_w]
            rfl
          refine pure_ (i := 21) (N := some 134) (v := ?_) (a' := ?_) #[true, true, true, true, true, true, true, true, true, true, true, true, true, true, true, true, true, true, true, true, true, true, false, false, false, false] rfl rfl (by kernel_rfl) (fun _ _ _ h => h) (Or.inl ⟨by rfl, ?_⟩) ?_ ?_
          rotate_left
          · intro w'
            go_simp
            with_reducible rfl
          rotate_left
          · simp only [Act.put, List.setIfInBounds_toArray, List.set_cons_zero, List.set_cons_succ, i64_w, i32_w]
            rfl
          refine pure_ (i := 22) (N := some 135) (v := ?_) (a' := ?_) #[true, true, true, true, true, true, true, true, true, true, true, true, true, true, true, true, true, true, true, true, true, true, true, false, false, false] rfl rfl (by kernel_rfl) (fun _ _ _ h => h) (Or.inl ⟨by rfl, ?_⟩) ?_ ?_
          rotate_left
          · intro w'
            go_simp
            with_reducible rfl
          rotate_left
          · simp only [Act.put, List.setIfInBounds_toArray, List.set_cons_zero, List.set_cons_succ, i64_w, i32_w]
            rfl
          refine one_ (i := 23) (N := some 136) #[true, true, true, true, true, true, true, true, true, true, true, true, true, true, true, true, true, true, true, true, true, true, true, true, false, false] rfl rfl (by kernel_rfl) (by decide) (fun K hK => ?_)
          refine goes_ Try.func16 (by kernel_rfl) rfl #[] (by rfl) rfl rfl (by (try simp only [List.map_toArray, List.map_cons, List.map_nil]); first | done | rfl) ?_
          with_reducible refine (kimberlitelaw07_alive.calls 0 true _ rfl).mono ?_
          rintro e w14 ⟨rfl, hb⟩
          refine ⟨_, rfl, ?_⟩
          have HB_73 := lhid (below_then HB_61.out HB_61.out.size hb)
          have HM_74 := lhid (Kd.N_below HM_62.out hb)
          have HCI_75 := lhid (Kd.C_below HCI_63.out hb)
          have HCJ_76 := lhid (Kd.C_below HCJ_64.out hb)
          have HXI_77 := lhid (pw_cell_below hb HXI_65.out)
          have HXJ_78 := lhid (pw_cell_below hb HXJ_66.out)
          have HSA_79 := lhid (Kd.R_below HSA_67.out hb)
          have HSB_80 := lhid (Kd.R_below HSB_68.out hb)
          have HX7_81 := lhid (pw_cell_below hb HX7_69.out)
          have HC7_82 := lhid (Kd.C_below HC7_70.out hb)
          have HCP_83 := lhid (Kd.C_below HCP_71.out hb)
          have HCQ_84 := lhid (Kd.C_below HCQ_72.out hb)
          clear HB_61 HM_62 HCI_63 HCJ_64 HXI_65 HXJ_66 HSA_67 HSB_68 HX7_69 HC7_70 HCP_71 HCQ_72 hb
          refine hK.out _ _ ⟨HXI_77.out, HX7_81.out⟩ (fun hHeld => ?_)
          clear hK K
          refine norm_ (a' := ?_) ?_ ?_
          rotate_left
          · show Act.put _ (some 136) _ = _
            simp only [Act.put, List.setIfInBounds_toArray, List.set_cons_zero, List.set_cons_succ, i64_w, i32_w]
            rfl
          refine pure_ (i := 24) (N := some 137) (v := ?_) (a' := ?_) #[true, true, true, true, true, true, true, true, true, true, true, true, true, true, true, true, true, true, true, true, true, true, true, true, true, false] rfl rfl (by kernel_rfl) (fun _ _ _ h => h) (Or.inl ⟨by rfl, ?_⟩) ?_ ?_
          rotate_left
          · intro w'
            go_simp
            with_reducible rfl
          rotate_left
          · simp only [Act.put, List.setIfInBounds_toArray, List.set_cons_zero, List.set_cons_succ, i64_w, i32_w]
            rfl
          refine pure_ (i := 25) (N := some 6) (v := ?_) (a' := ?_) #[true, true, true, true, true, true, true, true, true, true, true, true, true, true, true, true, true, true, true, true, true, true, true, true, true, true] rfl rfl (by kernel_rfl) (fun _ _ _ h => h) (Or.inl ⟨by rfl, ?_⟩) ?_ ?_
          rotate_left
          · intro w'
            go_simp
            with_reducible rfl
          rotate_left
          · simp only [Act.put, List.setIfInBounds_toArray, List.set_cons_zero, List.set_cons_succ, i64_w, i32_w]
            rfl
          refine done_ (by kernel_rfl) ?_
          
          go_wp2_with fail
          go_ret
          exact ⟨rfl, HB_73.out⟩
        · have hqn : (rootS l0 != rootS y) = true := bne_iff_ne.mpr hrr
          clear hrr
          go_wp2_with fail
          with_reducible refine (kimberlitelaw07_alive.calls 0 true _ rfl).mono ?_
          rintro e w10 ⟨rfl, hb⟩
          have HB_85 := lhid (below_then HB_28.out HB_28.out.size hb)
          have HM_86 := lhid (Kd.N_below HM_29.out hb)
          have HCI_87 := lhid (Kd.C_below HCI_30.out hb)
          have HCJ_88 := lhid (Kd.C_below HCJ_31.out hb)
          have HXI_89 := lhid (pw_cell_below hb HXI_32.out)
          have HXJ_90 := lhid (pw_cell_below hb HXJ_33.out)
          clear HB_28 HM_29 HCI_30 HCJ_31 HXI_32 HXJ_33 hb
          go_wp2_with fail
          go_ret
          exact ⟨rfl, HB_85.out⟩
    · have heb : (E != 0) = true := bne_iff_ne.mpr he
      clear he
      go_wp2_with fail
      with_reducible refine (kimberlitelaw07_alive.calls 0 true _ rfl).mono ?_
      rintro e w9 ⟨rfl, hb⟩
      have HB_91 := lhid (below_then HB_10.out HB_10.out.size hb)
      have HM_92 := lhid (Kd.N_below HM_11.out hb)
      clear HB_10 HM_11 hb
      go_wp2_with fail
      go_ret
      exact ⟨rfl, HB_91.out⟩
  · go_wp2_with fail
    all_goals ((with_reducible refine (kimberlitelaw07_alive.calls 0 true _ rfl).mono ?_); rintro e w3 ⟨rfl, hb⟩; go_wp2_with fail; go_ret; exact ⟨rfl, below_then HB_2.out HB_2.out.size hb⟩)
theorem proofOrder_pure : kimberlitelaw07_ProofOrder.Pure2 := fun _ _ _ h0 h1 h2 => ⟨0, h0, h1, h2, trivial⟩
end Go.Proofs.Ytacjdoekgmmfoaa.PL
