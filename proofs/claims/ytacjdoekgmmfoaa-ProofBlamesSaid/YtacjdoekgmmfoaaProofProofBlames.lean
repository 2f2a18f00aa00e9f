/- ProofBlames: two entries that are accepted at one place under one root betray a collision. The law's function walked by hand. -/
import Derived.Test.YtacjdoekgmmfoaaPLxPureProofBlames
import Derived.Test.YtacjdoekgmmfoaaLBm
import Derived.Test.YtacjdoekgmmfoaaPLx4
import Derived.Test.YtacjdoekgmmfoaaPLx5
import Derived.Test.YtacjdoekgmmfoaaPLx7
namespace Go.Proofs.Ytacjdoekgmmfoaa.PL
open Go.RowKit Go.Proofs.YtacjdoekgmmfoaaW.PrintWords Go.Proofs.YtacjdoekgmmfoaaW.PrintLast Go.Proofs.YtacjdoekgmmfoaaW.PrintMore Go.Proofs.Ytacjdoekgmmfoaa.Opn
set_option linter.unusedVariables false
set_option linter.unusedSimpArgs false
set_option maxHeartbeats 25600000 in
set_option maxRecDepth 100000 in
theorem kimberlitelaw07_ProofBlames.calls (k : Nat) (a0 a1 : Int) (A2_0 : Option Addr) (c2_0 : Nat) (l2_0 : List Int) (A2_1 : Option Addr) (c2_1 : Nat) (l2_1 : List S54) (A3_0 : Option Addr) (c3_0 : Nat) (l3_0 : List Int) (A3_1 : Option Addr) (c3_1 : Nat) (l3_1 : List S54) (w : World)
    (hr2_0 : Kd.C (Kd.int .u8) w A2_0 l2_0.length l2_0) (hc2_0 : l2_0.length ≤ c2_0) (hr2_1 : Kd.C k54 w A2_1 l2_1.length l2_1) (hc2_1 : l2_1.length ≤ c2_1) (hr3_0 : Kd.C (Kd.int .u8) w A3_0 l3_0.length l3_0) (hc3_0 : l3_0.length ≤ c3_0) (hr3_1 : Kd.C k54 w A3_1 l3_1.length l3_1) (hc3_1 : l3_1.length ≤ c3_1) (h : kimberlitelaw07_ProofBlames.ok a0 a1 l2_0 l2_1 l3_0 l3_1) :
    Calls Try.prog 4 #[.int .i64 a0, .int .i64 a1, .agg #[.slice A2_0 l2_0.length c2_0, .slice A2_1 l2_1.length c2_1], .agg #[.slice A3_0 l3_0.length c3_0, .slice A3_1 l3_1.length c3_1]] w fun e w' => e = .returned (.bool true) ∧ Below w.heap.size w w' := by
  have HR2_0 := lhid hr2_0
  have HC2_0 := lhid hc2_0
  have HR2_1 := lhid hr2_1
  have HC2_1 := lhid hc2_1
  have HR3_0 := lhid hr3_0
  have HC3_0 := lhid hc3_0
  have HR3_1 := lhid hr3_1
  have HC3_1 := lhid hc3_1
  have HOK := lhid h
  clear h hr2_0 hc2_0 hr2_1 hc2_1 hr3_0 hc3_0 hr3_1 hc3_1
  have hu25 := Try.underlying25
  have hu28 := Try.underlying28
  go_enter Try.func4, Try.ntmps4
  have HB_1 := lhid (Below.refl w.heap.size w)
  by_cases hsz : (l2_0.length ≤ 256 ∧ l3_0.length ≤ 256) ∧ l2_1.length ≤ 100 ∧ l3_1.length ≤ 100
  · obtain ⟨⟨hz1, hz2⟩, hz3, hz4⟩ := hsz
    have HZ1 := lhid hz1
    have HZ2 := lhid hz2
    have HZ3 := lhid hz3
    have HZ4 := lhid hz4
    obtain ⟨_, _, ⟨⟨_, hb1⟩, ⟨_, hs1⟩⟩, ⟨⟨_, hb2⟩, ⟨_, hs2⟩⟩, _⟩ := HOK.out
    have ho1 : ∀ s ∈ l2_1, okH s.f0 := fun s q => wf_u64 (hs1 s q).1
    have ho2 : ∀ s ∈ l3_1, okH s.f0 := fun s q => wf_u64 (hs2 s q).1
    have hB1 : byteL l2_0 := fun x q => wf_u8' (hb1 x q)
    have hB2 : byteL l3_0 := fun x q => wf_u8' (hb2 x q)
    obtain ⟨k0, hk0⟩ := Ev.rounds (ev_Follow l2_0 l2_1 (by omega) (by omega) ho1)
    obtain ⟨k1, hk1⟩ := Ev.rounds (ev_Included l2_0 a0 a1 (followS l2_0 l2_1) l2_1 (by omega) (by omega) ho1)
    obtain ⟨k2, hk2⟩ := Ev.rounds (ev_Included l3_0 a0 a1 (followS l2_0 l2_1) l3_1 (by omega) (by omega) ho2)
    obtain ⟨k3, hk3⟩ := Ev.rounds (ev_Accuse a0 a1 l2_0 l2_1 l3_0 l3_1 hB1 hB2 (by omega) (by omega) ho1 ho2)
    obtain ⟨x, e, hx, he⟩ : ∃ x e, x = (inclS l2_0 a0 a1 (followS l2_0 l2_1) l2_1).1 ∧ e = (inclS l2_0 a0 a1 (followS l2_0 l2_1) l2_1).2 := ⟨_, _, rfl, rfl⟩
    obtain ⟨y, f, hy, hf⟩ : ∃ x e, x = (inclS l3_0 a0 a1 (followS l2_0 l2_1) l3_1).1 ∧ e = (inclS l3_0 a0 a1 (followS l2_0 l2_1) l3_1).2 := ⟨_, _, rfl, rfl⟩
    replace hk1 := hk1.trans (show some (inclS l2_0 a0 a1 (followS l2_0 l2_1) l2_1) = some (x, e) by rw [hx, he])
    replace hk2 := hk2.trans (show some (inclS l3_0 a0 a1 (followS l2_0 l2_1) l3_1) = some (y, f) by rw [hy, hf])
    have HX := lhid hx
    have HE := lhid he
    have HY := lhid hy
    have HF := lhid hf
    clear hx he hy hf
    have HK0 := lhid hk0
    have HK1 := lhid hk1
    have HK2 := lhid hk2
    have HK3 := lhid hk3
    have HO1 := lhid ho1
    have HO2 := lhid ho2
    have HB1 := lhid hB1
    have HB2 := lhid hB2
    clear hk0 hk1 hk2 hk3 hb1 hb2 hs1 hs2 ho1 ho2 hB1 hB2 HOK
    go_wp2_with fail
    have hb := below_alloc (Below.refl w.heap.size w) (.cells #[.slice A2_0 l2_0.length c2_0, .slice A2_1 l2_1.length c2_1] 25)
    have hn := blk_new w (.cells #[.slice A2_0 l2_0.length c2_0, .slice A2_1 l2_1.length c2_1] 25)
    have HZ1 := lhid (show (World.alloc w (.cells #[.slice A2_0 l2_0.length c2_0, .slice A2_1 l2_1.length c2_1] 25)).heap.size = w.heap.size + 1 from by simp)
    generalize hq : World.alloc w (.cells #[.slice A2_0 l2_0.length c2_0, .slice A2_1 l2_1.length c2_1] 25) = w1 at hb hn HZ1 ⊢
    clear hq
    have HR2_0_2 := lhid (Kd.C_below HR2_0.out hb)
    have HR2_1_3 := lhid (Kd.C_below HR2_1.out hb)
    have HR3_0_4 := lhid (Kd.C_below HR3_0.out hb)
    have HR3_1_5 := lhid (Kd.C_below HR3_1.out hb)
    have HB_6 := lhid (below_then HB_1.out HB_1.out.size hb)
    clear HR2_0 HR2_1 HR3_0 HR3_1 HB_1 hb
    have HN1 := lhid hn
    clear hn
    have hb := below_alloc (Below.refl w1.heap.size w1) (.cells #[.slice A3_0 l3_0.length c3_0, .slice A3_1 l3_1.length c3_1] 25)
    have hn := blk_new w1 (.cells #[.slice A3_0 l3_0.length c3_0, .slice A3_1 l3_1.length c3_1] 25)
    have HZ2 := lhid (show (World.alloc w1 (.cells #[.slice A3_0 l3_0.length c3_0, .slice A3_1 l3_1.length c3_1] 25)).heap.size = w1.heap.size + 1 from by simp)
    generalize hq : World.alloc w1 (.cells #[.slice A3_0 l3_0.length c3_0, .slice A3_1 l3_1.length c3_1] 25) = w2 at hb hn HZ2 ⊢
    clear hq
    have HR2_0_7 := lhid (Kd.C_below HR2_0_2.out hb)
    have HR2_1_8 := lhid (Kd.C_below HR2_1_3.out hb)
    have HR3_0_9 := lhid (Kd.C_below HR3_0_4.out hb)
    have HR3_1_10 := lhid (Kd.C_below HR3_1_5.out hb)
    have HB_11 := lhid (below_then HB_6.out HB_6.out.size hb)
    have HN1_12 := lhid (blk_below HN1.out hb)
    clear HR2_0_2 HR2_1_3 HR3_0_4 HR3_1_5 HB_6 HN1 hb
    have HZb := HZ1
    rw [HZ1.out] at hn
    have HN2 := lhid hn
    clear hn HZb
    with_reducible refine (proof_Follow.calls k0 A2_0 c2_0 l2_0 A2_1 c2_1 l2_1 (followS l2_0 l2_1) w2 HR2_0_7.out HC2_0.out HR2_1_8.out HC2_1.out HK0.out).mono ?_
    rintro e w3 ⟨rfl, hb⟩
    have HR2_0_13 := lhid (Kd.C_below HR2_0_7.out hb)
    have HR2_1_14 := lhid (Kd.C_below HR2_1_8.out hb)
    have HR3_0_15 := lhid (Kd.C_below HR3_0_9.out hb)
    have HR3_1_16 := lhid (Kd.C_below HR3_1_10.out hb)
    have HB_17 := lhid (below_then HB_11.out HB_11.out.size hb)
    have HN1_18 := lhid (blk_below HN1_12.out hb)
    have HN2_19 := lhid (blk_below HN2.out hb)
    clear HR2_0_7 HR2_1_8 HR3_0_9 HR3_1_10 HB_11 HN1_12 HN2 hb
    have hc10 := blk_cell HN1_18.out 0
    have hc11 := blk_cell HN1_18.out 1
    simp only [List.getElem?_toArray, List.getElem?_cons_zero, List.getElem?_cons_succ] at hc10 hc11
    have hc20 := blk_cell HN2_19.out 0
    have hc21 := blk_cell HN2_19.out 1
    simp only [List.getElem?_toArray, List.getElem?_cons_zero, List.getElem?_cons_succ] at hc20 hc21
    go_wp2_with fail
    with_reducible refine (proof_Included.calls k1 A2_0 c2_0 l2_0 a0 a1 (followS l2_0 l2_1) A2_1 c2_1 l2_1 x e w3 HR2_0_13.out HC2_0.out HR2_1_14.out HC2_1.out HK1.out).mono ?_
    rintro e w4 ⟨rfl, hb⟩
    have HR2_0_20 := lhid (Kd.C_below HR2_0_13.out hb)
    have HR2_1_21 := lhid (Kd.C_below HR2_1_14.out hb)
    have HR3_0_22 := lhid (Kd.C_below HR3_0_15.out hb)
    have HR3_1_23 := lhid (Kd.C_below HR3_1_16.out hb)
    have HB_24 := lhid (below_then HB_17.out HB_17.out.size hb)
    have HN1_25 := lhid (blk_below HN1_18.out hb)
    have HN2_26 := lhid (blk_below HN2_19.out hb)
    clear HR2_0_13 HR2_1_14 HR3_0_15 HR3_1_16 HB_17 HN1_18 HN2_19 hb
    clear hc10 hc11 hc20 hc21
    have hc10 := blk_cell HN1_25.out 0
    have hc11 := blk_cell HN1_25.out 1
    simp only [List.getElem?_toArray, List.getElem?_cons_zero, List.getElem?_cons_succ] at hc10 hc11
    have hc20 := blk_cell HN2_26.out 0
    have hc21 := blk_cell HN2_26.out 1
    simp only [List.getElem?_toArray, List.getElem?_cons_zero, List.getElem?_cons_succ] at hc20 hc21
    go_wp2_with fail
    with_reducible refine (proof_Included.calls k2 A3_0 c3_0 l3_0 a0 a1 (followS l2_0 l2_1) A3_1 c3_1 l3_1 y f w4 HR3_0_22.out HC3_0.out HR3_1_23.out HC3_1.out HK2.out).mono ?_
    rintro e w5 ⟨rfl, hb⟩
    have HR2_0_27 := lhid (Kd.C_below HR2_0_20.out hb)
    have HR2_1_28 := lhid (Kd.C_below HR2_1_21.out hb)
    have HR3_0_29 := lhid (Kd.C_below HR3_0_22.out hb)
    have HR3_1_30 := lhid (Kd.C_below HR3_1_23.out hb)
    have HB_31 := lhid (below_then HB_24.out HB_24.out.size hb)
    have HN1_32 := lhid (blk_below HN1_25.out hb)
    have HN2_33 := lhid (blk_below HN2_26.out hb)
    clear HR2_0_20 HR2_1_21 HR3_0_22 HR3_1_23 HB_24 HN1_25 HN2_26 hb
    clear hc10 hc11 hc20 hc21
    have hc10 := blk_cell HN1_32.out 0
    have hc11 := blk_cell HN1_32.out 1
    simp only [List.getElem?_toArray, List.getElem?_cons_zero, List.getElem?_cons_succ] at hc10 hc11
    have hc20 := blk_cell HN2_33.out 0
    have hc21 := blk_cell HN2_33.out 1
    simp only [List.getElem?_toArray, List.getElem?_cons_zero, List.getElem?_cons_succ] at hc20 hc21
    by_cases hxy : x = true ∧ y = true ∧ l2_0 ≠ l3_0
    · obtain ⟨hx1, hy1, hne⟩ := hxy
      obtain ⟨r1, r2, ha, q1, q2, q3, q4⟩ := blame_yes (HX.out.symm.trans hx1) (HY.out.symm.trans hy1) hne HO1.out HO2.out
      have he0 : e = 0 := HE.out.trans (incl_parts (HX.out.symm.trans hx1)).2.2.2.2
      have hf0 : f = 0 := HF.out.trans (incl_parts (HY.out.symm.trans hy1)).2.2.2.2
      subst he0 hf0 hx1 hy1
      have hk3 := HK3.out
      rw [ha] at hk3
      clear HK3
      have HK3 := lhid hk3
      have HQ1 := lhid q1
      have HQ2 := lhid q2
      have HQ3 := lhid q3
      have HQ4 := lhid q4
      have hsn : ¬ (strOfNums l2_0).toList = (strOfNums l3_0).toList := fun q => hne (str_inj HB1.out HB2.out q)
      have hs5 : ((strOfNums l2_0).toList == (strOfNums l3_0).toList) = false := beq_eq_false_iff_ne.mpr hsn
      clear hk3 ha q1 q2 q3 q4 hne hsn HX HY HE HF
      go_wp2_with fail
      with_reducible refine (proof_Accuse.calls k3 a0 a1 A2_0 c2_0 l2_0 A2_1 c2_1 l2_1 A3_0 c3_0 l3_0 A3_1 c3_1 l3_1 r1 r2 0 w5 HR2_0_27.out HC2_0.out HR2_1_28.out HC2_1.out HR3_0_29.out HC3_0.out HR3_1_30.out HC3_1.out HK3.out).mono ?_
      rintro e w6 ⟨v0, v1, rfl, hX, hY, hb⟩
      have RX_34 := lhid (Kd.R_lower hX HB_31.out.size)
      clear hX
      have RY_35 := lhid (Kd.R_lower hY HB_31.out.size)
      clear hY
      have HR2_0_36 := lhid (Kd.C_below HR2_0_27.out hb)
      have HR2_1_37 := lhid (Kd.C_below HR2_1_28.out hb)
      have HR3_0_38 := lhid (Kd.C_below HR3_0_29.out hb)
      have HR3_1_39 := lhid (Kd.C_below HR3_1_30.out hb)
      have HB_40 := lhid (below_then HB_31.out HB_31.out.size hb)
      have HN1_41 := lhid (blk_below HN1_32.out hb)
      have HN2_42 := lhid (blk_below HN2_33.out hb)
      clear HR2_0_27 HR2_1_28 HR3_0_29 HR3_1_30 HB_31 HN1_32 HN2_33 hb
      clear hc10 hc11 hc20 hc21
      obtain ⟨B0, e0, rfl⟩ := Kd.R_slice RX_34.out
      obtain ⟨B1, e1, rfl⟩ := Kd.R_slice RY_35.out
      go_upto_region 7 with (fail)
      have hb := below_alloc (Below.refl w6.heap.size w6) (.cells #[.slice B0 r1.length e0, .slice B1 r2.length e1] 28)
      have hn := blk_new w6 (.cells #[.slice B0 r1.length e0, .slice B1 r2.length e1] 28)
      have HZ7 := lhid (show (World.alloc w6 (.cells #[.slice B0 r1.length e0, .slice B1 r2.length e1] 28)).heap.size = w6.heap.size + 1 from by simp)
      generalize hq : World.alloc w6 (.cells #[.slice B0 r1.length e0, .slice B1 r2.length e1] 28) = w7 at hb hn HZ7 ⊢
      clear hq
      have HR2_0_43 := lhid (Kd.C_below HR2_0_36.out hb)
      have HR2_1_44 := lhid (Kd.C_below HR2_1_37.out hb)
      have HR3_0_45 := lhid (Kd.C_below HR3_0_38.out hb)
      have HR3_1_46 := lhid (Kd.C_below HR3_1_39.out hb)
      have HB_47 := lhid (below_then HB_40.out HB_40.out.size hb)
      have HN1_48 := lhid (blk_below HN1_41.out hb)
      have HN2_49 := lhid (blk_below HN2_42.out hb)
      have RX_50 := lhid (Kd.R_below RX_34.out hb)
      have RY_51 := lhid (Kd.R_below RY_35.out hb)
      clear HR2_0_36 HR2_1_37 HR3_0_38 HR3_1_39 HB_40 HN1_41 HN2_42 RX_34 RY_35 hb
      have HN3 := lhid hn
      clear hn
      have hc10 := blk_cell HN1_48.out 0
      have hc11 := blk_cell HN1_48.out 1
      simp only [List.getElem?_toArray, List.getElem?_cons_zero, List.getElem?_cons_succ] at hc10 hc11
      have hc20 := blk_cell HN2_49.out 0
      have hc21 := blk_cell HN2_49.out 1
      simp only [List.getElem?_toArray, List.getElem?_cons_zero, List.getElem?_cons_succ] at hc20 hc21
      have hc30 := blk_cell HN3.out 0
      have hc31 := blk_cell HN3.out 1
      simp only [List.getElem?_toArray, List.getElem?_cons_zero, List.getElem?_cons_succ] at hc30 hc31
      have hs1 := Kd.C_string (P := Try.prog) (A := A2_0) (c := c2_0) Try.underlying22 Try.underlying5 Try.underlying9 HR2_0_43.out
      have hs2 := Kd.C_string (P := Try.prog) (A := A3_0) (c := c3_0) Try.underlying22 Try.underlying5 Try.underlying9 HR3_0_45.out
      go_wp2_with fail
      clear hc10 hc11 hc20 hc21 hc30 hc31 hs1 hs2 hs5
      have hlv1 := lv_byte l2_1 (0 :: l2_0) (byte_leaf HB1.out) (by simp; omega)
      have hlv2 := lv_byte l3_1 (0 :: l3_0) (byte_leaf HB2.out) (by simp; omega)
      obtain ⟨m1, hm1⟩ := Ev.rounds (ev_Mix r1 (by have := (hlv1 r1 HQ3.out).2; omega))
      obtain ⟨m2, hm2⟩ := Ev.rounds (ev_Mix r2 (by have := (hlv2 r2 HQ4.out).2; omega))
      obtain ⟨v1, hv1⟩ := Ev.rounds (ev_Levels l2_0 l2_1 (by omega) (by omega) HO1.out)
      obtain ⟨v2, hv2⟩ := Ev.rounds (ev_Levels l3_0 l3_1 (by omega) (by omega) HO2.out)
      obtain ⟨n1, hn1⟩ := Ev.rounds (ev_among (lv (0 :: l2_0) l2_1) r1 (by rw [lv_len]; omega) (fun x q => (hlv1 x q).1) (hlv1 r1 HQ3.out).1 HQ3.out)
      obtain ⟨n2, hn2⟩ := Ev.rounds (ev_among (lv (0 :: l3_0) l3_1) r2 (by rw [lv_len]; omega) (fun x q => (hlv2 x q).1) (hlv2 r2 HQ4.out).1 HQ4.out)
      have HM1x := lhid hm1
      have HM2x := lhid hm2
      have HV1x := lhid hv1
      have HV2x := lhid hv2
      have HN1x := lhid hn1
      have HN2x := lhid hn2
      have hse : ((strOfNums r1).toList != (strOfNums r2).toList) = true := bne_iff_ne.mpr (fun q => HQ1.out (str_inj (hlv1 r1 HQ3.out).1 (hlv2 r2 HQ4.out).1 q))
      have hse2 : ((strOfNums r1).toList == (strOfNums r2).toList) = false := beq_eq_false_iff_ne.mpr (bne_iff_ne.mp hse)
      have hqe : (mixS r1 == mixS r2) = true := beq_iff_eq.mpr HQ2.out
      clear hm1 hm2 hv1 hv2 hn1 hn2 hlv1 hlv2 hz1 hz2 hz3 hz4
      obtain ⟨_, hcx, hCX⟩ := Kd.R_reads' RX_50.out
      have CX := lhid hCX
      have HHX := lhid hcx
      clear hCX hcx
      obtain ⟨_, hcx, hCX⟩ := Kd.R_reads' RY_51.out
      have CY := lhid hCX
      have HHY := lhid hcx
      clear hCX hcx
      have hb := below_drew1 (Below.refl w7.heap.size w7)
      have HR2_0_52 := lhid (Kd.C_below HR2_0_43.out hb)
      have HR2_1_53 := lhid (Kd.C_below HR2_1_44.out hb)
      have HR3_0_54 := lhid (Kd.C_below HR3_0_45.out hb)
      have HR3_1_55 := lhid (Kd.C_below HR3_1_46.out hb)
      have HB_56 := lhid (below_then HB_47.out HB_47.out.size hb)
      have HN1_57 := lhid (blk_below HN1_48.out hb)
      have HN2_58 := lhid (blk_below HN2_49.out hb)
      have RX_59 := lhid (Kd.R_below RX_50.out hb)
      have RY_60 := lhid (Kd.R_below RY_51.out hb)
      have HN3_61 := lhid (blk_below HN3.out hb)
      have CX_62 := lhid (Kd.C_below CX.out hb)
      have CY_63 := lhid (Kd.C_below CY.out hb)
      clear HR2_0_43 HR2_1_44 HR3_0_45 HR3_1_46 HB_47 HN1_48 HN2_49 RX_50 RY_51 HN3 CX CY hb
      refine start_ (n := 52) (S := fun w' => w'.cell? ⟨w.heap.size, 0, none⟩ = some (.slice A2_0 l2_0.length c2_0) ∧ w'.cell? ⟨w.heap.size, 1, none⟩ = some (.slice A2_1 l2_1.length c2_1) ∧ w'.cell? ⟨w.heap.size + 1, 0, none⟩ = some (.slice A3_0 l3_0.length c3_0) ∧ w'.cell? ⟨w.heap.size + 1, 1, none⟩ = some (.slice A3_1 l3_1.length c3_1) ∧ w'.cell? ⟨w6.heap.size, 0, none⟩ = some (.slice B0 r1.length e0) ∧ w'.cell? ⟨w6.heap.size, 1, none⟩ = some (.slice B1 r2.length e1) ∧ (convert 22 9 (.slice B0 r1.length e0)).run Try.prog w' = .ok (.string (strOfNums r1)) w' ∧ (convert 22 9 (.slice B1 r2.length e1)).run Try.prog w' = .ok (.string (strOfNums r2)) w') (ds := []) #[false, false, false, false, false, false, false, false, false, false, false, false, false, false, false, false, false, false, false, false, false, false, false, false, false, false, false, false, false, false, false, false, false, false, false, false, false, false, false, false, false, false, false, false, false, false, false, false, false, false, false, false] (by kernel_rfl) rfl rfl ⟨((blk_cell HN1_57.out 0).trans rfl), ((blk_cell HN1_57.out 1).trans rfl), ((blk_cell HN2_58.out 0).trans rfl), ((blk_cell HN2_58.out 1).trans rfl), ((blk_cell HN3_61.out 0).trans rfl), ((blk_cell HN3_61.out 1).trans rfl), own_string (P := Try.prog) Try.underlying22 Try.underlying5 Try.underlying9 (Kd.own_of_R RX_59.out), own_string (P := Try.prog) Try.underlying22 Try.underlying5 Try.underlying9 (Kd.own_of_R RY_60.out)⟩ (fun hHeld => ?_)
      generalize w7.drew = w8 at HR2_0_52 HR2_1_53 HR3_0_54 HR3_1_55 HB_56 HN1_57 HN2_58 RX_59 RY_60 HN3_61 CX_62 CY_63 hHeld ⊢
      refine pure_ (i := 0) (N := some 110) (v := ?_) (a' := ?_) #[true, false, false, false, false, false, false, false, false, false, false, false, false, false, false, false, false, false, false, false, false, false, false, false, false, false, false, false, false, false, false, false, false, false, false, false, false, false, false, false, false, false, false, false, false, false, false, false, false, false, false, false] rfl rfl (by kernel_rfl) (fun _ _ _ h => h) (Or.inl ⟨by rfl, ?_⟩) ?_ ?_
      rotate_left
      · intro w'
        go_simp
        with_reducible rfl
      rotate_left
      · simp only [Act.put, List.setIfInBounds_toArray, List.set_cons_zero, List.set_cons_succ, i64_w, i32_w]
        rfl
      refine pure_ (i := 1) (N := some 111) (v := ?_) (a' := ?_) #[true, true, false, false, false, false, false, false, false, false, false, false, false, false, false, false, false, false, false, false, false, false, false, false, false, false, false, false, false, false, false, false, false, false, false, false, false, false, false, false, false, false, false, false, false, false, false, false, false, false, false, false] rfl rfl (by kernel_rfl) (fun _ _ _ h => h) (Or.inl ⟨by rfl, ?_⟩) ?_ ?_
      rotate_left
      · intro w'
        go_simp
        with_reducible rfl
      rotate_left
      · simp only [Act.put, List.setIfInBounds_toArray, List.set_cons_zero, List.set_cons_succ, i64_w, i32_w]
        rfl
      refine pure_ (i := 2) (N := some 112) (v := ?_) (a' := ?_) #[true, true, true, false, false, false, false, false, false, false, false, false, false, false, false, false, false, false, false, false, false, false, false, false, false, false, false, false, false, false, false, false, false, false, false, false, false, false, false, false, false, false, false, false, false, false, false, false, false, false, false, false] rfl rfl (by kernel_rfl) (fun _ _ _ h => h) (Or.inl ⟨by rfl, ?_⟩) ?_ ?_
      rotate_left
      · intro w'
        go_simp
        with_reducible rfl
      rotate_left
      · simp only [Act.put, List.setIfInBounds_toArray, List.set_cons_zero, List.set_cons_succ, i64_w, i32_w]
        rfl
      refine pure_ (i := 3) (N := some 113) (v := ?_) (a' := ?_) #[true, true, true, true, false, false, false, false, false, false, false, false, false, false, false, false, false, false, false, false, false, false, false, false, false, false, false, false, false, false, false, false, false, false, false, false, false, false, false, false, false, false, false, false, false, false, false, false, false, false, false, false] rfl rfl (by kernel_rfl) (fun _ _ _ h => h) (Or.inl ⟨by rfl, ?_⟩) ?_ ?_
      rotate_left
      · intro w'
        go_simp
        with_reducible rfl
      rotate_left
      · simp only [Act.put, List.setIfInBounds_toArray, List.set_cons_zero, List.set_cons_succ, i64_w, i32_w]
        rfl
      refine pure_ (i := 4) (N := some 114) (v := ?_) (a' := ?_) #[true, true, true, true, true, false, false, false, false, false, false, false, false, false, false, false, false, false, false, false, false, false, false, false, false, false, false, false, false, false, false, false, false, false, false, false, false, false, false, false, false, false, false, false, false, false, false, false, false, false, false, false] rfl rfl (by kernel_rfl) (fun _ _ _ h => h) (Or.inl ⟨by rfl, ?_⟩) ?_ ?_
      rotate_left
      · intro w'
        go_simp
        with_reducible rfl
      rotate_left
      · simp only [Act.put, List.setIfInBounds_toArray, List.set_cons_zero, List.set_cons_succ, i64_w, i32_w]
        rfl
      refine pure_ (i := 5) (N := some 115) (v := ?_) (a' := ?_) #[true, true, true, true, true, true, false, false, false, false, false, false, false, false, false, false, false, false, false, false, false, false, false, false, false, false, false, false, false, false, false, false, false, false, false, false, false, false, false, false, false, false, false, false, false, false, false, false, false, false, false, false] rfl rfl (by kernel_rfl) (fun _ _ _ h => h) (Or.inl ⟨by rfl, ?_⟩) ?_ ?_
      rotate_left
      · intro w'
        go_simp
        with_reducible rfl
      rotate_left
      · simp only [Act.put, List.setIfInBounds_toArray, List.set_cons_zero, List.set_cons_succ, i64_w, i32_w]
        rfl
      refine pure_ (i := 6) (N := some 116) (v := ?_) (a' := ?_) #[true, true, true, true, true, true, true, false, false, false, false, false, false, false, false, false, false, false, false, false, false, false, false, false, false, false, false, false, false, false, false, false, false, false, false, false, false, false, false, false, false, false, false, false, false, false, false, false, false, false, false, false] rfl rfl (by kernel_rfl) (fun _ _ _ h => h) (Or.inl ⟨by rfl, ?_⟩) ?_ ?_
      rotate_left
      · intro w'
        go_simp
        with_reducible rfl
      rotate_left
      · simp only [Act.put, List.setIfInBounds_toArray, List.set_cons_zero, List.set_cons_succ, i64_w, i32_w]
        rfl
      refine pure_ (i := 7) (N := some 117) (v := ?_) (a' := ?_) #[true, true, true, true, true, true, true, true, false, false, false, false, false, false, false, false, false, false, false, false, false, false, false, false, false, false, false, false, false, false, false, false, false, false, false, false, false, false, false, false, false, false, false, false, false, false, false, false, false, false, false, false] rfl rfl (by kernel_rfl) (fun _ _ _ h => h) (Or.inl ⟨by rfl, ?_⟩) ?_ ?_
      rotate_left
      · intro w'
        go_simp
        with_reducible rfl
      rotate_left
      · simp only [Act.put, List.setIfInBounds_toArray, List.set_cons_zero, List.set_cons_succ, i64_w, i32_w]
        rfl
      refine pure_ (i := 8) (N := some 118) (v := ?_) (a' := ?_) #[true, true, true, true, true, true, true, true, true, false, false, false, false, false, false, false, false, false, false, false, false, false, false, false, false, false, false, false, false, false, false, false, false, false, false, false, false, false, false, false, false, false, false, false, false, false, false, false, false, false, false, false] rfl rfl (by kernel_rfl) (fun _ _ _ h => h) (Or.inl ⟨by rfl, ?_⟩) ?_ ?_
      rotate_left
      · intro w'
        go_simp
        with_reducible rfl
      rotate_left
      · simp only [Act.put, List.setIfInBounds_toArray, List.set_cons_zero, List.set_cons_succ, i64_w, i32_w]
        rfl
      refine pure_ (i := 9) (N := some 119) (v := ?_) (a' := ?_) #[true, true, true, true, true, true, true, true, true, true, false, false, false, false, false, false, false, false, false, false, false, false, false, false, false, false, false, false, false, false, false, false, false, false, false, false, false, false, false, false, false, false, false, false, false, false, false, false, false, false, false, false] rfl rfl (by kernel_rfl) (fun _ _ _ h => h) (Or.inl ⟨by rfl, ?_⟩) ?_ ?_
      rotate_left
      · intro w'
        go_simp
        with_reducible rfl
      rotate_left
      · simp only [Act.put, List.setIfInBounds_toArray, List.set_cons_zero, List.set_cons_succ, i64_w, i32_w]
        rfl
      refine pure_ (i := 10) (N := some 120) (v := ?_) (a' := ?_) #[true, true, true, true, true, true, true, true, true, true, true, false, false, false, false, false, false, false, false, false, false, false, false, false, false, false, false, false, false, false, false, false, false, false, false, false, false, false, false, false, false, false, false, false, false, false, false, false, false, false, false, false] rfl rfl (by kernel_rfl) (fun _ _ _ h => h) (Or.inl ⟨by rfl, ?_⟩) ?_ ?_
      rotate_left
      · intro w'
        go_simp
        with_reducible rfl
      rotate_left
      · simp only [Act.put, List.setIfInBounds_toArray, List.set_cons_zero, List.set_cons_succ, i64_w, i32_w]
        rfl
      refine pure_ (i := 11) (N := some 121) (v := ?_) (a' := ?_) #[true, true, true, true, true, true, true, true, true, true, true, true, false, false, false, false, false, false, false, false, false, false, false, false, false, false, false, false, false, false, false, false, false, false, false, false, false, false, false, false, false, false, false, false, false, false, false, false, false, false, false, false] rfl rfl (by kernel_rfl) (fun _ _ _ h => h) (Or.inl ⟨by rfl, ?_⟩) ?_ ?_
      rotate_left
      · intro w'
        go_simp
        with_reducible rfl
      rotate_left
      · simp only [Act.put, List.setIfInBounds_toArray, List.set_cons_zero, List.set_cons_succ, i64_w, i32_w]
        rfl
      refine pure_ (i := 14) (N := some 124) (v := ?_) (a' := ?_) #[true, true, true, true, true, true, true, true, true, true, true, true, false, false, true, false, false, false, false, false, false, false, false, false, false, false, false, false, false, false, false, false, false, false, false, false, false, false, false, false, false, false, false, false, false, false, false, false, false, false, false, false] rfl rfl (by kernel_rfl) (fun _ _ _ h => h) (Or.inl ⟨by rfl, ?_⟩) ?_ ?_
      rotate_left
      · intro w'
        go_simp
        with_reducible rfl
      rotate_left
      · simp only [Act.put, List.setIfInBounds_toArray, List.set_cons_zero, List.set_cons_succ, i64_w, i32_w]
        rfl
      refine take_ (i := 12) (N := some 122) (v := ?_) (a' := ?_) #[true, true, true, true, true, true, true, true, true, true, true, true, true, false, true, false, false, false, false, false, false, false, false, false, false, false, false, false, false, false, false, false, false, false, false, false, false, false, false, false, false, false, false, false, false, false, false, false, false, false, false, false] rfl rfl (by kernel_rfl) (fun _ _ _ h => h) (Or.inl ⟨by rfl, ?_⟩) hHeld ?_ ?_
      rotate_left
      · rintro w' ⟨s0, s1, s2, s3, s4, s5, s6, s7⟩
        go_simp
        with_reducible rfl
      rotate_left
      · simp only [Act.put, List.setIfInBounds_toArray, List.set_cons_zero, List.set_cons_succ, i64_w, i32_w]
        rfl
      refine take_ (i := 13) (N := some 123) (v := ?_) (a' := ?_) #[true, true, true, true, true, true, true, true, true, true, true, true, true, true, true, false, false, false, false, false, false, false, false, false, false, false, false, false, false, false, false, false, false, false, false, false, false, false, false, false, false, false, false, false, false, false, false, false, false, false, false, false] rfl rfl (by kernel_rfl) (fun _ _ _ h => h) (Or.inl ⟨by rfl, ?_⟩) hHeld ?_ ?_
      rotate_left
      · rintro w' ⟨s0, s1, s2, s3, s4, s5, s6, s7⟩
        go_simp
        with_reducible rfl
      rotate_left
      · simp only [Act.put, List.setIfInBounds_toArray, List.set_cons_zero, List.set_cons_succ, i64_w, i32_w]
        rfl
      refine take_ (i := 15) (N := some 125) (v := ?_) (a' := ?_) #[true, true, true, true, true, true, true, true, true, true, true, true, true, true, true, true, false, false, false, false, false, false, false, false, false, false, false, false, false, false, false, false, false, false, false, false, false, false, false, false, false, false, false, false, false, false, false, false, false, false, false, false] rfl rfl (by kernel_rfl) (fun _ _ _ h => h) (Or.inl ⟨by rfl, ?_⟩) hHeld ?_ ?_
      rotate_left
      · rintro w' ⟨s0, s1, s2, s3, s4, s5, s6, s7⟩
        go_simp
        with_reducible rfl
      rotate_left
      · simp only [Act.put, List.setIfInBounds_toArray, List.set_cons_zero, List.set_cons_succ, i64_w, i32_w]
        rfl
      refine take_ (i := 16) (N := some 126) (v := ?_) (a' := ?_) #[true, true, true, true, true, true, true, true, true, true, true, true, true, true, true, true, true, false, false, false, false, false, false, false, false, false, false, false, false, false, false, false, false, false, false, false, false, false, false, false, false, false, false, false, false, false, false, false, false, false, false, false] rfl rfl (by kernel_rfl) (fun _ _ _ h => h) (Or.inl ⟨by rfl, ?_⟩) hHeld ?_ ?_
      rotate_left
      · rintro w' ⟨s0, s1, s2, s3, s4, s5, s6, s7⟩
        go_simp
        with_reducible rfl
      rotate_left
      · simp only [Act.put, List.setIfInBounds_toArray, List.set_cons_zero, List.set_cons_succ, i64_w, i32_w]
        rfl
      refine pure_ (i := 17) (N := some 127) (v := ?_) (a' := ?_) #[true, true, true, true, true, true, true, true, true, true, true, true, true, true, true, true, true, true, false, false, false, false, false, false, false, false, false, false, false, false, false, false, false, false, false, false, false, false, false, false, false, false, false, false, false, false, false, false, false, false, false, false] rfl rfl (by kernel_rfl) (fun _ _ _ h => h) (Or.inl ⟨by rfl, ?_⟩) ?_ ?_
      rotate_left
      · intro w'
        go_simp
        with_reducible rfl
      rotate_left
      · simp only [Act.put, List.setIfInBounds_toArray, List.set_cons_zero, List.set_cons_succ, i64_w, i32_w]
        rfl
      refine pure_ (i := 18) (N := some 128) (v := ?_) (a' := ?_) #[true, true, true, true, true, true, true, true, true, true, true, true, true, true, true, true, true, true, true, false, false, false, false, false, false, false, false, false, false, false, false, false, false, false, false, false, false, false, false, false, false, false, false, false, false, false, false, false, false, false, false, false] rfl rfl (by kernel_rfl) (fun _ _ _ h => h) (Or.inl ⟨by rfl, ?_⟩) ?_ ?_
      rotate_left
      · intro w'
        go_simp
        with_reducible rfl
      rotate_left
      · simp only [Act.put, List.setIfInBounds_toArray, List.set_cons_zero, List.set_cons_succ, i64_w, i32_w]
        rfl
      refine pure_ (i := 19) (N := some 129) (v := ?_) (a' := ?_) #[true, true, true, true, true, true, true, true, true, true, true, true, true, true, true, true, true, true, true, true, false, false, false, false, false, false, false, false, false, false, false, false, false, false, false, false, false, false, false, false, false, false, false, false, false, false, false, false, false, false, false, false] rfl rfl (by kernel_rfl) (fun _ _ _ h => h) (Or.inl ⟨by rfl, ?_⟩) ?_ ?_
      rotate_left
      · intro w'
        go_simp
        with_reducible rfl
      rotate_left
      · simp only [Act.put, List.setIfInBounds_toArray, List.set_cons_zero, List.set_cons_succ, i64_w, i32_w]
        rfl
      refine pure_ (i := 20) (N := some 130) (v := ?_) (a' := ?_) #[true, true, true, true, true, true, true, true, true, true, true, true, true, true, true, true, true, true, true, true, true, false, false, false, false, false, false, false, false, false, false, false, false, false, false, false, false, false, false, false, false, false, false, false, false, false, false, false, false, false, false, false] rfl rfl (by kernel_rfl) (fun _ _ _ h => h) (Or.inl ⟨by rfl, ?_⟩) ?_ ?_
      rotate_left
      · intro w'
        go_simp
        with_reducible rfl
      rotate_left
      · simp only [Act.put, List.setIfInBounds_toArray, List.set_cons_zero, List.set_cons_succ, i64_w, i32_w]
        rfl
      refine pure_ (i := 23) (N := some 133) (v := ?_) (a' := ?_) #[true, true, true, true, true, true, true, true, true, true, true, true, true, true, true, true, true, true, true, true, true, false, false, true, false, false, false, false, false, false, false, false, false, false, false, false, false, false, false, false, false, false, false, false, false, false, false, false, false, false, false, false] rfl rfl (by kernel_rfl) (fun _ _ _ h => h) (Or.inl ⟨by rfl, ?_⟩) ?_ ?_
      rotate_left
      · intro w'
        go_simp
        with_reducible rfl
      rotate_left
      · simp only [Act.put, List.setIfInBounds_toArray, List.set_cons_zero, List.set_cons_succ, i64_w, i32_w]
        rfl
      refine take_ (i := 21) (N := some 131) (v := ?_) (a' := ?_) #[true, true, true, true, true, true, true, true, true, true, true, true, true, true, true, true, true, true, true, true, true, true, false, true, false, false, false, false, false, false, false, false, false, false, false, false, false, false, false, false, false, false, false, false, false, false, false, false, false, false, false, false] rfl rfl (by kernel_rfl) (fun _ _ _ h => h) (Or.inl ⟨by rfl, ?_⟩) hHeld ?_ ?_
      rotate_left
      · rintro w' ⟨s0, s1, s2, s3, s4, s5, s6, s7⟩
        go_simp
        with_reducible rfl
      rotate_left
      · simp only [Act.put, List.setIfInBounds_toArray, List.set_cons_zero, List.set_cons_succ, i64_w, i32_w]
        rfl
      refine take_ (i := 24) (N := some 134) (v := ?_) (a' := ?_) #[true, true, true, true, true, true, true, true, true, true, true, true, true, true, true, true, true, true, true, true, true, true, false, true, true, false, false, false, false, false, false, false, false, false, false, false, false, false, false, false, false, false, false, false, false, false, false, false, false, false, false, false] rfl rfl (by kernel_rfl) (fun _ _ _ h => h) (Or.inl ⟨by rfl, ?_⟩) hHeld ?_ ?_
      rotate_left
      · rintro w' ⟨s0, s1, s2, s3, s4, s5, s6, s7⟩
        go_simp
        with_reducible rfl
      rotate_left
      · simp only [Act.put, List.setIfInBounds_toArray, List.set_cons_zero, List.set_cons_succ, i64_w, i32_w]
        rfl
      refine one_ (i := 22) (N := some 132) #[true, true, true, true, true, true, true, true, true, true, true, true, true, true, true, true, true, true, true, true, true, true, true, true, true, false, false, false, false, false, false, false, false, false, false, false, false, false, false, false, false, false, false, false, false, false, false, false, false, false, false, false] rfl rfl (by kernel_rfl) (by decide) (fun K hK => ?_)
      refine goes_ Try.func21 (by kernel_rfl) rfl #[.slice B0 r1.length e0] (by rfl) rfl rfl (by (try simp only [List.map_toArray, List.map_cons, List.map_nil]); first | done | rfl) ?_
      with_reducible refine (proof_Mix.calls m1 B0 e0 r1 (mixS r1) _ CX_62.out HHX.out HM1x.out).mono ?_
      rintro e w9 ⟨rfl, nd, hq⟩
      refine ⟨_, rfl, ?_⟩
      have hb := pw_below_drewN (Below.refl w8.heap.size w8) nd
      rw [← hq] at hb
      clear hq
      have HR2_0_64 := lhid (Kd.C_below HR2_0_52.out hb)
      have HR2_1_65 := lhid (Kd.C_below HR2_1_53.out hb)
      have HR3_0_66 := lhid (Kd.C_below HR3_0_54.out hb)
      have HR3_1_67 := lhid (Kd.C_below HR3_1_55.out hb)
      have HB_68 := lhid (below_then HB_56.out HB_56.out.size hb)
      have HN1_69 := lhid (blk_below HN1_57.out hb)
      have HN2_70 := lhid (blk_below HN2_58.out hb)
      have RX_71 := lhid (Kd.R_below RX_59.out hb)
      have RY_72 := lhid (Kd.R_below RY_60.out hb)
      have HN3_73 := lhid (blk_below HN3_61.out hb)
      have CX_74 := lhid (Kd.C_below CX_62.out hb)
      have CY_75 := lhid (Kd.C_below CY_63.out hb)
      clear HR2_0_52 HR2_1_53 HR3_0_54 HR3_1_55 HB_56 HN1_57 HN2_58 RX_59 RY_60 HN3_61 CX_62 CY_63 hb
      refine hK.out _ _ ⟨((blk_cell HN1_69.out 0).trans rfl), ((blk_cell HN1_69.out 1).trans rfl), ((blk_cell HN2_70.out 0).trans rfl), ((blk_cell HN2_70.out 1).trans rfl), ((blk_cell HN3_73.out 0).trans rfl), ((blk_cell HN3_73.out 1).trans rfl), own_string (P := Try.prog) Try.underlying22 Try.underlying5 Try.underlying9 (Kd.own_of_R RX_71.out), own_string (P := Try.prog) Try.underlying22 Try.underlying5 Try.underlying9 (Kd.own_of_R RY_72.out)⟩ (fun hHeld => ?_)
      clear hK K
      refine norm_ (a' := ?_) ?_ ?_
      rotate_left
      · show Act.put _ (some 132) _ = _
        simp only [Act.put, List.setIfInBounds_toArray, List.set_cons_zero, List.set_cons_succ, i64_w, i32_w]
        rfl
      refine one_ (i := 25) (N := some 135) #[true, true, true, true, true, true, true, true, true, true, true, true, true, true, true, true, true, true, true, true, true, true, true, true, true, true, false, false, false, false, false, false, false, false, false, false, false, false, false, false, false, false, false, false, false, false, false, false, false, false, false, false] rfl rfl (by kernel_rfl) (by decide) (fun K hK => ?_)
      refine goes_ Try.func21 (by kernel_rfl) rfl #[.slice B1 r2.length e1] (by rfl) rfl rfl (by (try simp only [List.map_toArray, List.map_cons, List.map_nil]); first | done | rfl) ?_
      with_reducible refine (proof_Mix.calls m2 B1 e1 r2 (mixS r2) _ CY_75.out HHY.out HM2x.out).mono ?_
      rintro e w10 ⟨rfl, nd, hq⟩
      refine ⟨_, rfl, ?_⟩
      have hb := pw_below_drewN (Below.refl w9.heap.size w9) nd
      rw [← hq] at hb
      clear hq
      have HR2_0_76 := lhid (Kd.C_below HR2_0_64.out hb)
      have HR2_1_77 := lhid (Kd.C_below HR2_1_65.out hb)
      have HR3_0_78 := lhid (Kd.C_below HR3_0_66.out hb)
      have HR3_1_79 := lhid (Kd.C_below HR3_1_67.out hb)
      have HB_80 := lhid (below_then HB_68.out HB_68.out.size hb)
      have HN1_81 := lhid (blk_below HN1_69.out hb)
      have HN2_82 := lhid (blk_below HN2_70.out hb)
      have RX_83 := lhid (Kd.R_below RX_71.out hb)
      have RY_84 := lhid (Kd.R_below RY_72.out hb)
      have HN3_85 := lhid (blk_below HN3_73.out hb)
      have CX_86 := lhid (Kd.C_below CX_74.out hb)
      have CY_87 := lhid (Kd.C_below CY_75.out hb)
      clear HR2_0_64 HR2_1_65 HR3_0_66 HR3_1_67 HB_68 HN1_69 HN2_70 RX_71 RY_72 HN3_73 CX_74 CY_75 hb
      refine hK.out _ _ ⟨((blk_cell HN1_81.out 0).trans rfl), ((blk_cell HN1_81.out 1).trans rfl), ((blk_cell HN2_82.out 0).trans rfl), ((blk_cell HN2_82.out 1).trans rfl), ((blk_cell HN3_85.out 0).trans rfl), ((blk_cell HN3_85.out 1).trans rfl), own_string (P := Try.prog) Try.underlying22 Try.underlying5 Try.underlying9 (Kd.own_of_R RX_83.out), own_string (P := Try.prog) Try.underlying22 Try.underlying5 Try.underlying9 (Kd.own_of_R RY_84.out)⟩ (fun hHeld => ?_)
      clear hK K
      refine norm_ (a' := ?_) ?_ ?_
      rotate_left
      · show Act.put _ (some 135) _ = _
        simp only [Act.put, List.setIfInBounds_toArray, List.set_cons_zero, List.set_cons_succ, i64_w, i32_w]
        rfl
      refine pure_ (i := 26) (N := some 136) (v := ?_) (a' := ?_) #[true, true, true, true, true, true, true, true, true, true, true, true, true, true, true, true, true, true, true, true, true, true, true, true, true, true, true, false, false, false, false, false, false, false, false, false, false, false, false, false, false, false, false, false, false, false, false, false, false, false, false, false] rfl rfl (by kernel_rfl) (fun _ _ _ h => h) (Or.inl ⟨by rfl, ?_⟩) ?_ ?_
      rotate_left
      · intro w'
        go_simp
        with_reducible rfl
      rotate_left
      · simp only [Act.put, List.setIfInBounds_toArray, List.set_cons_zero, List.set_cons_succ, i64_w, i32_w]
        rfl
      refine pure_ (i := 27) (N := some 137) (v := ?_) (a' := ?_) #[true, true, true, true, true, true, true, true, true, true, true, true, true, true, true, true, true, true, true, true, true, true, true, true, true, true, true, true, false, false, false, false, false, false, false, false, false, false, false, false, false, false, false, false, false, false, false, false, false, false, false, false] rfl rfl (by kernel_rfl) (fun _ _ _ h => h) (Or.inl ⟨by rfl, ?_⟩) ?_ ?_
      rotate_left
      · intro w'
        go_simp
        with_reducible rfl
      rotate_left
      · simp only [Act.put, List.setIfInBounds_toArray, List.set_cons_zero, List.set_cons_succ, i64_w, i32_w]
        rfl
      refine pure_ (i := 28) (N := some 138) (v := ?_) (a' := ?_) #[true, true, true, true, true, true, true, true, true, true, true, true, true, true, true, true, true, true, true, true, true, true, true, true, true, true, true, true, true, false, false, false, false, false, false, false, false, false, false, false, false, false, false, false, false, false, false, false, false, false, false, false] rfl rfl (by kernel_rfl) (fun _ _ _ h => h) (Or.inl ⟨by rfl, ?_⟩) ?_ ?_
      rotate_left
      · intro w'
        go_simp
        with_reducible rfl
      rotate_left
      · simp only [Act.put, List.setIfInBounds_toArray, List.set_cons_zero, List.set_cons_succ, i64_w, i32_w]
        rfl
      refine pure_ (i := 29) (N := some 139) (v := ?_) (a' := ?_) #[true, true, true, true, true, true, true, true, true, true, true, true, true, true, true, true, true, true, true, true, true, true, true, true, true, true, true, true, true, true, false, false, false, false, false, false, false, false, false, false, false, false, false, false, false, false, false, false, false, false, false, false] rfl rfl (by kernel_rfl) (fun _ _ _ h => h) (Or.inl ⟨by rfl, ?_⟩) ?_ ?_
      rotate_left
      · intro w'
        go_simp
        with_reducible rfl
      rotate_left
      · simp only [Act.put, List.setIfInBounds_toArray, List.set_cons_zero, List.set_cons_succ, i64_w, i32_w]
        rfl
      refine pure_ (i := 31) (N := some 141) (v := ?_) (a' := ?_) #[true, true, true, true, true, true, true, true, true, true, true, true, true, true, true, true, true, true, true, true, true, true, true, true, true, true, true, true, true, true, false, true, false, false, false, false, false, false, false, false, false, false, false, false, false, false, false, false, false, false, false, false] rfl rfl (by kernel_rfl) (fun _ _ _ h => h) (Or.inl ⟨by rfl, ?_⟩) ?_ ?_
      rotate_left
      · intro w'
        go_simp
        with_reducible rfl
      rotate_left
      · simp only [Act.put, List.setIfInBounds_toArray, List.set_cons_zero, List.set_cons_succ, i64_w, i32_w]
        rfl
      refine pure_ (i := 34) (N := some 144) (v := ?_) (a' := ?_) #[true, true, true, true, true, true, true, true, true, true, true, true, true, true, true, true, true, true, true, true, true, true, true, true, true, true, true, true, true, true, false, true, false, false, true, false, false, false, false, false, false, false, false, false, false, false, false, false, false, false, false, false] rfl rfl (by kernel_rfl) (fun _ _ _ h => h) (Or.inl ⟨by rfl, ?_⟩) ?_ ?_
      rotate_left
      · intro w'
        go_simp
        with_reducible rfl
      rotate_left
      · simp only [Act.put, List.setIfInBounds_toArray, List.set_cons_zero, List.set_cons_succ, i64_w, i32_w]
        rfl
      refine take_ (i := 30) (N := some 140) (v := ?_) (a' := ?_) #[true, true, true, true, true, true, true, true, true, true, true, true, true, true, true, true, true, true, true, true, true, true, true, true, true, true, true, true, true, true, true, true, false, false, true, false, false, false, false, false, false, false, false, false, false, false, false, false, false, false, false, false] rfl rfl (by kernel_rfl) (fun _ _ _ h => h) (Or.inl ⟨by rfl, ?_⟩) hHeld ?_ ?_
      rotate_left
      · rintro w' ⟨s0, s1, s2, s3, s4, s5, s6, s7⟩
        go_simp
        with_reducible rfl
      rotate_left
      · simp only [Act.put, List.setIfInBounds_toArray, List.set_cons_zero, List.set_cons_succ, i64_w, i32_w]
        rfl
      refine take_ (i := 32) (N := some 142) (v := ?_) (a' := ?_) #[true, true, true, true, true, true, true, true, true, true, true, true, true, true, true, true, true, true, true, true, true, true, true, true, true, true, true, true, true, true, true, true, true, false, true, false, false, false, false, false, false, false, false, false, false, false, false, false, false, false, false, false] rfl rfl (by kernel_rfl) (fun _ _ _ h => h) (Or.inl ⟨by rfl, ?_⟩) hHeld ?_ ?_
      rotate_left
      · rintro w' ⟨s0, s1, s2, s3, s4, s5, s6, s7⟩
        go_simp
        with_reducible rfl
      rotate_left
      · simp only [Act.put, List.setIfInBounds_toArray, List.set_cons_zero, List.set_cons_succ, i64_w, i32_w]
        rfl
      refine take_ (i := 35) (N := some 145) (v := ?_) (a' := ?_) #[true, true, true, true, true, true, true, true, true, true, true, true, true, true, true, true, true, true, true, true, true, true, true, true, true, true, true, true, true, true, true, true, true, false, true, true, false, false, false, false, false, false, false, false, false, false, false, false, false, false, false, false] rfl rfl (by kernel_rfl) (fun _ _ _ h => h) (Or.inl ⟨by rfl, ?_⟩) hHeld ?_ ?_
      rotate_left
      · rintro w' ⟨s0, s1, s2, s3, s4, s5, s6, s7⟩
        go_simp
        with_reducible rfl
      rotate_left
      · simp only [Act.put, List.setIfInBounds_toArray, List.set_cons_zero, List.set_cons_succ, i64_w, i32_w]
        rfl
      refine one_ (i := 33) (N := some 143) #[true, true, true, true, true, true, true, true, true, true, true, true, true, true, true, true, true, true, true, true, true, true, true, true, true, true, true, true, true, true, true, true, true, true, true, true, false, false, false, false, false, false, false, false, false, false, false, false, false, false, false, false] rfl rfl (by kernel_rfl) (by decide) (fun K hK => ?_)
      refine goes_ Try.func23 (by kernel_rfl) rfl #[.slice A2_0 l2_0.length c2_0, .slice A2_1 l2_1.length c2_1] (by rfl) rfl rfl (by (try simp only [List.map_toArray, List.map_cons, List.map_nil]); first | done | rfl) ?_
      with_reducible refine (kimberliteref07_Levels.calls v1 A2_0 c2_0 l2_0 A2_1 c2_1 l2_1 (lv (0 :: l2_0) l2_1) _ HR2_0_76.out HC2_0.out HR2_1_77.out HC2_1.out HV1x.out).mono ?_
      rintro e w11 ⟨vL, rfl, hN, hb⟩
      refine ⟨_, rfl, ?_⟩
      have HR2_0_88 := lhid (Kd.C_below HR2_0_76.out hb)
      have HR2_1_89 := lhid (Kd.C_below HR2_1_77.out hb)
      have HR3_0_90 := lhid (Kd.C_below HR3_0_78.out hb)
      have HR3_1_91 := lhid (Kd.C_below HR3_1_79.out hb)
      have HB_92 := lhid (below_then HB_80.out HB_80.out.size hb)
      have HN1_93 := lhid (blk_below HN1_81.out hb)
      have HN2_94 := lhid (blk_below HN2_82.out hb)
      have RX_95 := lhid (Kd.R_below RX_83.out hb)
      have RY_96 := lhid (Kd.R_below RY_84.out hb)
      have HN3_97 := lhid (blk_below HN3_85.out hb)
      have CX_98 := lhid (Kd.C_below CX_86.out hb)
      have CY_99 := lhid (Kd.C_below CY_87.out hb)
      clear HR2_0_76 HR2_1_77 HR3_0_78 HR3_1_79 HB_80 HN1_81 HN2_82 RX_83 RY_84 HN3_85 CX_86 CY_87 hb
      obtain ⟨AL1, cL1, rfl⟩ := Kd.N_slice hN
      obtain ⟨_, hcl, hCL⟩ := Kd.N_reads' hN
      have CL1 := lhid hCL
      have HHL1 := lhid hcl
      clear hCL hcl hN
      refine hK.out _ _ ⟨((blk_cell HN1_93.out 0).trans rfl), ((blk_cell HN1_93.out 1).trans rfl), ((blk_cell HN2_94.out 0).trans rfl), ((blk_cell HN2_94.out 1).trans rfl), ((blk_cell HN3_97.out 0).trans rfl), ((blk_cell HN3_97.out 1).trans rfl), own_string (P := Try.prog) Try.underlying22 Try.underlying5 Try.underlying9 (Kd.own_of_R RX_95.out), own_string (P := Try.prog) Try.underlying22 Try.underlying5 Try.underlying9 (Kd.own_of_R RY_96.out)⟩ (fun hHeld => ?_)
      clear hK K
      refine norm_ (a' := ?_) ?_ ?_
      rotate_left
      · show Act.put _ (some 143) _ = _
        simp only [Act.put, List.setIfInBounds_toArray, List.set_cons_zero, List.set_cons_succ, i64_w, i32_w]
        rfl
      refine one_ (i := 36) (N := some 146) #[true, true, true, true, true, true, true, true, true, true, true, true, true, true, true, true, true, true, true, true, true, true, true, true, true, true, true, true, true, true, true, true, true, true, true, true, true, false, false, false, false, false, false, false, false, false, false, false, false, false, false, false] rfl rfl (by kernel_rfl) (by decide) (fun K hK => ?_)
      refine goes_ Try.func22 (by kernel_rfl) rfl #[.slice AL1 (lv (0 :: l2_0) l2_1).length cL1, .slice B0 r1.length e0] (by rfl) rfl rfl (by (try simp only [List.map_toArray, List.map_cons, List.map_nil]); first | done | rfl) ?_
      with_reducible refine (kimberlitelaw07_among.calls n1 AL1 cL1 (lv (0 :: l2_0) l2_1) B0 e0 r1 true _ CL1.out HHL1.out CX_98.out HHX.out HN1x.out).mono ?_
      rintro e w12 ⟨rfl, nd, hq⟩
      refine ⟨_, rfl, ?_⟩
      have hb := pw_below_drewN (Below.refl w11.heap.size w11) nd
      rw [← hq] at hb
      clear hq
      have HR2_0_100 := lhid (Kd.C_below HR2_0_88.out hb)
      have HR2_1_101 := lhid (Kd.C_below HR2_1_89.out hb)
      have HR3_0_102 := lhid (Kd.C_below HR3_0_90.out hb)
      have HR3_1_103 := lhid (Kd.C_below HR3_1_91.out hb)
      have HB_104 := lhid (below_then HB_92.out HB_92.out.size hb)
      have HN1_105 := lhid (blk_below HN1_93.out hb)
      have HN2_106 := lhid (blk_below HN2_94.out hb)
      have RX_107 := lhid (Kd.R_below RX_95.out hb)
      have RY_108 := lhid (Kd.R_below RY_96.out hb)
      have HN3_109 := lhid (blk_below HN3_97.out hb)
      have CX_110 := lhid (Kd.C_below CX_98.out hb)
      have CY_111 := lhid (Kd.C_below CY_99.out hb)
      have CL1_112 := lhid (Kd.C_below CL1.out hb)
      clear HR2_0_88 HR2_1_89 HR3_0_90 HR3_1_91 HB_92 HN1_93 HN2_94 RX_95 RY_96 HN3_97 CX_98 CY_99 CL1 hb
      refine hK.out _ _ ⟨((blk_cell HN1_105.out 0).trans rfl), ((blk_cell HN1_105.out 1).trans rfl), ((blk_cell HN2_106.out 0).trans rfl), ((blk_cell HN2_106.out 1).trans rfl), ((blk_cell HN3_109.out 0).trans rfl), ((blk_cell HN3_109.out 1).trans rfl), own_string (P := Try.prog) Try.underlying22 Try.underlying5 Try.underlying9 (Kd.own_of_R RX_107.out), own_string (P := Try.prog) Try.underlying22 Try.underlying5 Try.underlying9 (Kd.own_of_R RY_108.out)⟩ (fun hHeld => ?_)
      clear hK K
      refine norm_ (a' := ?_) ?_ ?_
      rotate_left
      · show Act.put _ (some 146) _ = _
        simp only [Act.put, List.setIfInBounds_toArray, List.set_cons_zero, List.set_cons_succ, i64_w, i32_w]
        rfl
      refine pure_ (i := 37) (N := some 147) (v := ?_) (a' := ?_) #[true, true, true, true, true, true, true, true, true, true, true, true, true, true, true, true, true, true, true, true, true, true, true, true, true, true, true, true, true, true, true, true, true, true, true, true, true, true, false, false, false, false, false, false, false, false, false, false, false, false, false, false] rfl rfl (by kernel_rfl) (fun _ _ _ h => h) (Or.inl ⟨by rfl, ?_⟩) ?_ ?_
      rotate_left
      · intro w'
        go_simp
        with_reducible rfl
      rotate_left
      · simp only [Act.put, List.setIfInBounds_toArray, List.set_cons_zero, List.set_cons_succ, i64_w, i32_w]
        rfl
      refine pure_ (i := 38) (N := some 148) (v := ?_) (a' := ?_) #[true, true, true, true, true, true, true, true, true, true, true, true, true, true, true, true, true, true, true, true, true, true, true, true, true, true, true, true, true, true, true, true, true, true, true, true, true, true, true, false, false, false, false, false, false, false, false, false, false, false, false, false] rfl rfl (by kernel_rfl) (fun _ _ _ h => h) (Or.inl ⟨by rfl, ?_⟩) ?_ ?_
      rotate_left
      · intro w'
        go_simp
        with_reducible rfl
      rotate_left
      · simp only [Act.put, List.setIfInBounds_toArray, List.set_cons_zero, List.set_cons_succ, i64_w, i32_w]
        rfl
      refine pure_ (i := 39) (N := some 149) (v := ?_) (a' := ?_) #[true, true, true, true, true, true, true, true, true, true, true, true, true, true, true, true, true, true, true, true, true, true, true, true, true, true, true, true, true, true, true, true, true, true, true, true, true, true, true, true, false, false, false, false, false, false, false, false, false, false, false, false] rfl rfl (by kernel_rfl) (fun _ _ _ h => h) (Or.inl ⟨by rfl, ?_⟩) ?_ ?_
      rotate_left
      · intro w'
        go_simp
        with_reducible rfl
      rotate_left
      · simp only [Act.put, List.setIfInBounds_toArray, List.set_cons_zero, List.set_cons_succ, i64_w, i32_w]
        rfl
      refine pure_ (i := 41) (N := some 151) (v := ?_) (a' := ?_) #[true, true, true, true, true, true, true, true, true, true, true, true, true, true, true, true, true, true, true, true, true, true, true, true, true, true, true, true, true, true, true, true, true, true, true, true, true, true, true, true, false, true, false, false, false, false, false, false, false, false, false, false] rfl rfl (by kernel_rfl) (fun _ _ _ h => h) (Or.inl ⟨by rfl, ?_⟩) ?_ ?_
      rotate_left
      · intro w'
        go_simp
        with_reducible rfl
      rotate_left
      · simp only [Act.put, List.setIfInBounds_toArray, List.set_cons_zero, List.set_cons_succ, i64_w, i32_w]
        rfl
      refine pure_ (i := 44) (N := some 154) (v := ?_) (a' := ?_) #[true, true, true, true, true, true, true, true, true, true, true, true, true, true, true, true, true, true, true, true, true, true, true, true, true, true, true, true, true, true, true, true, true, true, true, true, true, true, true, true, false, true, false, false, true, false, false, false, false, false, false, false] rfl rfl (by kernel_rfl) (fun _ _ _ h => h) (Or.inl ⟨by rfl, ?_⟩) ?_ ?_
      rotate_left
      · intro w'
        go_simp
        with_reducible rfl
      rotate_left
      · simp only [Act.put, List.setIfInBounds_toArray, List.set_cons_zero, List.set_cons_succ, i64_w, i32_w]
        rfl
      refine take_ (i := 40) (N := some 150) (v := ?_) (a' := ?_) #[true, true, true, true, true, true, true, true, true, true, true, true, true, true, true, true, true, true, true, true, true, true, true, true, true, true, true, true, true, true, true, true, true, true, true, true, true, true, true, true, true, true, false, false, true, false, false, false, false, false, false, false] rfl rfl (by kernel_rfl) (fun _ _ _ h => h) (Or.inl ⟨by rfl, ?_⟩) hHeld ?_ ?_
      rotate_left
      · rintro w' ⟨s0, s1, s2, s3, s4, s5, s6, s7⟩
        go_simp
        with_reducible rfl
      rotate_left
      · simp only [Act.put, List.setIfInBounds_toArray, List.set_cons_zero, List.set_cons_succ, i64_w, i32_w]
        rfl
      refine take_ (i := 42) (N := some 152) (v := ?_) (a' := ?_) #[true, true, true, true, true, true, true, true, true, true, true, true, true, true, true, true, true, true, true, true, true, true, true, true, true, true, true, true, true, true, true, true, true, true, true, true, true, true, true, true, true, true, true, false, true, false, false, false, false, false, false, false] rfl rfl (by kernel_rfl) (fun _ _ _ h => h) (Or.inl ⟨by rfl, ?_⟩) hHeld ?_ ?_
      rotate_left
      · rintro w' ⟨s0, s1, s2, s3, s4, s5, s6, s7⟩
        go_simp
        with_reducible rfl
      rotate_left
      · simp only [Act.put, List.setIfInBounds_toArray, List.set_cons_zero, List.set_cons_succ, i64_w, i32_w]
        rfl
      refine take_ (i := 45) (N := some 155) (v := ?_) (a' := ?_) #[true, true, true, true, true, true, true, true, true, true, true, true, true, true, true, true, true, true, true, true, true, true, true, true, true, true, true, true, true, true, true, true, true, true, true, true, true, true, true, true, true, true, true, false, true, true, false, false, false, false, false, false] rfl rfl (by kernel_rfl) (fun _ _ _ h => h) (Or.inl ⟨by rfl, ?_⟩) hHeld ?_ ?_
      rotate_left
      · rintro w' ⟨s0, s1, s2, s3, s4, s5, s6, s7⟩
        go_simp
        with_reducible rfl
      rotate_left
      · simp only [Act.put, List.setIfInBounds_toArray, List.set_cons_zero, List.set_cons_succ, i64_w, i32_w]
        rfl
      refine one_ (i := 43) (N := some 153) #[true, true, true, true, true, true, true, true, true, true, true, true, true, true, true, true, true, true, true, true, true, true, true, true, true, true, true, true, true, true, true, true, true, true, true, true, true, true, true, true, true, true, true, true, true, true, false, false, false, false, false, false] rfl rfl (by kernel_rfl) (by decide) (fun K hK => ?_)
      refine goes_ Try.func23 (by kernel_rfl) rfl #[.slice A3_0 l3_0.length c3_0, .slice A3_1 l3_1.length c3_1] (by rfl) rfl rfl (by (try simp only [List.map_toArray, List.map_cons, List.map_nil]); first | done | rfl) ?_
      with_reducible refine (kimberliteref07_Levels.calls v2 A3_0 c3_0 l3_0 A3_1 c3_1 l3_1 (lv (0 :: l3_0) l3_1) _ HR3_0_102.out HC3_0.out HR3_1_103.out HC3_1.out HV2x.out).mono ?_
      rintro e w13 ⟨vL, rfl, hN, hb⟩
      refine ⟨_, rfl, ?_⟩
      have HR2_0_113 := lhid (Kd.C_below HR2_0_100.out hb)
      have HR2_1_114 := lhid (Kd.C_below HR2_1_101.out hb)
      have HR3_0_115 := lhid (Kd.C_below HR3_0_102.out hb)
      have HR3_1_116 := lhid (Kd.C_below HR3_1_103.out hb)
      have HB_117 := lhid (below_then HB_104.out HB_104.out.size hb)
      have HN1_118 := lhid (blk_below HN1_105.out hb)
      have HN2_119 := lhid (blk_below HN2_106.out hb)
      have RX_120 := lhid (Kd.R_below RX_107.out hb)
      have RY_121 := lhid (Kd.R_below RY_108.out hb)
      have HN3_122 := lhid (blk_below HN3_109.out hb)
      have CX_123 := lhid (Kd.C_below CX_110.out hb)
      have CY_124 := lhid (Kd.C_below CY_111.out hb)
      have CL1_125 := lhid (Kd.C_below CL1_112.out hb)
      clear HR2_0_100 HR2_1_101 HR3_0_102 HR3_1_103 HB_104 HN1_105 HN2_106 RX_107 RY_108 HN3_109 CX_110 CY_111 CL1_112 hb
      obtain ⟨AL2, cL2, rfl⟩ := Kd.N_slice hN
      obtain ⟨_, hcl, hCL⟩ := Kd.N_reads' hN
      have CL2 := lhid hCL
      have HHL2 := lhid hcl
      clear hCL hcl hN
      refine hK.out _ _ ⟨((blk_cell HN1_118.out 0).trans rfl), ((blk_cell HN1_118.out 1).trans rfl), ((blk_cell HN2_119.out 0).trans rfl), ((blk_cell HN2_119.out 1).trans rfl), ((blk_cell HN3_122.out 0).trans rfl), ((blk_cell HN3_122.out 1).trans rfl), own_string (P := Try.prog) Try.underlying22 Try.underlying5 Try.underlying9 (Kd.own_of_R RX_120.out), own_string (P := Try.prog) Try.underlying22 Try.underlying5 Try.underlying9 (Kd.own_of_R RY_121.out)⟩ (fun hHeld => ?_)
      clear hK K
      refine norm_ (a' := ?_) ?_ ?_
      rotate_left
      · show Act.put _ (some 153) _ = _
        simp only [Act.put, List.setIfInBounds_toArray, List.set_cons_zero, List.set_cons_succ, i64_w, i32_w]
        rfl
      refine one_ (i := 46) (N := some 156) #[true, true, true, true, true, true, true, true, true, true, true, true, true, true, true, true, true, true, true, true, true, true, true, true, true, true, true, true, true, true, true, true, true, true, true, true, true, true, true, true, true, true, true, true, true, true, true, false, false, false, false, false] rfl rfl (by kernel_rfl) (by decide) (fun K hK => ?_)
      refine goes_ Try.func22 (by kernel_rfl) rfl #[.slice AL2 (lv (0 :: l3_0) l3_1).length cL2, .slice B1 r2.length e1] (by rfl) rfl rfl (by (try simp only [List.map_toArray, List.map_cons, List.map_nil]); first | done | rfl) ?_
      with_reducible refine (kimberlitelaw07_among.calls n2 AL2 cL2 (lv (0 :: l3_0) l3_1) B1 e1 r2 true _ CL2.out HHL2.out CY_124.out HHY.out HN2x.out).mono ?_
      rintro e w14 ⟨rfl, nd, hq⟩
      refine ⟨_, rfl, ?_⟩
      have hb := pw_below_drewN (Below.refl w13.heap.size w13) nd
      rw [← hq] at hb
      clear hq
      have HR2_0_126 := lhid (Kd.C_below HR2_0_113.out hb)
      have HR2_1_127 := lhid (Kd.C_below HR2_1_114.out hb)
      have HR3_0_128 := lhid (Kd.C_below HR3_0_115.out hb)
      have HR3_1_129 := lhid (Kd.C_below HR3_1_116.out hb)
      have HB_130 := lhid (below_then HB_117.out HB_117.out.size hb)
      have HN1_131 := lhid (blk_below HN1_118.out hb)
      have HN2_132 := lhid (blk_below HN2_119.out hb)
      have RX_133 := lhid (Kd.R_below RX_120.out hb)
      have RY_134 := lhid (Kd.R_below RY_121.out hb)
      have HN3_135 := lhid (blk_below HN3_122.out hb)
      have CX_136 := lhid (Kd.C_below CX_123.out hb)
      have CY_137 := lhid (Kd.C_below CY_124.out hb)
      have CL1_138 := lhid (Kd.C_below CL1_125.out hb)
      have CL2_139 := lhid (Kd.C_below CL2.out hb)
      clear HR2_0_113 HR2_1_114 HR3_0_115 HR3_1_116 HB_117 HN1_118 HN2_119 RX_120 RY_121 HN3_122 CX_123 CY_124 CL1_125 CL2 hb
      refine hK.out _ _ ⟨((blk_cell HN1_131.out 0).trans rfl), ((blk_cell HN1_131.out 1).trans rfl), ((blk_cell HN2_132.out 0).trans rfl), ((blk_cell HN2_132.out 1).trans rfl), ((blk_cell HN3_135.out 0).trans rfl), ((blk_cell HN3_135.out 1).trans rfl), own_string (P := Try.prog) Try.underlying22 Try.underlying5 Try.underlying9 (Kd.own_of_R RX_133.out), own_string (P := Try.prog) Try.underlying22 Try.underlying5 Try.underlying9 (Kd.own_of_R RY_134.out)⟩ (fun hHeld => ?_)
      clear hK K
      refine norm_ (a' := ?_) ?_ ?_
      rotate_left
      · show Act.put _ (some 156) _ = _
        simp only [Act.put, List.setIfInBounds_toArray, List.set_cons_zero, List.set_cons_succ, i64_w, i32_w]
        rfl
      refine pure_ (i := 47) (N := some 157) (v := ?_) (a' := ?_) #[true, true, true, true, true, true, true, true, true, true, true, true, true, true, true, true, true, true, true, true, true, true, true, true, true, true, true, true, true, true, true, true, true, true, true, true, true, true, true, true, true, true, true, true, true, true, true, true, false, false, false, false] rfl rfl (by kernel_rfl) (fun _ _ _ h => h) (Or.inl ⟨by rfl, ?_⟩) ?_ ?_
      rotate_left
      · intro w'
        go_simp
        with_reducible rfl
      rotate_left
      · simp only [Act.put, List.setIfInBounds_toArray, List.set_cons_zero, List.set_cons_succ, i64_w, i32_w]
        rfl
      refine pure_ (i := 48) (N := some 158) (v := ?_) (a' := ?_) #[true, true, true, true, true, true, true, true, true, true, true, true, true, true, true, true, true, true, true, true, true, true, true, true, true, true, true, true, true, true, true, true, true, true, true, true, true, true, true, true, true, true, true, true, true, true, true, true, true, false, false, false] rfl rfl (by kernel_rfl) (fun _ _ _ h => h) (Or.inl ⟨by rfl, ?_⟩) ?_ ?_
      rotate_left
      · intro w'
        go_simp
        with_reducible rfl
      rotate_left
      · simp only [Act.put, List.setIfInBounds_toArray, List.set_cons_zero, List.set_cons_succ, i64_w, i32_w]
        rfl
      refine one_ (i := 49) (N := some 159) #[true, true, true, true, true, true, true, true, true, true, true, true, true, true, true, true, true, true, true, true, true, true, true, true, true, true, true, true, true, true, true, true, true, true, true, true, true, true, true, true, true, true, true, true, true, true, true, true, true, true, false, false] rfl rfl (by kernel_rfl) (by decide) (fun K hK => ?_)
      refine goes_ Try.func16 (by kernel_rfl) rfl #[] (by rfl) rfl rfl (by (try simp only [List.map_toArray, List.map_cons, List.map_nil]); first | done | rfl) ?_
      with_reducible refine (kimberlitelaw07_alive.calls 0 true _ rfl).mono ?_
      rintro e w15 ⟨rfl, hb⟩
      refine ⟨_, rfl, ?_⟩
      have HR2_0_140 := lhid (Kd.C_below HR2_0_126.out hb)
      have HR2_1_141 := lhid (Kd.C_below HR2_1_127.out hb)
      have HR3_0_142 := lhid (Kd.C_below HR3_0_128.out hb)
      have HR3_1_143 := lhid (Kd.C_below HR3_1_129.out hb)
      have HB_144 := lhid (below_then HB_130.out HB_130.out.size hb)
      have HN1_145 := lhid (blk_below HN1_131.out hb)
      have HN2_146 := lhid (blk_below HN2_132.out hb)
      have RX_147 := lhid (Kd.R_below RX_133.out hb)
      have RY_148 := lhid (Kd.R_below RY_134.out hb)
      have HN3_149 := lhid (blk_below HN3_135.out hb)
      have CX_150 := lhid (Kd.C_below CX_136.out hb)
      have CY_151 := lhid (Kd.C_below CY_137.out hb)
      have CL1_152 := lhid (Kd.C_below CL1_138.out hb)
      have CL2_153 := lhid (Kd.C_below CL2_139.out hb)
      clear HR2_0_126 HR2_1_127 HR3_0_128 HR3_1_129 HB_130 HN1_131 HN2_132 RX_133 RY_134 HN3_135 CX_136 CY_137 CL1_138 CL2_139 hb
      refine hK.out _ _ ⟨((blk_cell HN1_145.out 0).trans rfl), ((blk_cell HN1_145.out 1).trans rfl), ((blk_cell HN2_146.out 0).trans rfl), ((blk_cell HN2_146.out 1).trans rfl), ((blk_cell HN3_149.out 0).trans rfl), ((blk_cell HN3_149.out 1).trans rfl), own_string (P := Try.prog) Try.underlying22 Try.underlying5 Try.underlying9 (Kd.own_of_R RX_147.out), own_string (P := Try.prog) Try.underlying22 Try.underlying5 Try.underlying9 (Kd.own_of_R RY_148.out)⟩ (fun hHeld => ?_)
      clear hK K
      refine norm_ (a' := ?_) ?_ ?_
      rotate_left
      · show Act.put _ (some 159) _ = _
        simp only [Act.put, List.setIfInBounds_toArray, List.set_cons_zero, List.set_cons_succ, i64_w, i32_w]
        rfl
      refine pure_ (i := 50) (N := some 160) (v := ?_) (a' := ?_) #[true, true, true, true, true, true, true, true, true, true, true, true, true, true, true, true, true, true, true, true, true, true, true, true, true, true, true, true, true, true, true, true, true, true, true, true, true, true, true, true, true, true, true, true, true, true, true, true, true, true, true, false] rfl rfl (by kernel_rfl) (fun _ _ _ h => h) (Or.inl ⟨by rfl, ?_⟩) ?_ ?_
      rotate_left
      · intro w'
        go_simp
        with_reducible rfl
      rotate_left
      · simp only [Act.put, List.setIfInBounds_toArray, List.set_cons_zero, List.set_cons_succ, i64_w, i32_w]
        rfl
      refine pure_ (i := 51) (N := some 8) (v := ?_) (a' := ?_) #[true, true, true, true, true, true, true, true, true, true, true, true, true, true, true, true, true, true, true, true, true, true, true, true, true, true, true, true, true, true, true, true, true, true, true, true, true, true, true, true, true, true, true, true, true, true, true, true, true, true, true, true] rfl rfl (by kernel_rfl) (fun _ _ _ h => h) (Or.inl ⟨by rfl, ?_⟩) ?_ ?_
      rotate_left
      · intro w'
        go_simp
        with_reducible rfl
      rotate_left
      · simp only [Act.put, List.setIfInBounds_toArray, List.set_cons_zero, List.set_cons_succ, i64_w, i32_w]
        rfl
      refine done_ (by kernel_rfl) ?_
      
      go_wp2_with fail
      go_ret
      exact ⟨rfl, HB_144.out⟩
    · obtain ⟨c, ha, hc⟩ := blame_no (i := a0) (n := a1) (one := l2_0) (two := l3_0) (s1 := l2_1) (s2 := l3_1) (by omega) (by omega) (by rw [← HX.out, ← HY.out]; exact hxy)
      have hk3 := HK3.out
      rw [ha] at hk3
      clear HK3
      have HK3 := lhid hk3
      have HXY := lhid hxy
      have hcb : (c != 0) = true := bne_iff_ne.mpr hc
      clear hk3 ha hc hxy
      go_wp2_with fail
      with_reducible refine (proof_Accuse.calls k3 a0 a1 A2_0 c2_0 l2_0 A2_1 c2_1 l2_1 A3_0 c3_0 l3_0 A3_1 c3_1 l3_1 [] [] c w5 HR2_0_27.out HC2_0.out HR2_1_28.out HC2_1.out HR3_0_29.out HC3_0.out HR3_1_30.out HC3_1.out HK3.out).mono ?_
      rintro e w6 ⟨v0, v1, rfl, hX, hY, hb⟩
      have RX_154 := lhid (Kd.R_lower hX HB_31.out.size)
      clear hX
      have RY_155 := lhid (Kd.R_lower hY HB_31.out.size)
      clear hY
      have HR2_0_156 := lhid (Kd.C_below HR2_0_27.out hb)
      have HR2_1_157 := lhid (Kd.C_below HR2_1_28.out hb)
      have HR3_0_158 := lhid (Kd.C_below HR3_0_29.out hb)
      have HR3_1_159 := lhid (Kd.C_below HR3_1_30.out hb)
      have HB_160 := lhid (below_then HB_31.out HB_31.out.size hb)
      have HN1_161 := lhid (blk_below HN1_32.out hb)
      have HN2_162 := lhid (blk_below HN2_33.out hb)
      clear HR2_0_27 HR2_1_28 HR3_0_29 HR3_1_30 HB_31 HN1_32 HN2_33 hb
      clear hc10 hc11 hc20 hc21
      obtain ⟨B0, e0, rfl⟩ := Kd.R_slice RX_154.out
      obtain ⟨B1, e1, rfl⟩ := Kd.R_slice RY_155.out
      go_upto_region 7 with (fail)
      have hb := below_alloc (Below.refl w6.heap.size w6) (.cells #[.slice B0 0 e0, .slice B1 0 e1] 28)
      have hn := blk_new w6 (.cells #[.slice B0 0 e0, .slice B1 0 e1] 28)
      have HZ7 := lhid (show (World.alloc w6 (.cells #[.slice B0 0 e0, .slice B1 0 e1] 28)).heap.size = w6.heap.size + 1 from by simp)
      generalize hq : World.alloc w6 (.cells #[.slice B0 0 e0, .slice B1 0 e1] 28) = w7 at hb hn HZ7 ⊢
      clear hq
      have HR2_0_163 := lhid (Kd.C_below HR2_0_156.out hb)
      have HR2_1_164 := lhid (Kd.C_below HR2_1_157.out hb)
      have HR3_0_165 := lhid (Kd.C_below HR3_0_158.out hb)
      have HR3_1_166 := lhid (Kd.C_below HR3_1_159.out hb)
      have HB_167 := lhid (below_then HB_160.out HB_160.out.size hb)
      have HN1_168 := lhid (blk_below HN1_161.out hb)
      have HN2_169 := lhid (blk_below HN2_162.out hb)
      have RX_170 := lhid (Kd.R_below RX_154.out hb)
      have RY_171 := lhid (Kd.R_below RY_155.out hb)
      clear HR2_0_156 HR2_1_157 HR3_0_158 HR3_1_159 HB_160 HN1_161 HN2_162 RX_154 RY_155 hb
      have HN3 := lhid hn
      clear hn
      have hc10 := blk_cell HN1_168.out 0
      have hc11 := blk_cell HN1_168.out 1
      simp only [List.getElem?_toArray, List.getElem?_cons_zero, List.getElem?_cons_succ] at hc10 hc11
      have hc20 := blk_cell HN2_169.out 0
      have hc21 := blk_cell HN2_169.out 1
      simp only [List.getElem?_toArray, List.getElem?_cons_zero, List.getElem?_cons_succ] at hc20 hc21
      have hc30 := blk_cell HN3.out 0
      have hc31 := blk_cell HN3.out 1
      simp only [List.getElem?_toArray, List.getElem?_cons_zero, List.getElem?_cons_succ] at hc30 hc31
      have hs1 := Kd.C_string (P := Try.prog) (A := A2_0) (c := c2_0) Try.underlying22 Try.underlying5 Try.underlying9 HR2_0_163.out
      have hs2 := Kd.C_string (P := Try.prog) (A := A3_0) (c := c3_0) Try.underlying22 Try.underlying5 Try.underlying9 HR3_0_165.out
      by_cases hx1 : x = true
      · subst hx1
        by_cases hy1 : y = true
        · subst hy1
          have he1 : l2_0 = l3_0 := Decidable.byContradiction (fun q => HXY.out ⟨rfl, rfl, q⟩)
          have hs5 : ((strOfNums l2_0).toList == (strOfNums l3_0).toList) = true := beq_iff_eq.mpr (by rw [he1])
          clear he1 HXY
          go_wp2_with fail
          with_reducible refine (kimberlitelaw07_alive.calls 0 true _ rfl).mono ?_
          rintro e w8 ⟨rfl, hb⟩
          have HR2_0_172 := lhid (Kd.C_below HR2_0_163.out hb)
          have HR2_1_173 := lhid (Kd.C_below HR2_1_164.out hb)
          have HR3_0_174 := lhid (Kd.C_below HR3_0_165.out hb)
          have HR3_1_175 := lhid (Kd.C_below HR3_1_166.out hb)
          have HB_176 := lhid (below_then HB_167.out HB_167.out.size hb)
          have HN1_177 := lhid (blk_below HN1_168.out hb)
          have HN2_178 := lhid (blk_below HN2_169.out hb)
          have RX_179 := lhid (Kd.R_below RX_170.out hb)
          have RY_180 := lhid (Kd.R_below RY_171.out hb)
          have HN3_181 := lhid (blk_below HN3.out hb)
          clear HR2_0_163 HR2_1_164 HR3_0_165 HR3_1_166 HB_167 HN1_168 HN2_169 RX_170 RY_171 HN3 hb
          go_wp2_with fail
          go_ret
          exact ⟨rfl, HB_176.out⟩
        · have hy2 : y = false := Bool.eq_false_iff.mpr hy1
          subst hy2
          clear hy1 HXY
          go_wp2_with fail
          with_reducible refine (kimberlitelaw07_alive.calls 0 true _ rfl).mono ?_
          rintro e w8 ⟨rfl, hb⟩
          have HR2_0_182 := lhid (Kd.C_below HR2_0_163.out hb)
          have HR2_1_183 := lhid (Kd.C_below HR2_1_164.out hb)
          have HR3_0_184 := lhid (Kd.C_below HR3_0_165.out hb)
          have HR3_1_185 := lhid (Kd.C_below HR3_1_166.out hb)
          have HB_186 := lhid (below_then HB_167.out HB_167.out.size hb)
          have HN1_187 := lhid (blk_below HN1_168.out hb)
          have HN2_188 := lhid (blk_below HN2_169.out hb)
          have RX_189 := lhid (Kd.R_below RX_170.out hb)
          have RY_190 := lhid (Kd.R_below RY_171.out hb)
          have HN3_191 := lhid (blk_below HN3.out hb)
          clear HR2_0_163 HR2_1_164 HR3_0_165 HR3_1_166 HB_167 HN1_168 HN2_169 RX_170 RY_171 HN3 hb
          go_wp2_with fail
          go_ret
          exact ⟨rfl, HB_186.out⟩
      · have hx2 : x = false := Bool.eq_false_iff.mpr hx1
        subst hx2
        clear hx1 HXY
        go_wp2_with fail
        with_reducible refine (kimberlitelaw07_alive.calls 0 true _ rfl).mono ?_
        rintro e w8 ⟨rfl, hb⟩
        have HR2_0_192 := lhid (Kd.C_below HR2_0_163.out hb)
        have HR2_1_193 := lhid (Kd.C_below HR2_1_164.out hb)
        have HR3_0_194 := lhid (Kd.C_below HR3_0_165.out hb)
        have HR3_1_195 := lhid (Kd.C_below HR3_1_166.out hb)
        have HB_196 := lhid (below_then HB_167.out HB_167.out.size hb)
        have HN1_197 := lhid (blk_below HN1_168.out hb)
        have HN2_198 := lhid (blk_below HN2_169.out hb)
        have RX_199 := lhid (Kd.R_below RX_170.out hb)
        have RY_200 := lhid (Kd.R_below RY_171.out hb)
        have HN3_201 := lhid (blk_below HN3.out hb)
        clear HR2_0_163 HR2_1_164 HR3_0_165 HR3_1_166 HB_167 HN1_168 HN2_169 RX_170 RY_171 HN3 hb
        go_wp2_with fail
        go_ret
        exact ⟨rfl, HB_196.out⟩
  · have h4 : (((256 : Int) < l2_0.length ∨ (256 : Int) < l3_0.length) ∨ (100 : Int) < l2_1.length) ∨ (100 : Int) < l3_1.length := by omega
    clear hsz
    go_wp2_with fail
    all_goals ((with_reducible refine (kimberlitelaw07_alive.calls 0 true _ rfl).mono ?_); rintro e w3 ⟨rfl, hb⟩; go_wp2_with fail; go_ret; exact ⟨rfl, below_then (below_alloc (below_alloc (Below.refl _ _) _) _) (below_alloc (below_alloc (Below.refl _ _) _) _).size hb⟩)
theorem proofBlames_pure : kimberlitelaw07_ProofBlames.Pure2 := fun _ _ _ _ _ _ h0 h1 h2 h3 => ⟨0, h0, h1, h2, h3, trivial⟩
end Go.Proofs.Ytacjdoekgmmfoaa.PL
