/-
  blamed: what is accused is a collision.
-/
import Derived.Test.YtacjdoekgmmfoaaLBm
import Derived.Test.YtacjdoekgmmfoaaPLx7
import Derived.Test.YtacjdoekgmmfoaaPLx9
namespace Go.Proofs.Ytacjdoekgmmfoaa.PL
open Go.RowKit Go.Proofs.YtacjdoekgmmfoaaW.PrintWords Go.Proofs.YtacjdoekgmmfoaaW.PrintLast Go.Proofs.YtacjdoekgmmfoaaW.PrintMore Go.Proofs.Ytacjdoekgmmfoaa.Opn
set_option linter.unusedVariables false
set_option linter.unusedSimpArgs false
set_option maxHeartbeats 12800000 in
set_option maxRecDepth 100000 in
theorem blamed_calls (a0 a1 : Int) (A2 : Option Addr) (c2 : Nat) (l2 : List Int) (A3 : Option Addr) (c3 : Nat) (l3 : List S54) (A4 : Option Addr) (c4 : Nat) (l4 : List Int) (A5 : Option Addr) (c5 : Nat) (l5 : List S54) (root : Int) (w : World)
    (hr2 : Kd.C (Kd.int .u8) w A2 l2.length l2) (hc2 : l2.length ≤ c2) (hr3 : Kd.C k54 w A3 l3.length l3) (hc3 : l3.length ≤ c3) (hr4 : Kd.C (Kd.int .u8) w A4 l4.length l4) (hc4 : l4.length ≤ c4) (hr5 : Kd.C k54 w A5 l5.length l5) (hc5 : l5.length ≤ c5)
    (hb2 : byteL l2) (hb4 : byteL l4) (hl3 : l3.length < 1000000) (hl5 : l5.length < 1000000) (ho3 : ∀ s ∈ l3, okH s.f0) (ho5 : ∀ s ∈ l5, okH s.f0) (hne : l2 ≠ l4) (h1 : (inclS l2 a0 a1 root l3).1 = true) (h2 : (inclS l4 a0 a1 root l5).1 = true) :
    Calls Try.prog 37 #[.int .i64 a0, .int .i64 a1, .slice A2 l2.length c2, .slice A3 l3.length c3, .slice A4 l4.length c4, .slice A5 l5.length c5] w fun e w' => e = .returned (.bool true) ∧ Below w.heap.size w w' := by
  have HR2 := lhid hr2
  have HC2 := lhid hc2
  have HR3 := lhid hr3
  have HC3 := lhid hc3
  have HR4 := lhid hr4
  have HC4 := lhid hc4
  have HR5 := lhid hr5
  have HC5 := lhid hc5
  obtain ⟨_, hz1, _, _, _⟩ := incl_parts h1
  obtain ⟨_, hz2, _, _, _⟩ := incl_parts h2
  obtain ⟨r1, r2, ha, q1, q2, q3, q4⟩ := blame_yes h1 h2 hne ho3 ho5
  have hlv1 := lv_byte l3 (0 :: l2) (byte_leaf hb2) (by simp; omega) r1 q3
  have hlv2 := lv_byte l5 (0 :: l4) (byte_leaf hb4) (by simp; omega) r2 q4
  obtain ⟨k3, hk3⟩ := Ev.rounds (ev_Accuse a0 a1 l2 l3 l4 l5 hb2 hb4 hl3 hl5 ho3 ho5)
  rw [ha] at hk3
  obtain ⟨m1, hm1⟩ := Ev.rounds (ev_Mix r1 (by have := hlv1.2; omega))
  obtain ⟨m2, hm2⟩ := Ev.rounds (ev_Mix r2 (by have := hlv2.2; omega))
  obtain ⟨n1, hn1⟩ := Ev.rounds (ev_rMix r1 (by have := hlv1.2; omega))
  obtain ⟨n2, hn2⟩ := Ev.rounds (ev_rMix r2 (by have := hlv2.2; omega))
  have HK3 := lhid hk3
  have HM1 := lhid hm1
  have HM2 := lhid hm2
  have HN1 := lhid hn1
  have HN2 := lhid hn2
  have hse : ((strOfNums r1).toList != (strOfNums r2).toList) = true := bne_iff_ne.mpr (fun q => q1 (str_inj hlv1.1 hlv2.1 q))
  have hse2 : ((strOfNums r1).toList == (strOfNums r2).toList) = false := beq_eq_false_iff_ne.mpr (bne_iff_ne.mp hse)
  have hqe : (mixS r1 == mixS r2) = true := beq_iff_eq.mpr q2
  clear hr2 hc2 hr3 hc3 hr4 hc4 hr5 hc5 hb2 hb4 ho3 ho5 hne h1 h2 hz1 hz2 ha q1 q2 q3 q4 hk3 hm1 hm2 hn1 hn2 hlv1 hlv2
  have hu28 := Try.underlying28
  go_enter Try.func37, Try.ntmps37
  have HB_1 := lhid (Below.refl w.heap.size w)
  go_wp2_with fail
  with_reducible refine (proof_Accuse.calls k3 a0 a1 A2 c2 l2 A3 c3 l3 A4 c4 l4 A5 c5 l5 r1 r2 0 w HR2.out HC2.out HR3.out HC3.out HR4.out HC4.out HR5.out HC5.out HK3.out).mono ?_
  rintro e w1 ⟨v0, v1, rfl, hX, hY, hb⟩
  have RX_2 := lhid (Kd.R_lower hX HB_1.out.size)
  clear hX
  have RY_3 := lhid (Kd.R_lower hY HB_1.out.size)
  clear hY
  have HR2_4 := lhid (Kd.C_below HR2.out hb)
  have HR3_5 := lhid (Kd.C_below HR3.out hb)
  have HR4_6 := lhid (Kd.C_below HR4.out hb)
  have HR5_7 := lhid (Kd.C_below HR5.out hb)
  have HB_8 := lhid (below_then HB_1.out HB_1.out.size hb)
  clear HR2 HR3 HR4 HR5 HB_1 hb
  obtain ⟨B0, e0, rfl⟩ := Kd.R_slice RX_2.out
  obtain ⟨B1, e1, rfl⟩ := Kd.R_slice RY_3.out
  go_upto_region 2 with (fail)
  have hb := below_alloc (Below.refl w1.heap.size w1) (.cells #[.slice B0 r1.length e0, .slice B1 r2.length e1] 28)
  have hn := blk_new w1 (.cells #[.slice B0 r1.length e0, .slice B1 r2.length e1] 28)
  have HZ2 := lhid (show (World.alloc w1 (.cells #[.slice B0 r1.length e0, .slice B1 r2.length e1] 28)).heap.size = w1.heap.size + 1 from by simp)
  generalize hq : World.alloc w1 (.cells #[.slice B0 r1.length e0, .slice B1 r2.length e1] 28) = w2 at hb hn HZ2 ⊢
  clear hq
  have HR2_9 := lhid (Kd.C_below HR2_4.out hb)
  have HR3_10 := lhid (Kd.C_below HR3_5.out hb)
  have HR4_11 := lhid (Kd.C_below HR4_6.out hb)
  have HR5_12 := lhid (Kd.C_below HR5_7.out hb)
  have HB_13 := lhid (below_then HB_8.out HB_8.out.size hb)
  have RX_14 := lhid (Kd.R_below RX_2.out hb)
  have RY_15 := lhid (Kd.R_below RY_3.out hb)
  clear HR2_4 HR3_5 HR4_6 HR5_7 HB_8 RX_2 RY_3 hb
  have HN3 := lhid hn
  clear hn
  obtain ⟨_, hcx, hCX⟩ := Kd.R_reads' RX_14.out
  have CX := lhid hCX
  have HHX := lhid hcx
  clear hCX hcx
  obtain ⟨_, hcx, hCX⟩ := Kd.R_reads' RY_15.out
  have CY := lhid hCX
  have HHY := lhid hcx
  clear hCX hcx
  have hb := below_drew1 (Below.refl w2.heap.size w2)
  have HR2_16 := lhid (Kd.C_below HR2_9.out hb)
  have HR3_17 := lhid (Kd.C_below HR3_10.out hb)
  have HR4_18 := lhid (Kd.C_below HR4_11.out hb)
  have HR5_19 := lhid (Kd.C_below HR5_12.out hb)
  have HB_20 := lhid (below_then HB_13.out HB_13.out.size hb)
  have RX_21 := lhid (Kd.R_below RX_14.out hb)
  have RY_22 := lhid (Kd.R_below RY_15.out hb)
  have HN3_23 := lhid (blk_below HN3.out hb)
  have CX_24 := lhid (Kd.C_below CX.out hb)
  have CY_25 := lhid (Kd.C_below CY.out hb)
  clear HR2_9 HR3_10 HR4_11 HR5_12 HB_13 RX_14 RY_15 HN3 CX CY hb
  refine start_ (n := 30) (S := fun w' => w'.cell? ⟨w1.heap.size, 0, none⟩ = some (.slice B0 r1.length e0) ∧ w'.cell? ⟨w1.heap.size, 1, none⟩ = some (.slice B1 r2.length e1) ∧ (convert 22 9 (.slice B0 r1.length e0)).run Try.prog w' = .ok (.string (strOfNums r1)) w' ∧ (convert 22 9 (.slice B1 r2.length e1)).run Try.prog w' = .ok (.string (strOfNums r2)) w') (ds := []) #[false, false, false, false, false, false, false, false, false, false, false, false, false, false, false, false, false, false, false, false, false, false, false, false, false, false, false, false, false, false] (by kernel_rfl) rfl rfl ⟨((blk_cell HN3_23.out 0).trans rfl), ((blk_cell HN3_23.out 1).trans rfl), own_string (P := Try.prog) Try.underlying22 Try.underlying5 Try.underlying9 (Kd.own_of_R RX_21.out), own_string (P := Try.prog) Try.underlying22 Try.underlying5 Try.underlying9 (Kd.own_of_R RY_22.out)⟩ (fun hHeld => ?_)
  generalize w2.drew = w3 at HR2_16 HR3_17 HR4_18 HR5_19 HB_20 RX_21 RY_22 HN3_23 CX_24 CY_25 hHeld ⊢
  refine pure_ (i := 0) (N := some 25) (v := ?_) (a' := ?_) #[true, false, false, false, false, false, false, false, false, false, false, false, false, false, false, false, false, false, false, false, false, false, false, false, false, false, false, false, false, false] rfl rfl (by kernel_rfl) (fun _ _ _ h => h) (Or.inl ⟨by rfl, ?_⟩) ?_ ?_
  rotate_left
  · intro w'
    go_simp
    with_reducible rfl
  rotate_left
  · simp only [Act.put, List.setIfInBounds_toArray, List.set_cons_zero, List.set_cons_succ, i64_w, i32_w]
    rfl
  refine pure_ (i := 1) (N := some 26) (v := ?_) (a' := ?_) #[true, true, false, false, false, false, false, false, false, false, false, false, false, false, false, false, false, false, false, false, false, false, false, false, false, false, false, false, false, false] rfl rfl (by kernel_rfl) (fun _ _ _ h => h) (Or.inl ⟨by rfl, ?_⟩) ?_ ?_
  rotate_left
  · intro w'
    go_simp
    with_reducible rfl
  rotate_left
  · simp only [Act.put, List.setIfInBounds_toArray, List.set_cons_zero, List.set_cons_succ, i64_w, i32_w]
    rfl
  refine pure_ (i := 2) (N := some 27) (v := ?_) (a' := ?_) #[true, true, true, false, false, false, false, false, false, false, false, false, false, false, false, false, false, false, false, false, false, false, false, false, false, false, false, false, false, false] rfl rfl (by kernel_rfl) (fun _ _ _ h => h) (Or.inl ⟨by rfl, ?_⟩) ?_ ?_
  rotate_left
  · intro w'
    go_simp
    with_reducible rfl
  rotate_left
  · simp only [Act.put, List.setIfInBounds_toArray, List.set_cons_zero, List.set_cons_succ, i64_w, i32_w]
    rfl
  refine pure_ (i := 3) (N := some 28) (v := ?_) (a' := ?_) #[true, true, true, true, false, false, false, false, false, false, false, false, false, false, false, false, false, false, false, false, false, false, false, false, false, false, false, false, false, false] rfl rfl (by kernel_rfl) (fun _ _ _ h => h) (Or.inl ⟨by rfl, ?_⟩) ?_ ?_
  rotate_left
  · intro w'
    go_simp
    with_reducible rfl
  rotate_left
  · simp only [Act.put, List.setIfInBounds_toArray, List.set_cons_zero, List.set_cons_succ, i64_w, i32_w]
    rfl
  refine pure_ (i := 6) (N := some 31) (v := ?_) (a' := ?_) #[true, true, true, true, false, false, true, false, false, false, false, false, false, false, false, false, false, false, false, false, false, false, false, false, false, false, false, false, false, false] rfl rfl (by kernel_rfl) (fun _ _ _ h => h) (Or.inl ⟨by rfl, ?_⟩) ?_ ?_
  rotate_left
  · intro w'
    go_simp
    with_reducible rfl
  rotate_left
  · simp only [Act.put, List.setIfInBounds_toArray, List.set_cons_zero, List.set_cons_succ, i64_w, i32_w]
    rfl
  refine take_ (i := 4) (N := some 29) (v := ?_) (a' := ?_) #[true, true, true, true, true, false, true, false, false, false, false, false, false, false, false, false, false, false, false, false, false, false, false, false, false, false, false, false, false, false] rfl rfl (by kernel_rfl) (fun _ _ _ h => h) (Or.inl ⟨by rfl, ?_⟩) hHeld ?_ ?_
  rotate_left
  · rintro w' ⟨s0, s1, s2, s3⟩
    go_simp
    with_reducible rfl
  rotate_left
  · simp only [Act.put, List.setIfInBounds_toArray, List.set_cons_zero, List.set_cons_succ, i64_w, i32_w]
    rfl
  refine take_ (i := 5) (N := some 30) (v := ?_) (a' := ?_) #[true, true, true, true, true, true, true, false, false, false, false, false, false, false, false, false, false, false, false, false, false, false, false, false, false, false, false, false, false, false] rfl rfl (by kernel_rfl) (fun _ _ _ h => h) (Or.inl ⟨by rfl, ?_⟩) hHeld ?_ ?_
  rotate_left
  · rintro w' ⟨s0, s1, s2, s3⟩
    go_simp
    with_reducible rfl
  rotate_left
  · simp only [Act.put, List.setIfInBounds_toArray, List.set_cons_zero, List.set_cons_succ, i64_w, i32_w]
    rfl
  refine take_ (i := 7) (N := some 32) (v := ?_) (a' := ?_) #[true, true, true, true, true, true, true, true, false, false, false, false, false, false, false, false, false, false, false, false, false, false, false, false, false, false, false, false, false, false] rfl rfl (by kernel_rfl) (fun _ _ _ h => h) (Or.inl ⟨by rfl, ?_⟩) hHeld ?_ ?_
  rotate_left
  · rintro w' ⟨s0, s1, s2, s3⟩
    go_simp
    with_reducible rfl
  rotate_left
  · simp only [Act.put, List.setIfInBounds_toArray, List.set_cons_zero, List.set_cons_succ, i64_w, i32_w]
    rfl
  refine take_ (i := 8) (N := some 33) (v := ?_) (a' := ?_) #[true, true, true, true, true, true, true, true, true, false, false, false, false, false, false, false, false, false, false, false, false, false, false, false, false, false, false, false, false, false] rfl rfl (by kernel_rfl) (fun _ _ _ h => h) (Or.inl ⟨by rfl, ?_⟩) hHeld ?_ ?_
  rotate_left
  · rintro w' ⟨s0, s1, s2, s3⟩
    go_simp
    with_reducible rfl
  rotate_left
  · simp only [Act.put, List.setIfInBounds_toArray, List.set_cons_zero, List.set_cons_succ, i64_w, i32_w]
    rfl
  refine pure_ (i := 9) (N := some 34) (v := ?_) (a' := ?_) #[true, true, true, true, true, true, true, true, true, true, false, false, false, false, false, false, false, false, false, false, false, false, false, false, false, false, false, false, false, false] rfl rfl (by kernel_rfl) (fun _ _ _ h => h) (Or.inl ⟨by rfl, ?_⟩) ?_ ?_
  rotate_left
  · intro w'
    go_simp
    with_reducible rfl
  rotate_left
  · simp only [Act.put, List.setIfInBounds_toArray, List.set_cons_zero, List.set_cons_succ, i64_w, i32_w]
    rfl
  refine pure_ (i := 10) (N := some 35) (v := ?_) (a' := ?_) #[true, true, true, true, true, true, true, true, true, true, true, false, false, false, false, false, false, false, false, false, false, false, false, false, false, false, false, false, false, false] rfl rfl (by kernel_rfl) (fun _ _ _ h => h) (Or.inl ⟨by rfl, ?_⟩) ?_ ?_
  rotate_left
  · intro w'
    go_simp
    with_reducible rfl
  rotate_left
  · simp only [Act.put, List.setIfInBounds_toArray, List.set_cons_zero, List.set_cons_succ, i64_w, i32_w]
    rfl
  refine pure_ (i := 11) (N := some 36) (v := ?_) (a' := ?_) #[true, true, true, true, true, true, true, true, true, true, true, true, false, false, false, false, false, false, false, false, false, false, false, false, false, false, false, false, false, false] rfl rfl (by kernel_rfl) (fun _ _ _ h => h) (Or.inl ⟨by rfl, ?_⟩) ?_ ?_
  rotate_left
  · intro w'
    go_simp
    with_reducible rfl
  rotate_left
  · simp only [Act.put, List.setIfInBounds_toArray, List.set_cons_zero, List.set_cons_succ, i64_w, i32_w]
    rfl
  refine pure_ (i := 12) (N := some 37) (v := ?_) (a' := ?_) #[true, true, true, true, true, true, true, true, true, true, true, true, true, false, false, false, false, false, false, false, false, false, false, false, false, false, false, false, false, false] rfl rfl (by kernel_rfl) (fun _ _ _ h => h) (Or.inl ⟨by rfl, ?_⟩) ?_ ?_
  rotate_left
  · intro w'
    go_simp
    with_reducible rfl
  rotate_left
  · simp only [Act.put, List.setIfInBounds_toArray, List.set_cons_zero, List.set_cons_succ, i64_w, i32_w]
    rfl
  refine pure_ (i := 15) (N := some 40) (v := ?_) (a' := ?_) #[true, true, true, true, true, true, true, true, true, true, true, true, true, false, false, true, false, false, false, false, false, false, false, false, false, false, false, false, false, false] rfl rfl (by kernel_rfl) (fun _ _ _ h => h) (Or.inl ⟨by rfl, ?_⟩) ?_ ?_
  rotate_left
  · intro w'
    go_simp
    with_reducible rfl
  rotate_left
  · simp only [Act.put, List.setIfInBounds_toArray, List.set_cons_zero, List.set_cons_succ, i64_w, i32_w]
    rfl
  refine take_ (i := 13) (N := some 38) (v := ?_) (a' := ?_) #[true, true, true, true, true, true, true, true, true, true, true, true, true, true, false, true, false, false, false, false, false, false, false, false, false, false, false, false, false, false] rfl rfl (by kernel_rfl) (fun _ _ _ h => h) (Or.inl ⟨by rfl, ?_⟩) hHeld ?_ ?_
  rotate_left
  · rintro w' ⟨s0, s1, s2, s3⟩
    go_simp
    with_reducible rfl
  rotate_left
  · simp only [Act.put, List.setIfInBounds_toArray, List.set_cons_zero, List.set_cons_succ, i64_w, i32_w]
    rfl
  refine take_ (i := 16) (N := some 41) (v := ?_) (a' := ?_) #[true, true, true, true, true, true, true, true, true, true, true, true, true, true, false, true, true, false, false, false, false, false, false, false, false, false, false, false, false, false] rfl rfl (by kernel_rfl) (fun _ _ _ h => h) (Or.inl ⟨by rfl, ?_⟩) hHeld ?_ ?_
  rotate_left
  · rintro w' ⟨s0, s1, s2, s3⟩
    go_simp
    with_reducible rfl
  rotate_left
  · simp only [Act.put, List.setIfInBounds_toArray, List.set_cons_zero, List.set_cons_succ, i64_w, i32_w]
    rfl
  refine one_ (i := 14) (N := some 39) #[true, true, true, true, true, true, true, true, true, true, true, true, true, true, true, true, true, false, false, false, false, false, false, false, false, false, false, false, false, false] rfl rfl (by kernel_rfl) (by decide) (fun K hK => ?_)
  refine goes_ Try.func21 (by kernel_rfl) rfl #[.slice B0 r1.length e0] (by rfl) rfl rfl (by (try simp only [List.map_toArray, List.map_cons, List.map_nil]); first | done | rfl) ?_
  with_reducible refine (proof_Mix.calls m1 B0 e0 r1 (mixS r1) _ CX_24.out HHX.out HM1.out).mono ?_
  rintro e w4 ⟨rfl, nd, hq⟩
  refine ⟨_, rfl, ?_⟩
  have hb := pw_below_drewN (Below.refl w3.heap.size w3) nd
  rw [← hq] at hb
  clear hq
  have HR2_26 := lhid (Kd.C_below HR2_16.out hb)
  have HR3_27 := lhid (Kd.C_below HR3_17.out hb)
  have HR4_28 := lhid (Kd.C_below HR4_18.out hb)
  have HR5_29 := lhid (Kd.C_below HR5_19.out hb)
  have HB_30 := lhid (below_then HB_20.out HB_20.out.size hb)
  have RX_31 := lhid (Kd.R_below RX_21.out hb)
  have RY_32 := lhid (Kd.R_below RY_22.out hb)
  have HN3_33 := lhid (blk_below HN3_23.out hb)
  have CX_34 := lhid (Kd.C_below CX_24.out hb)
  have CY_35 := lhid (Kd.C_below CY_25.out hb)
  clear HR2_16 HR3_17 HR4_18 HR5_19 HB_20 RX_21 RY_22 HN3_23 CX_24 CY_25 hb
  refine hK.out _ _ ⟨((blk_cell HN3_33.out 0).trans rfl), ((blk_cell HN3_33.out 1).trans rfl), own_string (P := Try.prog) Try.underlying22 Try.underlying5 Try.underlying9 (Kd.own_of_R RX_31.out), own_string (P := Try.prog) Try.underlying22 Try.underlying5 Try.underlying9 (Kd.own_of_R RY_32.out)⟩ (fun hHeld => ?_)
  clear hK K
  refine norm_ (a' := ?_) ?_ ?_
  rotate_left
  · show Act.put _ (some 39) _ = _
    simp only [Act.put, List.setIfInBounds_toArray, List.set_cons_zero, List.set_cons_succ, i64_w, i32_w]
    rfl
  refine one_ (i := 17) (N := some 42) #[true, true, true, true, true, true, true, true, true, true, true, true, true, true, true, true, true, true, false, false, false, false, false, false, false, false, false, false, false, false] rfl rfl (by kernel_rfl) (by decide) (fun K hK => ?_)
  refine goes_ Try.func21 (by kernel_rfl) rfl #[.slice B1 r2.length e1] (by rfl) rfl rfl (by (try simp only [List.map_toArray, List.map_cons, List.map_nil]); first | done | rfl) ?_
  with_reducible refine (proof_Mix.calls m2 B1 e1 r2 (mixS r2) _ CY_35.out HHY.out HM2.out).mono ?_
  rintro e w5 ⟨rfl, nd, hq⟩
  refine ⟨_, rfl, ?_⟩
  have hb := pw_below_drewN (Below.refl w4.heap.size w4) nd
  rw [← hq] at hb
  clear hq
  have HR2_36 := lhid (Kd.C_below HR2_26.out hb)
  have HR3_37 := lhid (Kd.C_below HR3_27.out hb)
  have HR4_38 := lhid (Kd.C_below HR4_28.out hb)
  have HR5_39 := lhid (Kd.C_below HR5_29.out hb)
  have HB_40 := lhid (below_then HB_30.out HB_30.out.size hb)
  have RX_41 := lhid (Kd.R_below RX_31.out hb)
  have RY_42 := lhid (Kd.R_below RY_32.out hb)
  have HN3_43 := lhid (blk_below HN3_33.out hb)
  have CX_44 := lhid (Kd.C_below CX_34.out hb)
  have CY_45 := lhid (Kd.C_below CY_35.out hb)
  clear HR2_26 HR3_27 HR4_28 HR5_29 HB_30 RX_31 RY_32 HN3_33 CX_34 CY_35 hb
  refine hK.out _ _ ⟨((blk_cell HN3_43.out 0).trans rfl), ((blk_cell HN3_43.out 1).trans rfl), own_string (P := Try.prog) Try.underlying22 Try.underlying5 Try.underlying9 (Kd.own_of_R RX_41.out), own_string (P := Try.prog) Try.underlying22 Try.underlying5 Try.underlying9 (Kd.own_of_R RY_42.out)⟩ (fun hHeld => ?_)
  clear hK K
  refine norm_ (a' := ?_) ?_ ?_
  rotate_left
  · show Act.put _ (some 42) _ = _
    simp only [Act.put, List.setIfInBounds_toArray, List.set_cons_zero, List.set_cons_succ, i64_w, i32_w]
    rfl
  refine pure_ (i := 18) (N := some 43) (v := ?_) (a' := ?_) #[true, true, true, true, true, true, true, true, true, true, true, true, true, true, true, true, true, true, true, false, false, false, false, false, false, false, false, false, false, false] rfl rfl (by kernel_rfl) (fun _ _ _ h => h) (Or.inl ⟨by rfl, ?_⟩) ?_ ?_
  rotate_left
  · intro w'
    go_simp
    with_reducible rfl
  rotate_left
  · simp only [Act.put, List.setIfInBounds_toArray, List.set_cons_zero, List.set_cons_succ, i64_w, i32_w]
    rfl
  refine pure_ (i := 19) (N := some 44) (v := ?_) (a' := ?_) #[true, true, true, true, true, true, true, true, true, true, true, true, true, true, true, true, true, true, true, true, false, false, false, false, false, false, false, false, false, false] rfl rfl (by kernel_rfl) (fun _ _ _ h => h) (Or.inl ⟨by rfl, ?_⟩) ?_ ?_
  rotate_left
  · intro w'
    go_simp
    with_reducible rfl
  rotate_left
  · simp only [Act.put, List.setIfInBounds_toArray, List.set_cons_zero, List.set_cons_succ, i64_w, i32_w]
    rfl
  refine pure_ (i := 20) (N := some 45) (v := ?_) (a' := ?_) #[true, true, true, true, true, true, true, true, true, true, true, true, true, true, true, true, true, true, true, true, true, false, false, false, false, false, false, false, false, false] rfl rfl (by kernel_rfl) (fun _ _ _ h => h) (Or.inl ⟨by rfl, ?_⟩) ?_ ?_
  rotate_left
  · intro w'
    go_simp
    with_reducible rfl
  rotate_left
  · simp only [Act.put, List.setIfInBounds_toArray, List.set_cons_zero, List.set_cons_succ, i64_w, i32_w]
    rfl
  refine pure_ (i := 21) (N := some 46) (v := ?_) (a' := ?_) #[true, true, true, true, true, true, true, true, true, true, true, true, true, true, true, true, true, true, true, true, true, true, false, false, false, false, false, false, false, false] rfl rfl (by kernel_rfl) (fun _ _ _ h => h) (Or.inl ⟨by rfl, ?_⟩) ?_ ?_
  rotate_left
  · intro w'
    go_simp
    with_reducible rfl
  rotate_left
  · simp only [Act.put, List.setIfInBounds_toArray, List.set_cons_zero, List.set_cons_succ, i64_w, i32_w]
    rfl
  refine pure_ (i := 24) (N := some 49) (v := ?_) (a' := ?_) #[true, true, true, true, true, true, true, true, true, true, true, true, true, true, true, true, true, true, true, true, true, true, false, false, true, false, false, false, false, false] rfl rfl (by kernel_rfl) (fun _ _ _ h => h) (Or.inl ⟨by rfl, ?_⟩) ?_ ?_
  rotate_left
  · intro w'
    go_simp
    with_reducible rfl
  rotate_left
  · simp only [Act.put, List.setIfInBounds_toArray, List.set_cons_zero, List.set_cons_succ, i64_w, i32_w]
    rfl
  refine take_ (i := 22) (N := some 47) (v := ?_) (a' := ?_) #[true, true, true, true, true, true, true, true, true, true, true, true, true, true, true, true, true, true, true, true, true, true, true, false, true, false, false, false, false, false] rfl rfl (by kernel_rfl) (fun _ _ _ h => h) (Or.inl ⟨by rfl, ?_⟩) hHeld ?_ ?_
  rotate_left
  · rintro w' ⟨s0, s1, s2, s3⟩
    go_simp
    with_reducible rfl
  rotate_left
  · simp only [Act.put, List.setIfInBounds_toArray, List.set_cons_zero, List.set_cons_succ, i64_w, i32_w]
    rfl
  refine take_ (i := 25) (N := some 50) (v := ?_) (a' := ?_) #[true, true, true, true, true, true, true, true, true, true, true, true, true, true, true, true, true, true, true, true, true, true, true, false, true, true, false, false, false, false] rfl rfl (by kernel_rfl) (fun _ _ _ h => h) (Or.inl ⟨by rfl, ?_⟩) hHeld ?_ ?_
  rotate_left
  · rintro w' ⟨s0, s1, s2, s3⟩
    go_simp
    with_reducible rfl
  rotate_left
  · simp only [Act.put, List.setIfInBounds_toArray, List.set_cons_zero, List.set_cons_succ, i64_w, i32_w]
    rfl
  refine one_ (i := 23) (N := some 48) #[true, true, true, true, true, true, true, true, true, true, true, true, true, true, true, true, true, true, true, true, true, true, true, true, true, true, false, false, false, false] rfl rfl (by kernel_rfl) (by decide) (fun K hK => ?_)
  refine goes_ Try.func27 (by kernel_rfl) rfl #[.slice B0 r1.length e0] (by rfl) rfl rfl (by (try simp only [List.map_toArray, List.map_cons, List.map_nil]); first | done | rfl) ?_
  with_reducible refine (kimberliteref07_Mix.calls n1 B0 e0 r1 (mixS r1) _ CX_44.out HHX.out HN1.out).mono ?_
  rintro e w6 ⟨rfl, nd, hq⟩
  refine ⟨_, rfl, ?_⟩
  have hb := pw_below_drewN (Below.refl w5.heap.size w5) nd
  rw [← hq] at hb
  clear hq
  have HR2_46 := lhid (Kd.C_below HR2_36.out hb)
  have HR3_47 := lhid (Kd.C_below HR3_37.out hb)
  have HR4_48 := lhid (Kd.C_below HR4_38.out hb)
  have HR5_49 := lhid (Kd.C_below HR5_39.out hb)
  have HB_50 := lhid (below_then HB_40.out HB_40.out.size hb)
  have RX_51 := lhid (Kd.R_below RX_41.out hb)
  have RY_52 := lhid (Kd.R_below RY_42.out hb)
  have HN3_53 := lhid (blk_below HN3_43.out hb)
  have CX_54 := lhid (Kd.C_below CX_44.out hb)
  have CY_55 := lhid (Kd.C_below CY_45.out hb)
  clear HR2_36 HR3_37 HR4_38 HR5_39 HB_40 RX_41 RY_42 HN3_43 CX_44 CY_45 hb
  refine hK.out _ _ ⟨((blk_cell HN3_53.out 0).trans rfl), ((blk_cell HN3_53.out 1).trans rfl), own_string (P := Try.prog) Try.underlying22 Try.underlying5 Try.underlying9 (Kd.own_of_R RX_51.out), own_string (P := Try.prog) Try.underlying22 Try.underlying5 Try.underlying9 (Kd.own_of_R RY_52.out)⟩ (fun hHeld => ?_)
  clear hK K
  refine norm_ (a' := ?_) ?_ ?_
  rotate_left
  · show Act.put _ (some 48) _ = _
    simp only [Act.put, List.setIfInBounds_toArray, List.set_cons_zero, List.set_cons_succ, i64_w, i32_w]
    rfl
  refine one_ (i := 26) (N := some 51) #[true, true, true, true, true, true, true, true, true, true, true, true, true, true, true, true, true, true, true, true, true, true, true, true, true, true, true, false, false, false] rfl rfl (by kernel_rfl) (by decide) (fun K hK => ?_)
  refine goes_ Try.func27 (by kernel_rfl) rfl #[.slice B1 r2.length e1] (by rfl) rfl rfl (by (try simp only [List.map_toArray, List.map_cons, List.map_nil]); first | done | rfl) ?_
  with_reducible refine (kimberliteref07_Mix.calls n2 B1 e1 r2 (mixS r2) _ CY_55.out HHY.out HN2.out).mono ?_
  rintro e w7 ⟨rfl, nd, hq⟩
  refine ⟨_, rfl, ?_⟩
  have hb := pw_below_drewN (Below.refl w6.heap.size w6) nd
  rw [← hq] at hb
  clear hq
  have HR2_56 := lhid (Kd.C_below HR2_46.out hb)
  have HR3_57 := lhid (Kd.C_below HR3_47.out hb)
  have HR4_58 := lhid (Kd.C_below HR4_48.out hb)
  have HR5_59 := lhid (Kd.C_below HR5_49.out hb)
  have HB_60 := lhid (below_then HB_50.out HB_50.out.size hb)
  have RX_61 := lhid (Kd.R_below RX_51.out hb)
  have RY_62 := lhid (Kd.R_below RY_52.out hb)
  have HN3_63 := lhid (blk_below HN3_53.out hb)
  have CX_64 := lhid (Kd.C_below CX_54.out hb)
  have CY_65 := lhid (Kd.C_below CY_55.out hb)
  clear HR2_46 HR3_47 HR4_48 HR5_49 HB_50 RX_51 RY_52 HN3_53 CX_54 CY_55 hb
  refine hK.out _ _ ⟨((blk_cell HN3_63.out 0).trans rfl), ((blk_cell HN3_63.out 1).trans rfl), own_string (P := Try.prog) Try.underlying22 Try.underlying5 Try.underlying9 (Kd.own_of_R RX_61.out), own_string (P := Try.prog) Try.underlying22 Try.underlying5 Try.underlying9 (Kd.own_of_R RY_62.out)⟩ (fun hHeld => ?_)
  clear hK K
  refine norm_ (a' := ?_) ?_ ?_
  rotate_left
  · show Act.put _ (some 51) _ = _
    simp only [Act.put, List.setIfInBounds_toArray, List.set_cons_zero, List.set_cons_succ, i64_w, i32_w]
    rfl
  refine pure_ (i := 27) (N := some 52) (v := ?_) (a' := ?_) #[true, true, true, true, true, true, true, true, true, true, true, true, true, true, true, true, true, true, true, true, true, true, true, true, true, true, true, true, false, false] rfl rfl (by kernel_rfl) (fun _ _ _ h => h) (Or.inl ⟨by rfl, ?_⟩) ?_ ?_
  rotate_left
  · intro w'
    go_simp
    with_reducible rfl
  rotate_left
  · simp only [Act.put, List.setIfInBounds_toArray, List.set_cons_zero, List.set_cons_succ, i64_w, i32_w]
    rfl
  refine pure_ (i := 28) (N := some 53) (v := ?_) (a' := ?_) #[true, true, true, true, true, true, true, true, true, true, true, true, true, true, true, true, true, true, true, true, true, true, true, true, true, true, true, true, true, false] rfl rfl (by kernel_rfl) (fun _ _ _ h => h) (Or.inl ⟨by rfl, ?_⟩) ?_ ?_
  rotate_left
  · intro w'
    go_simp
    with_reducible rfl
  rotate_left
  · simp only [Act.put, List.setIfInBounds_toArray, List.set_cons_zero, List.set_cons_succ, i64_w, i32_w]
    rfl
  refine pure_ (i := 29) (N := some 12) (v := ?_) (a' := ?_) #[true, true, true, true, true, true, true, true, true, true, true, true, true, true, true, true, true, true, true, true, true, true, true, true, true, true, true, true, true, true] rfl rfl (by kernel_rfl) (fun _ _ _ h => h) (Or.inl ⟨by rfl, ?_⟩) ?_ ?_
  rotate_left
  · intro w'
    go_simp
    with_reducible rfl
  rotate_left
  · simp only [Act.put, List.setIfInBounds_toArray, List.set_cons_zero, List.set_cons_succ, i64_w, i32_w]
    rfl
  refine done_ (by kernel_rfl) ?_
  
  go_wp2_with fail
  go_ret
  exact ⟨by simp [hqe], HB_60.out⟩
end Go.Proofs.Ytacjdoekgmmfoaa.PL
