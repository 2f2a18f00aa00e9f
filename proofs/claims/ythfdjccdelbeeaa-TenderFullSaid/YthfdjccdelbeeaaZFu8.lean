/-
  The texts that the theorem in YthfdjccdelbeeaaZRowFu rests on, merged (part 9); only what it reaches.
-/
import Derived.ProofKit
import Derived.OpenShut
import Derived.WalkKit
import Derived.Test.YthfdjccdelbeeaaZFu3
import Derived.Test.YthfdjccdelbeeaaZFu5
import Derived.Test.YthfdjccdelbeeaaZFu7
section
namespace Go.Proofs.Ythfdjccdelbeeaa.PT
open Go.RowKit Go.Proofs.YthfdjccdelbeeaaW.PrintWords Go.Proofs.YthfdjccdelbeeaaW.PrintLast Go.Proofs.YthfdjccdelbeeaaW.PrintMore Go.Proofs.Ythfdjccdelbeeaa.Opn
set_option linter.unusedVariables false
set_option linter.unusedSimpArgs false
set_option maxHeartbeats 12800000 in
set_option maxRecDepth 100000 in
theorem kimberlitelaw05_TenderFull.calls (P : List Int) (a1 : Int) (w : World) (hP : P.length = 17) (hPr : ∀ x ∈ P, 0 ≤ x ∧ x < 65536) (ha : 0 ≤ a1 ∧ a1 < 256) : Calls Try.prog 11 #[.agg (P.map (Value.int .u16)).toArray, .int .u8 a1] w fun e w' => e = .returned (.bool true) ∧ Below w.heap.size w w' := by
  have hu50 := Try.underlying50
  have hu75 := Try.underlying75
  have hu76 := Try.underlying76
  have HPL := lhid hP
  have HPR := lhid hPr
  have HA1 := lhid ha
  clear hP hPr ha
  go_enter Try.func11, Try.ntmps11
  have HB_1 := lhid (Below.refl w.heap.size w)
  go_upto_region 1 with (fail)
  have hb := below_alloc (Below.refl w.heap.size w) (.cells (P.map (Value.int .u16)).toArray 75)
  have hn := blk_new w (.cells (P.map (Value.int .u16)).toArray 75)
  have HZ1 := lhid (show (World.alloc w (.cells (P.map (Value.int .u16)).toArray 75)).heap.size = w.heap.size + 1 from by simp)
  generalize hq : World.alloc w (.cells (P.map (Value.int .u16)).toArray 75) = w1 at hb hn HZ1 ⊢
  clear hq
  have HB_2 := lhid (below_then HB_1.out HB_1.out.size hb)
  clear HB_1 hb
  have XB_3 := lhid (hn)
  clear hn
  obtain ⟨xb, hxb⟩ : ∃ q, q = w.heap.size := ⟨_, rfl⟩
  rw [← hxb] at XB_3 ⊢
  have HXB := lhid hxb
  clear hxb
  go_wp2_with fail
  have hN := New_t w1 12
  with_reducible refine hN.mono ?_
  clear hN
  rintro e w10 ho
  rcases ho with ⟨h1, -, -⟩ | ⟨-, rfl, ht, hb⟩
  · exact absurd rfl h1
  have HT0 := lhid ht
  have HW1 := lhid (show w1.heap.size = w.heap.size + 1 from HZ1.out)
  clear ht
  have HB_4 := lhid (below_then HB_2.out HB_2.out.size hb)
  have XB_5 := lhid (blk_below XB_3.out hb)
  clear HB_2 XB_3 hb
  obtain ⟨t, htt⟩ : ∃ q, q = w1.heap.size := ⟨_, rfl⟩
  rw [← htt] at HT0 ⊢
  have HTT := lhid (show t = w.heap.size + 1 by rw [htt]; exact HW1.out)
  clear htt
  go_upto_region 5 with (fail)
  obtain ⟨wq, hwq⟩ : ∃ q : World, q = w10 := ⟨_, rfl⟩
  rw [← hwq] at HB_4 XB_5 HT0 ⊢
  clear hwq
  have HBQ := lhid (HB_4.out)
  have HTQ := lhid (HT0.out)
  have HXQ := lhid (XB_5.out)
  clear HB_4 XB_5 HT0
  have HB0 := lhid (Below.refl wq.heap.size wq)
  have hb := below_alloc (Below.refl wq.heap.size wq) (.cells #[.slice none 0 0, .slice none 0 0, .slice none 0 0, .slice none 0 0, .slice none 0 0, .slice none 0 0] 76)
  have hn := blk_new wq (.cells #[.slice none 0 0, .slice none 0 0, .slice none 0 0, .slice none 0 0, .slice none 0 0, .slice none 0 0] 76)
  have HZ11 := lhid (show (World.alloc wq (.cells #[.slice none 0 0, .slice none 0 0, .slice none 0 0, .slice none 0 0, .slice none 0 0, .slice none 0 0] 76)).heap.size = wq.heap.size + 1 from by simp)
  generalize hq : World.alloc wq (.cells #[.slice none 0 0, .slice none 0 0, .slice none 0 0, .slice none 0 0, .slice none 0 0, .slice none 0 0] 76) = w11 at hb hn HZ11 ⊢
  clear hq
  have HB_6 := lhid (below_then HB0.out HB0.out.size hb)
  clear HB0 hb
  obtain ⟨sb, hsb⟩ : ∃ q, q = wq.heap.size := ⟨_, rfl⟩
  rw [← hsb] at hn ⊢
  have HSB := lhid hsb
  have HV := lhid (show w11.heap[sb]? = some (.cells (VB (fun _ => .slice none 0 0)) 76) from hn)
  clear hn hsb
  have HFM := lhid (Fam.nil w11 wq.heap.size 7)
  go_upto_region 7 with (fail)
  go_loopw [8, 9] (fun v i wr => ∃ n : Nat, n ≤ 17 ∧ i = .int .i64 n ∧ ∃ V : Nat → Value, v = V 6 ∧ Hid (Fam wr wq.heap.size 7 V (rowsI P n)) ∧ Hid (wr.heap[sb]? = some (.cells (VB V) 76)) ∧ Hid (Below wq.heap.size wq wr)) (fun _ i _ => 17 - (intOf i).toNat)
  case atStart => exact ⟨0, by omega, rfl, _, rfl, HFM, HV, HB_6⟩
  case round =>
    obtain ⟨n, hn, rfl, V, rfl, FMr, Vr, HBr⟩ := hrel
    clear HB_6 HV HFM
    by_cases hlt : n < 17
    · have hlt2 : (n : Int) < 17 := by omega
      obtain ⟨q, hq⟩ : ∃ q : Nat, q = n / 4 := ⟨_, rfl⟩
      have hq4 : q ≤ 4 := by omega
      have hq6 : (q : Int) < 6 := by omega
      have hq60 : (0 : Int) ≤ (q : Int) := by omega
      have hnq : (n : Int) / 4 = (q : Int) := by omega
      have HQ := lhid hq
      clear hq
      obtain ⟨pr, hpr⟩ : ∃ z, z = P.getD n 0 := ⟨_, rfl⟩
      have hpr2 : 0 ≤ pr ∧ pr < 65536 := by rw [hpr, List.getD_eq_getElem?_getD, List.getElem?_eq_getElem (by rw [HPL.out]; exact hlt)]; exact HPR.out _ (List.getElem_mem _)
      have HPN := lhid hpr
      clear hpr
      have hp0 := hpr2.1
      have hp1 := hpr2.2
      have hn0 : (0 : Int) ≤ (n : Int) := by omega
      obtain ⟨r, hr⟩ : ∃ r : Nat, r = n % 12 := ⟨_, rfl⟩
      have hrem : ((n : Int)).tmod 12 = (r : Int) := by rw [Int.tmod_eq_emod_of_nonneg hn0]; omega
      have hr12 : r < 12 := by omega
      have HR := lhid hr
      clear hr
      go_upto_region 10 with (fail)
      try any_goals (exfalso; omega)
      obtain ⟨lo, hlo⟩ : ∃ z : Int, z = ((2 ^ r : Nat) : Int) := ⟨_, rfl⟩
      have hw1 : wrap64 ((2 : Int) ^ r) = lo := by rw [hlo]; exact two_r hr12
      obtain ⟨cs, hcs⟩ : ∃ z : Int, z = 1 + pr := ⟨_, rfl⟩
      have hw2 : wrap64 pr = pr := by unfold wrap64; omega
      have hw3 : wrap64 (1 + pr) = cs := by rw [hcs]; unfold wrap64; omega
      have HY := lhid (show (⟨(q : Int), lo, cs⟩ : S50) = ofI P n by unfold ofI; rw [← HQ.out, ← HR.out, ← HPN.out, hlo, hcs])
      clear hlo hcs hpr2 hp0 hp1
      have hb := below_drew1 (Below.refl wr.heap.size wr)
      have FM_7 := lhid (FMr.out.next hb)
      have V_8 := lhid (blk_below Vr.out hb)
      have HB_9 := lhid (below_then HBr.out HBr.out.size hb)
      clear FMr Vr HBr hb
      refine start_ (n := 12) (S := fun w' => w'.cell? ⟨xb, n, none⟩ = some (.int .u16 pr)) (ds := [11]) (lsb 12 0) (by kernel_rfl) rfl rfl ((pc_get (blk_below HXQ.out HB_9.out) HPL.out hlt HPN.out)) (fun hHeld => ?_)
      generalize wr.drew = w21 at FM_7 V_8 HB_9 hHeld ⊢
      refine pure_ (i := 0) (N := some 33) (v := ?_) (a' := ?_) (lsb 12 1) rfl rfl (by as_aux_lemma => kernel_rfl) (fun _ _ _ h => h) (Or.inl ⟨by rfl, ?_⟩) ?_ ?_; rotate_left; (intro w'; go_simp; with_reducible rfl); rotate_left; (simp only [Act.put, List.setIfInBounds_toArray, List.set_cons_zero, List.set_cons_succ, i64_w, i32_w]; rfl)
      refine pure_ (i := 1) (N := some 34) (v := ?_) (a' := ?_) (lsb 12 3) rfl rfl (by as_aux_lemma => kernel_rfl) (fun _ _ _ h => h) (Or.inl ⟨by rfl, ?_⟩) ?_ ?_; rotate_left; (intro w'; go_simp; with_reducible rfl); rotate_left; (simp only [Act.put, List.setIfInBounds_toArray, List.set_cons_zero, List.set_cons_succ, i64_w, i32_w]; rfl)
      refine pure_ (i := 2) (N := some 35) (v := ?_) (a' := ?_) (lsb 12 7) rfl rfl (by as_aux_lemma => kernel_rfl) (fun _ _ _ h => h) (Or.inl ⟨by rfl, ?_⟩) ?_ ?_; rotate_left; (intro w'; go_simp; with_reducible rfl); rotate_left; (simp only [Act.put, List.setIfInBounds_toArray, List.set_cons_zero, List.set_cons_succ, i64_w, i32_w]; rfl)
      refine pure_ (i := 3) (N := some 36) (v := ?_) (a' := ?_) (lsb 12 15) rfl rfl (by as_aux_lemma => kernel_rfl) (fun _ _ _ h => h) (Or.inl ⟨by rfl, ?_⟩) ?_ ?_; rotate_left; (intro w'; go_simp; with_reducible rfl); rotate_left; (simp only [Act.put, List.setIfInBounds_toArray, List.set_cons_zero, List.set_cons_succ, i64_w, i32_w]; rfl)
      refine pure_ (i := 4) (N := some 37) (v := ?_) (a' := ?_) (lsb 12 31) rfl rfl (by as_aux_lemma => kernel_rfl) (fun _ _ _ h => h) (Or.inl ⟨by rfl, ?_⟩) ?_ ?_; rotate_left; (intro w'; go_simp; with_reducible rfl); rotate_left; (simp only [Act.put, List.setIfInBounds_toArray, List.set_cons_zero, List.set_cons_succ, i64_w, i32_w]; rfl)
      refine pure_ (i := 5) (N := some 38) (v := ?_) (a' := ?_) (lsb 12 63) rfl rfl (by as_aux_lemma => kernel_rfl) (fun _ _ _ h => h) (Or.inl ⟨by rfl, ?_⟩) ?_ ?_; rotate_left; (intro w'; go_simp; with_reducible rfl); rotate_left; (simp only [Act.put, List.setIfInBounds_toArray, List.set_cons_zero, List.set_cons_succ, i64_w, i32_w]; rfl)
      refine take_ (i := 6) (N := some 39) (v := ?_) (a' := ?_) (lsb 12 127) rfl rfl (by as_aux_lemma => kernel_rfl) (fun _ _ _ h => h) (Or.inl ⟨by rfl, ?_⟩) hHeld ?_ ?_; rotate_left; (intro w' s0; go_simp; with_reducible rfl); rotate_left; (simp only [Act.put, List.setIfInBounds_toArray, List.set_cons_zero, List.set_cons_succ, i64_w, i32_w]; rfl)
      refine pure_ (i := 7) (N := some 40) (v := ?_) (a' := ?_) (lsb 12 255) rfl rfl (by as_aux_lemma => kernel_rfl) (fun _ _ _ h => h) (Or.inl ⟨by rfl, ?_⟩) ?_ ?_; rotate_left; (intro w'; go_simp; with_reducible rfl); rotate_left; (simp only [Act.put, List.setIfInBounds_toArray, List.set_cons_zero, List.set_cons_succ, i64_w, i32_w]; rfl)
      refine pure_ (i := 8) (N := some 41) (v := ?_) (a' := ?_) (lsb 12 511) rfl rfl (by as_aux_lemma => kernel_rfl) (fun _ _ _ h => h) (Or.inl ⟨by rfl, ?_⟩) ?_ ?_; rotate_left; (intro w'; go_simp; with_reducible rfl); rotate_left; (simp only [Act.put, List.setIfInBounds_toArray, List.set_cons_zero, List.set_cons_succ, i64_w, i32_w]; rfl)
      refine pure_ (i := 9) (N := some 42) (v := ?_) (a' := ?_) (lsb 12 1023) rfl rfl (by as_aux_lemma => kernel_rfl) (fun _ _ _ h => h) (Or.inl ⟨by rfl, ?_⟩) ?_ ?_; rotate_left; (intro w'; go_simp; with_reducible rfl); rotate_left; (simp only [Act.put, List.setIfInBounds_toArray, List.set_cons_zero, List.set_cons_succ, i64_w, i32_w]; rfl)
      refine one_ (i := 10) (N := some 11) (lsb 12 2047) rfl rfl (by kernel_rfl) (by decide) (fun K hK => ?_)
      refine value_ (w1 := ?_) (v := ?_) (by rfl) rfl ?_ ?_
      rotate_left 2
      · go_simp
        constructor
        · rfl
        · rfl
      refine hK.out _ _ ((pw_cell_below (below_alloc (Below.refl _ _) (.cells #[.int .i64 0, .int .i64 0, .int .i64 0] 50)) (pc_get (blk_below HXQ.out HB_9.out) HPL.out hlt HPN.out))) (fun hHeld => ?_)
      clear hK K
      refine norm_ (a' := ?_) ?_ ?_
      rotate_left
      · show Act.put _ (some 11) _ = _
        simp only [Act.put, List.setIfInBounds_toArray, List.set_cons_zero, List.set_cons_succ, i64_w, i32_w]
        rfl
      refine last_ (i := 11) (N := none) (lsb 12 4095) rfl rfl (by kernel_rfl) (by decide) (fun K hK => ?_)
      obtain ⟨z0, z1, z2⟩ := three (blk_new w21 (.cells #[.int .i64 0, .int .i64 0, .int .i64 0] 50))
      have hfz := fun o => blk_frozen (blk_new w21 (.cells #[.int .i64 0, .int .i64 0, .int .i64 0] 50)) o
      refine skip_ (w1 := ?_) (by rfl) rfl ?_ ?_
      rotate_left
      · go_simp
        rfl
      clear z0 z1 z2 hfz
      refine hK.out _ _ ?_
      clear hK K
      refine done_ (by kernel_rfl) ?_
      
      have hz3 := blk_new w21 (.cells #[.int .i64 (q : Int), .int .i64 lo, .int .i64 cs] 50)
      have hb := below_alloc (Below.refl w21.heap.size w21) (.cells #[.int .i64 (q : Int), .int .i64 lo, .int .i64 cs] 50)
      clear hw1 hw2 hw3
      generalize (World.alloc w21 (.cells #[.int .i64 (q : Int), .int .i64 lo, .int .i64 cs] 50)) = w23 at hz3 hb ⊢
      obtain ⟨ob, hob⟩ : ∃ z, z = w21.heap.size := ⟨_, rfl⟩
      have HOWN := lhid (show ∀ j, j < 7 → ∀ k, (V j).ownBlock = some k → k < ob from fun j hj k e => by rw [hob]; exact own_lt (FM_7.out.row j hj) k e)
      have HSO := lhid (show sb < ob by rw [hob]; exact blk_lt V_8.out)
      have HOBS := lhid (show ob ≤ w23.heap.size by have h1 := blk_lt hz3; rw [hob]; omega)
      rw [← hob] at hz3 ⊢
      have HOB0 := lhid (show wq.heap.size ≤ ob by rw [hob]; exact HB_9.out.size)
      clear hob
      have FM_10 := lhid (FM_7.out.next hb)
      have V_11 := lhid (blk_below V_8.out hb)
      have HB_12 := lhid (below_then HB_9.out HB_9.out.size hb)
      clear FM_7 V_8 HB_9 hb
      have HOB := lhid hz3
      clear hz3
      go_upto_region 11 with (fail)
      try any_goals (exfalso; omega)
      have hlens := rows_len P n
      obtain ⟨Aq, cq, hvq⟩ := FM_10.out.sl (j := q) (by omega)
      have HVQ := lhid hvq
      have hb := below_drew1 (Below.refl w23.heap.size w23)
      have FM_13 := lhid (FM_10.out.next hb)
      have V_14 := lhid (blk_below V_11.out hb)
      have HB_15 := lhid (below_then HB_12.out HB_12.out.size hb)
      have OB_16 := lhid (blk_below HOB.out hb)
      clear FM_10 V_11 HB_12 HOB hb
      have hR := FM_13.out.row q (by omega)
      rw [HVQ.out] at hR
      have HRQ := lhid hR
      clear hR hvq
      refine start_ (n := 9) (S := fun w' => w'.cell? ⟨sb, q, none⟩ = some (.slice Aq (rowsI P n q).length cq) ∧ w'.cell? ⟨ob, 0, none⟩ = some (.int .i64 (q : Int)) ∧ w'.cell? ⟨ob, 1, none⟩ = some (.int .i64 lo) ∧ w'.cell? ⟨ob, 2, none⟩ = some (.int .i64 cs)) (ds := [6, 8]) (lsb 9 0) (by kernel_rfl) rfl (by kernel_rfl) ⟨(by rw [← HVQ.out]; exact (blk_cell V_14.out q).trans (VB_get V q (by omega))), (three OB_16.out).1, (three OB_16.out).2.1, (three OB_16.out).2.2⟩ (fun hHeld => ?_)
      generalize w23.drew = w24 at FM_13 V_14 HB_15 OB_16 hHeld ⊢
      have HRD := lhid (show Kd.R k50 50 w24 wq.heap.size _ (.slice Aq (rowsI P n q).length cq) (rowsI P n q) by have h1 := FM_13.out.row q (by omega); rwa [HVQ.out] at h1)
      refine pure_ (i := 0) (N := some 43) (v := ?_) (a' := ?_) (lsb 9 1) rfl rfl (by as_aux_lemma => kernel_rfl) (fun _ _ _ h => h) (Or.inl ⟨by rfl, ?_⟩) ?_ ?_; rotate_left; (intro w'; go_simp; with_reducible rfl); rotate_left; (simp only [Act.put, List.setIfInBounds_toArray, List.set_cons_zero, List.set_cons_succ, i64_w, i32_w]; rfl)
      refine pure_ (i := 1) (N := some 44) (v := ?_) (a' := ?_) (lsb 9 3) rfl rfl (by as_aux_lemma => kernel_rfl) (fun _ _ _ h => h) (Or.inl ⟨by rfl, ?_⟩) ?_ ?_; rotate_left; (intro w'; go_simp; with_reducible rfl); rotate_left; (simp only [Act.put, List.setIfInBounds_toArray, List.set_cons_zero, List.set_cons_succ, i64_w, i32_w]; rfl)
      refine pure_ (i := 2) (N := some 45) (v := ?_) (a' := ?_) (lsb 9 7) rfl rfl (by as_aux_lemma => kernel_rfl) (fun _ _ _ h => h) (Or.inl ⟨by rfl, ?_⟩) ?_ ?_; rotate_left; (intro w'; go_simp; with_reducible rfl); rotate_left; (simp only [Act.put, List.setIfInBounds_toArray, List.set_cons_zero, List.set_cons_succ, i64_w, i32_w]; rfl)
      refine take_ (i := 3) (N := some 46) (v := ?_) (a' := ?_) (lsb 9 15) rfl rfl (by as_aux_lemma => kernel_rfl) (fun _ _ _ h => h) (Or.inl ⟨by rfl, ?_⟩) hHeld ?_ ?_; rotate_left; (rintro w' ⟨s0, s1, s2, s3⟩; go_simp; with_reducible rfl); rotate_left; (simp only [Act.put, List.setIfInBounds_toArray, List.set_cons_zero, List.set_cons_succ, i64_w, i32_w]; rfl)
      refine take_ (i := 4) (N := some 47) (v := ?_) (a' := ?_) (lsb 9 31) rfl rfl (by as_aux_lemma => kernel_rfl) (fun _ _ _ h => h) (Or.inl ⟨by rfl, ?_⟩) hHeld ?_ ?_; rotate_left; (rintro w' ⟨s0, s1, s2, s3⟩; go_simp; with_reducible rfl); rotate_left; (simp only [Act.put, List.setIfInBounds_toArray, List.set_cons_zero, List.set_cons_succ, i64_w, i32_w]; rfl)
      refine one_ (i := 5) (N := some 48) (lsb 9 63) rfl rfl (by kernel_rfl) (by decide) (fun K hK => ?_)
      refine value_ (w1 := ?_) (v := ?_) (by rfl) rfl ?_ ?_
      rotate_left 2
      · go_simp
        constructor
        · rfl
        · rfl
      refine hK.out _ _ ⟨(pw_cell_below (below_alloc (Below.refl _ _) _) (by rw [← HVQ.out]; exact (blk_cell V_14.out q).trans (VB_get V q (by omega)))), (pw_cell_below (below_alloc (Below.refl _ _) _) (three OB_16.out).1), (pw_cell_below (below_alloc (Below.refl _ _) _) (three OB_16.out).2.1), (pw_cell_below (below_alloc (Below.refl _ _) _) (three OB_16.out).2.2)⟩ (fun hHeld => ?_)
      clear hK K
      refine norm_ (a' := ?_) ?_ ?_
      rotate_left
      · show Act.put _ (some 48) _ = _
        simp only [Act.put, List.setIfInBounds_toArray, List.set_cons_zero, List.set_cons_succ, i64_w, i32_w]
        rfl
      refine last_ (i := 6) (N := some 49) (lsb 9 127) rfl rfl (by kernel_rfl) (by decide) (fun K hK => ?_)
      refine Kd.R_append_step k50 (w0 := wq) wq.heap.size (by rfl) (.tmp 46) (.tmp 48) 22 50 (.agg #[(.int .i64 0), (.int .i64 0), (.int .i64 0)]) 24 rfl Try.underlying22 info50 rfl (by decide) (by omega) (.slice Aq (rowsI P n q).length cq) (rowsI P n q) (⟨(q : Int), lo, cs⟩ : S50) [.int .i64 (q : Int), .int .i64 lo, .int .i64 cs] (fun k => ∀ i, i < 7 → i ≠ q → some k ≠ (V i).ownBlock) (fun _ => False) rfl rfl ?aP (fun _ hk => hk.elim) ?aF ?aO ?aB ?aS ?aL ?_
      (case aP => exact k50_mkM _ _ _ (⟨(q : Int), lo, cs⟩ : S50))
      (case aF => exact fun k hk i hi hne e => by have h1 := HOWN.out i hi k e.symm; have h2 := blk_lt OB_16.out; (try simp at hk); omega)
      (case aO => exact HRD.out)
      (case aB => exact HB_15.out)
      (case aS => exact HB_15.out.size)
      (case aL => have := hlens q; omega)
      intro v4 w4 ho4 hb4 hg4 hat4
      obtain ⟨A4, c4, hv4⟩ := Kd.R_slice ho4
      rw [show (rowsI P n q ++ [(⟨(q : Int), lo, cs⟩ : S50)]).length = (rowsI P n q).length + 1 by simp] at hv4
      subst hv4
      have FM4 := lhid (Fam.grow FM_13.out (j := q) (by omega) ho4 (by rw [HVQ.out]; exact hg4) (by rw [HVQ.out]; exact hat4))
      have V4 := lhid (blk_grown V_14.out hg4 (Kd.R_ne HRD.out V_14.out (by decide)))
      have OB4 := lhid (blk_grown OB_16.out hg4 (fun e => by have h1 := HOWN.out q (by omega) ob (by rw [HVQ.out]; exact e.symm); omega))
      have HB4 := lhid hb4
      clear ho4 hb4 hg4 hat4
      refine hK.out _ _ ?_
      clear hK K
      refine norm_ (a' := ?_) ?_ ?_
      rotate_left
      · show Act.put _ (some 49) _ = _
        simp only [Act.put, List.setIfInBounds_toArray, List.set_cons_zero, List.set_cons_succ, i64_w, i32_w]
        rfl
      refine pure_ (i := 7) (N := some 50) (v := ?_) (a' := ?_) (lsb 9 255) rfl rfl (by as_aux_lemma => kernel_rfl) (fun _ _ _ h => h) (Or.inl ⟨by rfl, ?_⟩) ?_ ?_; rotate_left; (intro w'; go_simp; with_reducible rfl); rotate_left; (simp only [Act.put, List.setIfInBounds_toArray, List.set_cons_zero, List.set_cons_succ, i64_w, i32_w]; rfl)
      refine last_ (i := 8) (N := none) (lsb 9 511) rfl rfl (by kernel_rfl) (by decide) (fun K hK => ?_)
      have hk2 := (blk_cell V4.out q).trans (VB_get V q (by omega))
      have hf2 := blk_frozen V4.out q
      refine skip_ (w1 := ?_) (by rfl) rfl ?_ ?_
      rotate_left
      · go_simp
        rfl
      clear hk2 hf2
      refine hK.out _ _ ?_
      clear hK K
      refine done_ (by kernel_rfl) ?_
      
      have V6 := lhid (show (w4.setCell ⟨sb, q, none⟩ (.slice A4 ((rowsI P n q).length + 1) c4)).heap[sb]? = some (.cells (VB (upd V q (.slice A4 ((rowsI P n q).length + 1) c4))) 76) from blk_put V4.out q _ (VB_set V q (by omega) _))
      have FM6 := lhid (Fam.put FM4.out V4.out (by decide) q (.slice A4 ((rowsI P n q).length + 1) c4))
      have OB6 := lhid (blk_far OB4.out (p := ⟨sb, q, none⟩) (by have h1 := HSO.out; show ob ≠ sb; omega) (.slice A4 ((rowsI P n q).length + 1) c4))
      have HB6 := lhid (HB4.out.setCell (p := ⟨sb, q, none⟩) (by have h1 := HSB.out; show wq.heap.size ≤ sb; omega) (.slice A4 ((rowsI P n q).length + 1) c4))
      generalize World.setCell w4 ⟨sb, q, none⟩ (.slice A4 ((rowsI P n q).length + 1) c4) = w6 at V6 FM6 OB6 HB6 ⊢
      obtain ⟨V1, hV1⟩ : ∃ z, z = upd V q (.slice A4 ((rowsI P n q).length + 1) c4) := ⟨_, rfl⟩
      rw [← hV1] at V6 FM6
      obtain ⟨A6, c6, h66⟩ := FM6.out.sl (j := 6) (by omega)
      have hv6 : V1 6 = V 6 := by rw [hV1]; exact upd_ne _ _ (by omega)
      rw [← hv6]
      have hl6 : (upd (rowsI P n) q (rowsI P n q ++ [(⟨(q : Int), lo, cs⟩ : S50)])) 6 = rowsI P n 6 := upd_ne _ _ (by omega)
      rw [hl6] at h66
      have HL6 := lhid hl6
      have H66 := lhid h66
      rw [h66]
      clear hV1 hv6 h66 hl6
      have hll := hlens 6
      clear hlens
      by_cases hq2 : q < 4
      · have hq3 : decide ((q : Int) < 4) = true := decide_eq_true (by omega)
        obtain ⟨o0, o1, o2⟩ := three OB6.out
        have hR6 := FM6.out.row 6 (by omega)
        rw [H66.out, HL6.out] at hR6
        have HR6 := lhid hR6
        clear hR6
        go_wp2_with (first | ((with_reducible refine gate_builtin (b := .append) (xs := #[.tmp 53, .tmp 55]) rfl ?_); at_builtin; refine Kd.R_append k50 (w0 := wq) wq.heap.size rfl (.tmp 53) (.tmp 55) 22 50 (.agg #[(.int .i64 0), (.int .i64 0), (.int .i64 0)]) 24 rfl Try.underlying22 info50 rfl (by decide) (by omega) (.slice A6 (rowsI P n 6).length c6) (rowsI P n 6) (⟨(q : Int), lo, cs⟩ : S50) [.int .i64 (q : Int), .int .i64 lo, .int .i64 cs] (fun k => ∀ i, i < 7 → i ≠ 6 → some k ≠ (V1 i).ownBlock) (fun _ => False) rfl rfl ?aP (fun _ hk => hk.elim) ?aF ?aO ?aB ?aS ?aL ?_; (case aP => exact k50_mkM _ _ _ (⟨(q : Int), lo, cs⟩ : S50)); (case aF => exact fun k hk i hi hne e => by have h1 := own_lt (FM6.out.row i hi) k e.symm; omega); (case aO => exact HR6.out); (case aB => exact HB6.out); (case aS => exact HB6.out.size); (case aL => omega); intro v8 w8 ho8 hb8 hg8 hat8; have FM8 := lhid (Fam.grow FM6.out (j := 6) (by omega) ho8 (by rw [H66.out]; exact hg8) (by rw [H66.out]; exact hat8)); have V8 := lhid (blk_grown V6.out hg8 (Kd.R_ne HR6.out V6.out (by decide))); have HB8 := lhid hb8; clear ho8 hb8 hg8 hat8))
        try any_goals (exfalso; omega)
        go_roundw
        case rel => exact ⟨n + 1, by omega, by simp, _, (upd_at V1 6 v8).symm, lhid (by rw [show rowsI P (n + 1) = _ from rows_lo (by rw [← HQ.out]; exact hq2), ← HQ.out, ← HY.out]; exact FM8.out), lhid (by rw [VB_six]; exact V8.out), HB8⟩
        case measure => simp [intOf]; omega
      · have hq3 : decide ((q : Int) < 4) = false := decide_eq_false (by omega)
        go_wp2_with fail
        try any_goals (exfalso; omega)
        go_roundw
        case rel => exact ⟨n + 1, by omega, by simp, V1, H66.out.symm, lhid (by rw [show rowsI P (n + 1) = _ from rows_hi (by rw [← HQ.out]; exact hq2), ← HQ.out, ← HY.out]; exact FM6.out), V6, HB6⟩
        case measure => simp [intOf]; omega
    have hne : n = 17 := by omega
    subst hne
    obtain ⟨R, hR⟩ : ∃ z, z = rowsI P 17 := ⟨_, rfl⟩
    rw [← hR] at FMr
    have HR4 := lhid (show ∀ b, b < 4 → (R b).length = 4 by rw [hR]; exact rows_4)
    have HR6 := lhid (show ∀ b, b < 6 → (R b).length ≤ 4 by rw [hR]; exact fun b h => len4 h)
    have HR41 := lhid (show (R 4).length = 1 by rw [hR, rows4]; rfl)
    have HR5 := lhid (show R 5 = [] by rw [hR]; exact rows5 P)
    have HAN := lhid (show ∀ b : Nat, b < 5 → (R b).any (badO 12 (b : Int)) = false by rw [hR]; exact fun b h => any_of HPL.out HPR.out h)
    have HRA := lhid (show R 0 ++ (R 1 ++ (R 2 ++ (R 3 ++ R 5))) = R 6 by rw [hR]; exact rows_all)
    have HRV := lhid (show Vld 12 (R 6) by rw [hR]; exact vld_all HPL.out HPR.out)
    have HRL := lhid (show (R 6).length ≤ 17 by rw [hR]; exact rows_len P 17 6)
    clear hR hlt hn
    have HTS := lhid (show t < wq.heap.size ∧ w.heap.size ≤ t ∧ sb = wq.heap.size from ⟨HTQ.out.lt, by have h1 := HTT.out; omega, HSB.out⟩)
    have HBW := lhid (below_then HBQ.out HBQ.out.size HBr.out)
    have HTr := lhid (show TN t (fun _ => False) wr t 12 0 (hs6 a1 R 0) from HTQ.out.next HBr.out)
    have hs0 : 0 ≤ a1 := HA1.out.1
    have hs1 : a1 < 256 := HA1.out.2
    have hcv : IntKind.u64.wrap a1 = a1 := by rw [IntKind.wrap_u64]; omega
    clear HBr HTQ HBQ HXQ
    go_upto_region 15 with (fail)
    try any_goals (exfalso; omega)
    go_loopw [12] (fun i wr => ∃ b : Nat, b ≤ 6 ∧ i = .int .i64 b ∧ Hid (TN t (fun _ => False) wr t 12 0 (hs6 a1 R b)) ∧ Hid (Fam wr wq.heap.size 7 V R) ∧ Hid (wr.heap[sb]? = some (.cells (VB V) 76)) ∧ Hid (Below w.heap.size w wr)) (fun i _ => 6 - (intOf i).toNat)
    case atStart => exact ⟨0, by omega, rfl, HTr, FMr, Vr, HBW⟩
    case round =>
      clear HBW HTr FMr Vr
      obtain ⟨b, hb6, rfl, HTr, FMr, Vr, HBr⟩ := hrel
      by_cases hlt : b < 6
      · have hlt2 : (b : Int) < 6 := by omega
        have hb0 : (0 : Int) ≤ (b : Int) := by omega
        obtain ⟨Ab, cb, hvb⟩ := FMr.out.sl (j := b) (by omega)
        have hcb := (blk_cell Vr.out b).trans (VB_get V b (by omega))
        rw [hvb] at hcb
        have HRB := lhid (show Kd.R k50 50 wr wq.heap.size _ (.slice Ab (R b).length cb) (R b) by have h1 := FMr.out.row b (by omega); rwa [hvb] at h1)
        have HCB := lhid (R_C HRB.out)
        have HCC := lhid (Kd.R_reads' HRB.out).2.1
        clear hvb
        go_wp2_with fail
        try any_goals (exfalso; omega)
        have hse := tender_Seal.calls Ab cb (R b) a1 (sealAll (R b) a1) wr HCB.out HCC.out (by unfold tender_Seal.f; rw [if_pos (by omega)])
        with_reducible refine hse.mono ?_
        rintro e w130 ⟨rfl, hb⟩
        clear hse hcb HRB HCB HCC
        have HB_17 := lhid (below_then HBr.out HBr.out.size hb)
        have HT_18 := lhid (HTr.out.next hb)
        have FM_19 := lhid (FMr.out.next hb)
        have V_20 := lhid (blk_below Vr.out hb)
        clear HBr HTr FMr Vr hb
        go_wp2_with fail
        try any_goals (exfalso; omega)
        have hsu := Submit_t t t (fun _ => False) w130 12 0 (hs6 a1 R b) (b : Int) (sealAll (R b) a1) HT_18.out
        rw [sub_ok (st := 0) (by omega), sub_at (by omega)] at hsu
        with_reducible refine hsu.mono ?_
        rintro e w140 ⟨rfl, ht, hch⟩
        clear hsu
        have HBc1 := lhid (HB_17.out.trans (hch.below HB_17.out.size (fun k q => by rw [q]; exact HTS.out.2.1)))
        have FMc1 := lhid (FM_19.out.far hch (fun k h1 h2 q => by have h3 := HTS.out; have h4 : k = t := q; omega))
        have Vc1 := lhid (hch.blk V_20.out (fun q => by have h3 := HTS.out; have h4 : sb = t := q; omega))
        have HTc1 := lhid (ht)
        clear hch HB_17 HT_18 FM_19 V_20
        clear ht
        go_wp2_with fail
        try any_goals (exfalso; omega)
        go_roundw
        case rel => ((repeat apply Exists.intro); refine ⟨?_, rfl⟩; exact ⟨b + 1, by omega, by simp, HTc1, FMc1, Vc1, HBc1⟩)
        case measure => simp [intOf]; omega
      have hbe : b = 6 := by omega
      subst hbe
      clear hlt hb6
      go_wp2_with fail
      try any_goals (exfalso; omega)
      have hsh := Shut_t t t (fun _ => False) wr 12 0 (hs6 a1 R 6) HTr.out
      rw [show inC 12 0 0 = 0 by decide, show shutS 12 0 = 1 by decide] at hsh
      with_reducible refine hsh.mono ?_
      rintro e w150 ⟨rfl, ht, hch⟩
      clear hsh
      have HBc2 := lhid (HBr.out.trans (hch.below HBr.out.size (fun k q => by rw [q]; exact HTS.out.2.1)))
      have FMc2 := lhid (FMr.out.far hch (fun k h1 h2 q => by have h3 := HTS.out; have h4 : k = t := q; omega))
      have Vc2 := lhid (hch.blk Vr.out (fun q => by have h3 := HTS.out; have h4 : sb = t := q; omega))
      have HTc2 := lhid (ht)
      clear hch HBr HTr FMr Vr
      clear ht
      go_upto_region 22 with (fail)
      try any_goals (exfalso; omega)
      go_loopw [13] (fun i wr => ∃ b : Nat, b ≤ 4 ∧ i = .int .i64 b ∧ ∃ (vs : Nat → Value) (F : Nat → Prop), Hid (TN t F wr t 12 1 (hsh a1 R vs b)) ∧ Hid (∀ k, F k → k < wr.heap.size) ∧ Hid (Fam wr wq.heap.size 7 V R) ∧ Hid (wr.heap[sb]? = some (.cells (VB V) 76)) ∧ Hid (Below w.heap.size w wr)) (fun i _ => 4 - (intOf i).toNat)
      case atStart => exact ⟨0, by omega, rfl, fun _ => .bool false, fun _ => False, HTc2, lhid (fun k q => q.elim), FMc2, Vc2, HBc2⟩
      case round =>
        clear HBc2 HTc2 FMc2 Vc2
        obtain ⟨b, hb4, rfl, vs, F, HTr, HFr, FMr, Vr, HBr⟩ := hrel
        by_cases hlt : b < 4
        · have hlt2 : (b : Int) < 4 := by omega
          have hb0 : (0 : Int) ≤ (b : Int) := by omega
          have hb62 : (b : Int) < 6 := by omega
          have HSC := lhid (show_lo (s := a1) (R := R) vs hlt HR4.out (HAN.out b (by omega)))
          obtain ⟨Ab, cb, hvb⟩ := FMr.out.sl (j := b) (by omega)
          have hcb := (blk_cell Vr.out b).trans (VB_get V b (by omega))
          rw [hvb] at hcb
          have HRB := lhid (show Kd.R k50 50 wr wq.heap.size _ (.slice Ab (R b).length cb) (R b) by have h1 := FMr.out.row b (by omega); rwa [hvb] at h1)
          have HCB := lhid (R_C HRB.out)
          have HCC := lhid (Kd.R_reads' HRB.out).2.1
          clear hvb
          go_wp2_with fail
          try any_goals (exfalso; omega)
          have hsw := Show_t t t F wr 12 1 (hsh a1 R vs b) (b : Int) Ab cb (R b) a1 HTr.out (few_h vs HR6.out b (by omega)) (Nat.le_of_lt HTr.out.lt) (by decide) (by decide) HCB.out HCC.out ⟨by omega, by omega⟩
          rw [HSC.out] at hsw
          with_reducible refine hsw.mono ?_
          rintro e w170 ⟨F', v, hF, rfl, ht, hch⟩
          clear hsw hcb HRB HCB HCC
          rw [lo_set vs hlt v HSC.out] at ht
          have HF1 := lhid (show ∀ k, F' k → k < w170.heap.size from fun k q => (hF k q).elim (fun z => Nat.lt_of_lt_of_le (HFr.out k z) hch.size) (fun z => z.2))
          clear hF
          have HBc3 := lhid (HBr.out.trans (hch.below HBr.out.size (fun k q => by rw [q]; exact HTS.out.2.1)))
          have FMc3 := lhid (FMr.out.far hch (fun k h1 h2 q => by have h3 := HTS.out; have h4 : k = t := q; omega))
          have Vc3 := lhid (hch.blk Vr.out (fun q => by have h3 := HTS.out; have h4 : sb = t := q; omega))
          have HTc3 := lhid (ht)
          clear hch HBr HTr FMr Vr
          clear ht
          go_wp2_with fail
          try any_goals (exfalso; omega)
          go_roundw
          case rel => first | exact ⟨b + 1, by omega, by simp, upd vs b v, F', HTc3, HF1, FMc3, Vc3, HBc3⟩ | ((repeat apply Exists.intro); refine ⟨?_, rfl⟩; exact ⟨b + 1, by omega, by simp, upd vs b v, F', HTc3, HF1, FMc3, Vc3, HBc3⟩)
          case measure => simp [intOf]; omega
        have hbe : b = 4 := by omega
        subst hbe
        clear hlt hb4
        have HS4 := lhid (show_f4 (s := a1) (R := R) vs HR4.out HR41.out (HAN.out 4 (by omega)))
        have HS5 := lhid (show_5 (s := a1) (R := R) vs HR4.out HR5.out)
        obtain ⟨Ab, cb, hvb⟩ := FMr.out.sl (j := 4) (by omega)
        have hcb := (blk_cell Vr.out 4).trans (VB_get V 4 (by omega))
        rw [hvb] at hcb
        have HRB := lhid (show Kd.R k50 50 wr wq.heap.size _ (.slice Ab (R 4).length cb) (R 4) by have h1 := FMr.out.row 4 (by omega); rwa [hvb] at h1)
        have HCB := lhid (R_C HRB.out)
        have HCC := lhid (Kd.R_reads' HRB.out).2.1
        clear hvb
        go_wp2_with fail
        try any_goals (exfalso; omega)
        have hsw := Show_t t t F wr 12 1 (hsh a1 R vs 4) 4 Ab cb (R 4) a1 HTr.out (few_h vs HR6.out 4 (by omega)) (Nat.le_of_lt HTr.out.lt) (by decide) (by decide) HCB.out HCC.out ⟨by omega, by omega⟩
        rw [HS4.out] at hsw
        with_reducible refine hsw.mono ?_
        rintro e w200 ⟨F2, v2, hF, rfl, ht, hch⟩
        clear hsw hcb HRB HCB HCC
        rw [showH_no (by rw [HS4.out]; decide)] at ht
        have HF2 := lhid (show ∀ k, F2 k → k < w200.heap.size from fun k q => (hF k q).elim (fun z => Nat.lt_of_lt_of_le (HFr.out k z) hch.size) (fun z => z.2))
        clear hF
        have HBc4 := lhid (HBr.out.trans (hch.below HBr.out.size (fun k q => by rw [q]; exact HTS.out.2.1)))
        have FMc4 := lhid (FMr.out.far hch (fun k h1 h2 q => by have h3 := HTS.out; have h4 : k = t := q; omega))
        have Vc4 := lhid (hch.blk Vr.out (fun q => by have h3 := HTS.out; have h4 : sb = t := q; omega))
        have HTc4 := lhid (ht)
        clear hch HBr HTr FMr Vr
        clear ht HFr
        go_wp2_with fail
        try any_goals (exfalso; omega)
        have hst := State_t t t F2 w200 12 1 (hsh a1 R vs 4) HTc4.out
        rw [show stS 12 1 = 1 by decide] at hst
        with_reducible refine hst.mono ?_
        rintro e w' ⟨rfl, rfl⟩
        clear hst
        go_wp2_with fail
        try any_goals (exfalso; omega)
        have hmi := Missing_t t t F2 w200 12 1 (hsh a1 R vs 4) HTc4.out
        rw [mis4] at hmi
        with_reducible refine hmi.mono ?_
        rintro e w401 ⟨vm, rfl, hR, hb⟩
        obtain ⟨Am, cm, rfl⟩ := Kd.R_slice hR
        have HM := lhid hR
        clear hmi hR
        have HB_21 := lhid (below_then HBc4.out HBc4.out.size hb)
        have HT_22 := lhid (HTc4.out.next hb)
        have FM_23 := lhid (FMc4.out.next hb)
        have V_24 := lhid (blk_below Vc4.out hb)
        have HF2_25 := lhid (fun k q => Nat.lt_of_lt_of_le (HF2.out k q) hb.size)
        clear HBc4 HTc4 FMc4 Vc4 HF2 hb
        go_wp2_with (first | ((with_reducible refine gate_dst (N := 102) rfl ?_); refine gate_guard (by rfl) ?_; refine Kd.R_lit (Kd.int .i64) _ 3 ?hg (N := 102) ?hd (xs := ([4, 5] : List Int)) (inner := [.int .i64 4, .int .i64 5]) (ok := fun _ => True) (okp := fun _ => True) ?hr ?hp (fun _ hk => hk) trivial (Below.refl _ _) (Nat.le_refl _) (by simp) ?_; (case hd => rfl); (case hg => rfl); (case hr => first | (go_simp; done) | (go_simp; rfl)); (case hp => exact (Reps.one (show Kd.M (Kd.int .i64) _ _ _ 4 [.int .i64 4] from rfl) (Reps.one (show Kd.M (Kd.int .i64) _ _ _ 5 [.int .i64 5] from rfl) (Reps.none _ _)))); intro v9 w9 ho8 hb hg_ hnew_; clear hg_ hnew_; obtain ⟨A9, c9, rfl⟩ := Kd.R_slice ho8; have HL9 := lhid ho8; have HB9 := lhid hb; clear ho8 hb))
        have HB_26 := lhid (below_then HB_21.out HB_21.out.size HB9.out)
        have HT_27 := lhid (HT_22.out.next HB9.out)
        have FM_28 := lhid (FM_23.out.next HB9.out)
        have V_29 := lhid (blk_below V_24.out HB9.out)
        have HF2_30 := lhid (fun k q => Nat.lt_of_lt_of_le (HF2_25.out k q) HB9.out.size)
        have M_31 := lhid (Kd.R_below HM.out HB9.out)
        clear HB_21 HT_22 FM_23 V_24 HF2_25 HM
        have hsa := same_eq w9 Am A9 cm c9 [4, 5] (by simp) (R_Ci M_31.out) (Kd.R_reads' M_31.out).2.1 (R_Ci HL9.out) (Kd.R_reads' HL9.out).2.1
        rw [show ([4, 5] : List Int).length = 2 from rfl] at hsa
        with_reducible refine hsa.mono ?_
        rintro e w402 ⟨rfl, hb⟩
        clear hsa
        have HB_32 := lhid (below_then HB_26.out HB_26.out.size hb)
        have HT_33 := lhid (HT_27.out.next hb)
        have FM_34 := lhid (FM_28.out.next hb)
        have V_35 := lhid (blk_below V_29.out hb)
        have HF2_36 := lhid (fun k q => Nat.lt_of_lt_of_le (HF2_30.out k q) hb.size)
        have M_37 := lhid (Kd.R_below M_31.out hb)
        have L_38 := lhid (Kd.R_below HL9.out hb)
        clear HB_26 HT_27 FM_28 V_29 HF2_30 M_31 HL9 hb
        clear M_37 L_38
        obtain ⟨Ab, cb, hvb⟩ := FM_34.out.sl (j := 5) (by omega)
        have hcb := (blk_cell V_35.out 5).trans (VB_get V 5 (by omega))
        rw [hvb] at hcb
        have HRB := lhid (show Kd.R k50 50 w402 wq.heap.size _ (.slice Ab (R 5).length cb) (R 5) by have h1 := FM_34.out.row 5 (by omega); rwa [hvb] at h1)
        have HCB := lhid (R_C HRB.out)
        have HCC := lhid (Kd.R_reads' HRB.out).2.1
        clear hvb
        go_wp2_with fail
        try any_goals (exfalso; omega)
        have hsw := Show_t t t F2 w402 12 1 (hsh a1 R vs 4) 5 Ab cb (R 5) a1 HT_33.out (few_h vs HR6.out 4 (by omega)) (Nat.le_of_lt HT_33.out.lt) (by decide) (by decide) HCB.out HCC.out ⟨by omega, by omega⟩
        rw [HS5.out] at hsw
        with_reducible refine hsw.mono ?_
        rintro e w400 ⟨F3, v3, hF, rfl, ht, hch⟩
        clear hsw hcb HRB HCB HCC
        rw [h5_set vs v3 HS5.out] at ht
        have HF3 := lhid (show ∀ k, F3 k → k < w400.heap.size from fun k q => (hF k q).elim (fun z => Nat.lt_of_lt_of_le (HF2_36.out k z) hch.size) (fun z => z.2))
        clear hF
        have HBc5 := lhid (HB_32.out.trans (hch.below HB_32.out.size (fun k q => by rw [q]; exact HTS.out.2.1)))
        have FMc5 := lhid (FM_34.out.far hch (fun k h1 h2 q => by have h3 := HTS.out; have h4 : k = t := q; omega))
        have Vc5 := lhid (hch.blk V_35.out (fun q => by have h3 := HTS.out; have h4 : sb = t := q; omega))
        have HTc5 := lhid (ht)
        clear hch HB_32 HT_33 FM_34 V_35
        clear ht
        have HS6 := lhid (show_f5 (s := a1) (R := R) vs v3 HR4.out HR41.out (HAN.out 4 (by omega)))
        obtain ⟨Ab, cb, hvb⟩ := FMc5.out.sl (j := 4) (by omega)
        have hcb := (blk_cell Vc5.out 4).trans (VB_get V 4 (by omega))
        rw [hvb] at hcb
        have HRB := lhid (show Kd.R k50 50 w400 wq.heap.size _ (.slice Ab (R 4).length cb) (R 4) by have h1 := FMc5.out.row 4 (by omega); rwa [hvb] at h1)
        have HCB := lhid (R_C HRB.out)
        have HCC := lhid (Kd.R_reads' HRB.out).2.1
        clear hvb
        go_wp2_with fail
        try any_goals (exfalso; omega)
        have hsw := Show_t t t F3 w400 12 1 (h5 a1 R vs v3) 4 Ab cb (R 4) a1 HTc5.out (few_5 vs v3 HR6.out) (Nat.le_of_lt HTc5.out.lt) (by decide) (by decide) HCB.out HCC.out ⟨by omega, by omega⟩
        rw [HS6.out] at hsw
        with_reducible refine hsw.mono ?_
        rintro e w410 ⟨F4, v4, hF, rfl, ht, hch⟩
        clear hsw hcb HRB HCB HCC
        rw [showH_no (by rw [HS6.out]; decide)] at ht
        have HF4 := lhid (show ∀ k, F4 k → k < w410.heap.size from fun k q => (hF k q).elim (fun z => Nat.lt_of_lt_of_le (HF3.out k z) hch.size) (fun z => z.2))
        clear hF
        have HBc6 := lhid (HBc5.out.trans (hch.below HBc5.out.size (fun k q => by rw [q]; exact HTS.out.2.1)))
        have FMc6 := lhid (FMc5.out.far hch (fun k h1 h2 q => by have h3 := HTS.out; have h4 : k = t := q; omega))
        have Vc6 := lhid (hch.blk Vc5.out (fun q => by have h3 := HTS.out; have h4 : sb = t := q; omega))
        have HTc6 := lhid (ht)
        clear hch HBc5 HTc5 FMc5 Vc5
        clear ht
        go_wp2_with fail
        try any_goals (exfalso; omega)
        have hmi := Missing_t t t F4 w410 12 1 (h5 a1 R vs v3) HTc6.out
        rw [mis5] at hmi
        with_reducible refine hmi.mono ?_
        rintro e w611 ⟨vm, rfl, hR, hb⟩
        obtain ⟨Am, cm, rfl⟩ := Kd.R_slice hR
        have HM := lhid hR
        clear hmi hR
        have HB_39 := lhid (below_then HBc6.out HBc6.out.size hb)
        have HT_40 := lhid (HTc6.out.next hb)
        have FM_41 := lhid (FMc6.out.next hb)
        have V_42 := lhid (blk_below Vc6.out hb)
        have HF4_43 := lhid (fun k q => Nat.lt_of_lt_of_le (HF4.out k q) hb.size)
        clear HBc6 HTc6 FMc6 Vc6 HF4 hb
        go_wp2_with (first | ((with_reducible refine gate_dst (N := 125) rfl ?_); refine gate_guard (by rfl) ?_; refine Kd.R_lit (Kd.int .i64) _ 3 ?hg (N := 125) ?hd (xs := ([4] : List Int)) (inner := [.int .i64 4]) (ok := fun _ => True) (okp := fun _ => True) ?hr ?hp (fun _ hk => hk) trivial (Below.refl _ _) (Nat.le_refl _) (by simp) ?_; (case hd => rfl); (case hg => rfl); (case hr => first | (go_simp; done) | (go_simp; rfl)); (case hp => exact (Reps.one (show Kd.M (Kd.int .i64) _ _ _ 4 [.int .i64 4] from rfl) (Reps.none _ _))); intro v9 w9 ho8 hb hg_ hnew_; clear hg_ hnew_; obtain ⟨A9, c9, rfl⟩ := Kd.R_slice ho8; have HL9 := lhid ho8; have HB9 := lhid hb; clear ho8 hb))
        have HB_44 := lhid (below_then HB_39.out HB_39.out.size HB9.out)
        have HT_45 := lhid (HT_40.out.next HB9.out)
        have FM_46 := lhid (FM_41.out.next HB9.out)
        have V_47 := lhid (blk_below V_42.out HB9.out)
        have HF4_48 := lhid (fun k q => Nat.lt_of_lt_of_le (HF4_43.out k q) HB9.out.size)
        have M_49 := lhid (Kd.R_below HM.out HB9.out)
        clear HB_39 HT_40 FM_41 V_42 HF4_43 HM
        have hsa := same_eq w9 Am A9 cm c9 [4] (by simp) (R_Ci M_49.out) (Kd.R_reads' M_49.out).2.1 (R_Ci HL9.out) (Kd.R_reads' HL9.out).2.1
        rw [show ([4] : List Int).length = 1 from rfl] at hsa
        with_reducible refine hsa.mono ?_
        rintro e w612 ⟨rfl, hb⟩
        clear hsa
        have HB_50 := lhid (below_then HB_44.out HB_44.out.size hb)
        have HT_51 := lhid (HT_45.out.next hb)
        have FM_52 := lhid (FM_46.out.next hb)
        have V_53 := lhid (blk_below V_47.out hb)
        have HF4_54 := lhid (fun k q => Nat.lt_of_lt_of_le (HF4_48.out k q) hb.size)
        have M_55 := lhid (Kd.R_below M_49.out hb)
        have L_56 := lhid (Kd.R_below HL9.out hb)
        clear HB_44 HT_45 FM_46 V_47 HF4_48 M_49 HL9 hb
        clear M_55 L_56
        obtain ⟨kd, r1, r2, r3, r4, hdec⟩ := dec_ok HRV.out
        have HDEC := lhid (show tender_Decide.f kd 12 ((h5 a1 R vs v3).flatMap (·.off)) = some (r1, r2, r3, r4) by rw [flat5, HRA.out]; exact hdec)
        clear hdec
        go_wp2_with fail
        try any_goals (exfalso; omega)
        have hcl := Close_t t t F4 w612 12 1 (h5 a1 R vs v3) kd r1 r2 r3 r4 HT_51.out (few_5 vs v3 HR6.out) (by decide) (fun q => Nat.lt_irrefl _ (HF4_54.out _ q)) HDEC.out
        rw [flat5, HRA.out, show clS 12 1 = 2 by decide] at hcl
        with_reducible refine hcl.mono ?_
        rintro e w500 ⟨vo, v0, v1, rfl, hO, hP0, hP1, ht, hch⟩
        clear hcl
        obtain ⟨Ao, co, rfl⟩ := Kd.R_slice hO
        obtain ⟨A0, c0, rfl⟩ := Kd.R_slice hP0
        obtain ⟨A1, c1, rfl⟩ := Kd.R_slice hP1
        have HO := lhid hO
        clear hP0 hP1 hO
        have HBc7 := lhid (HB_50.out.trans (hch.below HB_50.out.size (fun k q => by rw [q]; exact HTS.out.2.1)))
        have FMc7 := lhid (FM_52.out.far hch (fun k h1 h2 q => by have h3 := HTS.out; have h4 : k = t := q; omega))
        have Vc7 := lhid (hch.blk V_53.out (fun q => by have h3 := HTS.out; have h4 : sb = t := q; omega))
        have HTc7 := lhid (ht)
        clear hch HB_50 HT_51 FM_52 V_53
        clear ht
        go_upto_region 31 with (fail)
        have hb := below_alloc (Below.refl w500.heap.size w500) (.cells #[.slice A0 r1.length c0, .slice A1 r2.length c1, .int .i64 r3] 44)
        have hn := blk_new w500 (.cells #[.slice A0 r1.length c0, .slice A1 r2.length c1, .int .i64 r3] 44)
        have HZ501 := lhid (show (World.alloc w500 (.cells #[.slice A0 r1.length c0, .slice A1 r2.length c1, .int .i64 r3] 44)).heap.size = w500.heap.size + 1 from by simp)
        generalize hq : World.alloc w500 (.cells #[.slice A0 r1.length c0, .slice A1 r2.length c1, .int .i64 r3] 44) = w501 at hb hn HZ501 ⊢
        clear hq
        have HB_57 := lhid (below_then HBc7.out HBc7.out.size hb)
        have HT_58 := lhid (HTc7.out.next hb)
        have FM_59 := lhid (FMc7.out.next hb)
        have V_60 := lhid (blk_below Vc7.out hb)
        have O_61 := lhid (Kd.R_below HO.out hb)
        clear HBc7 HTc7 FMc7 Vc7 HO hb
        clear hn
        obtain ⟨A6, c6, h66⟩ := FM_59.out.sl (j := 6) (by omega)
        have hR6 := FM_59.out.row 6 (by omega)
        rw [h66] at hR6 ⊢
        have HRS := lhid hR6
        clear h66 hR6
        go_wp2_with fail
        try any_goals (exfalso; omega)
        have hof := offers_eq w501 Ao A6 co c6 (R 6) (by have h1 := HRL.out; omega) (R_C O_61.out) (Kd.R_reads' O_61.out).2.1 (R_C HRS.out) (Kd.R_reads' HRS.out).2.1
        with_reducible refine hof.mono ?_
        rintro e w520 ⟨rfl, hb⟩
        clear hof
        have HB_62 := lhid (below_then HB_57.out HB_57.out.size hb)
        have HT_63 := lhid (HT_58.out.next hb)
        have FM_64 := lhid (FM_59.out.next hb)
        have V_65 := lhid (blk_below V_60.out hb)
        have O_66 := lhid (Kd.R_below O_61.out hb)
        have RS_67 := lhid (Kd.R_below HRS.out hb)
        clear HB_57 HT_58 FM_59 V_60 O_61 HRS hb
        go_wp2_with fail
        try any_goals (exfalso; omega)
        have hst := State_t t t F4 w520 12 2 (h5 a1 R vs v3) HT_63.out
        rw [show stS 12 2 = 2 by decide] at hst
        with_reducible refine hst.mono ?_
        rintro e w' ⟨rfl, rfl⟩
        clear hst
        go_wp2_with fail
        try any_goals (exfalso; omega)
        have hmi := Missing_t t t F4 w520 12 2 (h5 a1 R vs v3) HT_63.out
        rw [mis5] at hmi
        with_reducible refine hmi.mono ?_
        rintro e w721 ⟨vm, rfl, hR, hb⟩
        obtain ⟨Am, cm, rfl⟩ := Kd.R_slice hR
        have HM := lhid hR
        clear hmi hR
        have HB_68 := lhid (below_then HB_62.out HB_62.out.size hb)
        have HT_69 := lhid (HT_63.out.next hb)
        have FM_70 := lhid (FM_64.out.next hb)
        have V_71 := lhid (blk_below V_65.out hb)
        have O_72 := lhid (Kd.R_below O_66.out hb)
        have RS_73 := lhid (Kd.R_below RS_67.out hb)
        clear HB_62 HT_63 FM_64 V_65 O_66 RS_67 hb
        go_wp2_with (first | ((with_reducible refine gate_dst (N := 150) rfl ?_); refine gate_guard (by rfl) ?_; refine Kd.R_lit (Kd.int .i64) _ 3 ?hg (N := 150) ?hd (xs := ([4] : List Int)) (inner := [.int .i64 4]) (ok := fun _ => True) (okp := fun _ => True) ?hr ?hp (fun _ hk => hk) trivial (Below.refl _ _) (Nat.le_refl _) (by simp) ?_; (case hd => rfl); (case hg => rfl); (case hr => first | (go_simp; done) | (go_simp; rfl)); (case hp => exact (Reps.one (show Kd.M (Kd.int .i64) _ _ _ 4 [.int .i64 4] from rfl) (Reps.none _ _))); intro v9 w9 ho8 hb hg_ hnew_; clear hg_ hnew_; obtain ⟨A9, c9, rfl⟩ := Kd.R_slice ho8; have HL9 := lhid ho8; have HB9 := lhid hb; clear ho8 hb))
        have HB_74 := lhid (below_then HB_68.out HB_68.out.size HB9.out)
        have HT_75 := lhid (HT_69.out.next HB9.out)
        have FM_76 := lhid (FM_70.out.next HB9.out)
        have V_77 := lhid (blk_below V_71.out HB9.out)
        have O_78 := lhid (Kd.R_below O_72.out HB9.out)
        have RS_79 := lhid (Kd.R_below RS_73.out HB9.out)
        have M_80 := lhid (Kd.R_below HM.out HB9.out)
        clear HB_68 HT_69 FM_70 V_71 O_72 RS_73 HM
        have hsa := same_eq w9 Am A9 cm c9 [4] (by simp) (R_Ci M_80.out) (Kd.R_reads' M_80.out).2.1 (R_Ci HL9.out) (Kd.R_reads' HL9.out).2.1
        rw [show ([4] : List Int).length = 1 from rfl] at hsa
        with_reducible refine hsa.mono ?_
        rintro e w722 ⟨rfl, hb⟩
        clear hsa
        have HB_81 := lhid (below_then HB_74.out HB_74.out.size hb)
        have HT_82 := lhid (HT_75.out.next hb)
        have FM_83 := lhid (FM_76.out.next hb)
        have V_84 := lhid (blk_below V_77.out hb)
        have O_85 := lhid (Kd.R_below O_78.out hb)
        have RS_86 := lhid (Kd.R_below RS_79.out hb)
        have M_87 := lhid (Kd.R_below M_80.out hb)
        have L_88 := lhid (Kd.R_below HL9.out hb)
        clear HB_74 HT_75 FM_76 V_77 O_78 RS_79 M_80 HL9 hb
        clear M_87 L_88
        go_wp2_with fail
        with_reducible refine (alive_calls w722).mono ?_
        rintro e w900 ⟨rfl, hb⟩
        have HB_89 := lhid (below_then HB_81.out HB_81.out.size hb)
        have HT_90 := lhid (HT_82.out.next hb)
        have FM_91 := lhid (FM_83.out.next hb)
        have V_92 := lhid (blk_below V_84.out hb)
        have O_93 := lhid (Kd.R_below O_85.out hb)
        have RS_94 := lhid (Kd.R_below RS_86.out hb)
        clear HB_81 HT_82 FM_83 V_84 O_85 RS_86 hb
        go_wp2_with fail
        go_ret
        exact ⟨rfl, HB_89.out⟩
end Go.Proofs.Ythfdjccdelbeeaa.PT
end
section
namespace Go.Proofs.Ythfdjccdelbeeaa.Opn
open Go.RowKit Go.ChangeShapes Go.WideShapes
/-- An array of one-cell whole numbers: its cells are numbers. -/
theorem open_arr {H : Type} {enc : TypeId × Value → H} {P : Program} {w : World} {base : Nat} {spare : Nat → Bool} {held : Bool} {fuel : Nat} {t e : TypeId} {n : Nat} {k : IntKind} {cs : List Value} {x : DataW H × List MemPlace} (ht : P.underlying t = some (.array n e)) (he : P.underlying e = some (.int k)) (hc : P.cellsOf e = 1) (hn : P.cellsOf t = n)
    (h : DataW.trod enc P w base spare held fuel t cs = some x) : ∃ l : List Int, l.length = n ∧ cs = l.map (Value.int k) ∧ ∀ y ∈ l, (Lit.int k y).wf = true := by
  obtain ⟨xs, m, rfl, rfl, hl, hx, hi⟩ := DataW.trod_array ht h
  rw [hn] at hl
  have hget : ∀ i, i < n → ∃ y : Int, cs[i]? = some (.int k y) ∧ (Lit.int k y).wf = true := fun i hlt => by
    have h1 := hi i hlt
    rw [hc, Nat.mul_one, List.getElem?_eq_getElem (by omega)] at h1
    obtain ⟨y, hy, _, hw⟩ := DataW.trod_int he h1
    refine ⟨y, ?_, hw⟩
    have := congrArg (fun z => z[0]?) hy
    simpa using this
  refine ⟨cs.map (fun v => match v with | .int _ y => y | _ => 0), by rw [List.length_map]; exact hl, ?_, fun y hy => ?_⟩
  · apply List.ext_getElem?
    intro i
    by_cases hlt : i < n
    · obtain ⟨y, hy, _⟩ := hget i hlt
      rw [hy, List.getElem?_map, List.getElem?_map, hy]; rfl
    · rw [List.getElem?_eq_none (by omega), List.getElem?_eq_none (by simp; omega)]
  · obtain ⟨v, hv, rfl⟩ := List.mem_map.1 hy
    obtain ⟨i, hlt, e⟩ := List.getElem_of_mem hv
    obtain ⟨y, hy, hw⟩ := hget i (by omega)
    rw [List.getElem?_eq_getElem hlt, e] at hy
    cases hy
    exact hw
theorem okWide_array {P : Program} {w : World} {r : _} {base : Nat} {t e : TypeId} {n : Nat} {v : Value} (ht : P.underlying t = some (.array n e)) (h : Value.okWide P w r base t v) : ∃ cs, v = .agg cs ∧ cs.size = P.cellsOf t := by
  simp only [Value.okWide, ht] at h
  obtain ⟨cs, h1, h2, _⟩ := h
  exact ⟨cs, h1, h2⟩
end Go.Proofs.Ythfdjccdelbeeaa.Opn
end
