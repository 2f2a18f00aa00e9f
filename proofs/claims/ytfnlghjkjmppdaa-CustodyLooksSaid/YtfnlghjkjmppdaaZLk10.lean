/-
  The texts that the theorem in YtfnlghjkjmppdaaZRowLk rests on, merged (part 11); only what it reaches.
-/
import Derived.Test.YtfnlghjkjmppdaaZLk7
import Derived.Test.YtfnlghjkjmppdaaZLk8
import Derived.Test.YtfnlghjkjmppdaaZLk9
section
namespace Go.Proofs.Ytfnlghjkjmppdaa.PC
open Go.RowKit Go.Proofs.YtfnlghjkjmppdaaW.PrintWords Go.Proofs.YtfnlghjkjmppdaaW.PrintLast Go.Proofs.YtfnlghjkjmppdaaW.PrintMore
set_option linter.unusedVariables false
set_option linter.unusedSimpArgs false
def oRC (day : Int) (G : List S39) (E : List S44) (v n nb m mb : Int) : Int := if ¬ (0 ≤ v ∧ v ≤ 15) then 2 else if keyR day G E v n nb ≠ 0 then keyR day G E v n nb else if keyR day G E v m mb ≠ 0 then keyR day G E v m mb else if nb = mb ∨ (gr G n.toNat).f2 = (gr G m.toNat).f2 then 13 else 0
def oRE (day : Int) (G : List S39) (E : List S44) (v n nb m mb : Int) : List S44 := if oRC day G E v n nb m mb = 0 then E ++ [⟨day, v, n, m⟩] else E
theorem keyR_in {day : Int} {G : List S39} {E : List S44} {v n b : Int} (h : keyR day G E v n b = 0) : 1 ≤ n ∧ n ≤ G.length := by
  unfold keyR at h
  by_cases c : 1 ≤ n ∧ n ≤ G.length
  · exact c
  · rw [if_pos c] at h; omega
set_option maxHeartbeats 12800000 in
set_option maxRecDepth 100000 in
theorem Open_r (P : Nat → Prop) (w : World) (AG : Option Addr) (cG : Nat) (G : List S39) (AE : Option Addr) (cE : Nat) (E : List S44) (day : Int) (v n nb m mb : Int) (hS : Stay P w AG cG G AE cE E) (hP : ∀ k, P k → k < w.heap.size) (hT : Tree G) (hlE : E.length ≤ 100) (hE : EIn G E) (hU : ∀ m : Nat, 1 ≤ m → m ≤ G.length → (gr G m).f7 ≤ 1048576) : Calls Try.prog 72 #[.agg #[.slice AG G.length cG, .slice AE E.length cE, .int .i64 day], .int .i64 v, .int .i64 n, .int .i64 nb, .int .i64 m, .int .i64 mb] w fun e w' => ∃ b, e = .returned (.tuple #[b, .int .i64 (oRC day G E v n nb m mb)]) ∧ Bok P w' G (oRE day G E v n nb m mb) day b ∧ Below w.heap.size w w' := by
  have HRW := lhid hS
  have HPW := lhid hP
  have HT := lhid hT
  have hgl := hT.1
  have HLE := lhid hlE
  clear hS hP hT hlE
  have HE := lhid hE
  have HU := lhid hU
  clear hE hU
  by_cases hv : 0 ≤ v ∧ v ≤ 15
  · obtain ⟨k1, hk1⟩ : ∃ k, keyR day G E v n nb = k := ⟨_, rfl⟩
    by_cases c1 : k1 = 0
    · subst c1
      obtain ⟨k2, hk2⟩ : ∃ k, keyR day G E v m mb = k := ⟨_, rfl⟩
      by_cases c2 : k2 = 0
      · subst c2
        obtain ⟨a1, a2⟩ := keyR_in hk1
        obtain ⟨s1, s2⟩ := keyR_in hk2
        obtain ⟨p, hp⟩ : ∃ p : Nat, n = (p : Int) + 1 := ⟨n.toNat - 1, by omega⟩
        obtain ⟨q, hq⟩ : ∃ q : Nat, m = (q : Int) + 1 := ⟨m.toNat - 1, by omega⟩
        subst hp
        subst hq
        by_cases hnm : nb = mb
        · have hc : oRC day G E v ((p : Int) + 1) nb ((q : Int) + 1) mb = 13 := by unfold oRC; rw [if_neg (fun z => z hv), if_neg (fun z => z hk1), if_neg (fun z => z hk2), if_pos (Or.inl hnm)]
          have hG : oRE day G E v ((p : Int) + 1) nb ((q : Int) + 1) mb = E := by unfold oRE; rw [hc, if_neg (by decide)]
          rw [hG, hc]
          clear hG hc
          subst hnm
          have d7 : (nb == nb) = true := beq_self_eq_true nb
          have v1 : decide (v < 0) = false := decide_eq_false (by omega)
          have v2 : decide (v > 15) = false := decide_eq_false (by omega)
          have hu51 := Try.underlying51
          have hu39 := Try.underlying39
          have hu44 := Try.underlying44
          go_enter Try.func72, Try.ntmps72
          have HB_1 := lhid (Below.refl w.heap.size w)
          go_upto_region 1 with (fail)
          have hb := below_alloc (Below.refl w.heap.size w) (.cells #[.slice AG G.length cG, .slice AE E.length cE, .int .i64 day] 51)
          have hn := blk_new w (.cells #[.slice AG G.length cG, .slice AE E.length cE, .int .i64 day] 51)
          have HZ1 := lhid (show (World.alloc w (.cells #[.slice AG G.length cG, .slice AE E.length cE, .int .i64 day] 51)).heap.size = w.heap.size + 1 from by simp)
          generalize hq : World.alloc w (.cells #[.slice AG G.length cG, .slice AE E.length cE, .int .i64 day] 51) = w1 at hb hn HZ1 ⊢
          clear hq
          have HB_2 := lhid (below_then HB_1.out HB_1.out.size hb)
          clear HB_1 hb
          have XB_3 := lhid (hn)
          clear hn
          obtain ⟨xb, hxb⟩ : ∃ q, q = w.heap.size := ⟨_, rfl⟩
          rw [← hxb] at XB_3 ⊢
          have Exb := lhid hxb
          clear hxb
          have hb := below_alloc (Below.refl w1.heap.size w1) (.cells #[.slice none 0 0, .slice none 0 0, .int .i64 0] 51)
          have hn := blk_new w1 (.cells #[.slice none 0 0, .slice none 0 0, .int .i64 0] 51)
          have HZ2 := lhid (show (World.alloc w1 (.cells #[.slice none 0 0, .slice none 0 0, .int .i64 0] 51)).heap.size = w1.heap.size + 1 from by simp)
          generalize hq : World.alloc w1 (.cells #[.slice none 0 0, .slice none 0 0, .int .i64 0] 51) = w2 at hb hn HZ2 ⊢
          clear hq
          have HB_4 := lhid (below_then HB_2.out HB_2.out.size hb)
          have XB_5 := lhid (blk_below XB_3.out hb)
          clear HB_2 XB_3 hb
          have RZ_6 := lhid (hn)
          clear hn
          obtain ⟨rb, hrb⟩ : ∃ q, q = xb + 1 := ⟨_, rfl⟩
          rw [show w1.heap.size = rb by rw [hrb]; have z1 := HZ1.out; have y0 := Exb.out; omega] at RZ_6
          rw [← hrb]
          have Erb := lhid hrb
          clear hrb
          have HNE := lhid (show xb = w.heap.size + 0 ∧ rb = w.heap.size + 1 ∧ w2.heap.size = w.heap.size + 2 by have z1 := HZ1.out; have z2 := HZ2.out; have y0 := Exb.out;  have y1 := Erb.out; omega)
          clear Exb Erb HZ1 HZ2
          have HRB := lhid (show w.heap.size ≤ rb by have := HNE.out; omega)
          obtain ⟨z0, z1, z2⟩ := three XB_5.out
          go_wp2_with fail
          try any_goals (exfalso; omega)
          have hq := key_r w2 AG cG G AE cE E day v ((p : Int) + 1) nb (HRW.out.rb HB_4.out) HT.out HE.out HLE.out HU.out (by omega) (by omega)
          rw [hk1] at hq
          have HQ := lhid hq
          clear hq
          with_reducible refine HQ.out.mono ?_
          rintro e w21 ⟨rfl, hb⟩
          clear HQ
          clear z0 z1 z2
          have HB_7 := lhid (below_then HB_4.out HB_4.out.size hb)
          have XB_8 := lhid (blk_below XB_5.out hb)
          have RZ_9 := lhid (blk_below RZ_6.out hb)
          clear HB_4 XB_5 RZ_6 hb
          obtain ⟨z0, z1, z2⟩ := three XB_8.out
          go_wp2_with fail
          try any_goals (exfalso; omega)
          have hq := key_r w21 AG cG G AE cE E day v ((q : Int) + 1) nb (HRW.out.rb HB_7.out) HT.out HE.out HLE.out HU.out (by omega) (by omega)
          rw [hk2] at hq
          have HQ := lhid hq
          clear hq
          with_reducible refine HQ.out.mono ?_
          rintro e w22 ⟨rfl, hb⟩
          clear HQ
          clear z0 z1 z2
          have HB_10 := lhid (below_then HB_7.out HB_7.out.size hb)
          have XB_11 := lhid (blk_below XB_8.out hb)
          have RZ_12 := lhid (blk_below RZ_9.out hb)
          clear HB_7 XB_8 RZ_9 hb
          obtain ⟨z0, z1, z2⟩ := three XB_11.out
          go_upto_region 8 with (fail)
          try any_goals (exfalso; omega)
          clear z0 z1 z2
          obtain ⟨ad, eA, -⟩ := at_T39 ((HRW.out.rb HB_10.out)).c (p : Int) (by omega) (by omega)
          subst eA
          obtain ⟨f, hf⟩ : ∃ f, f = (gr G (p + 1)).f2 := ⟨_, rfl⟩
          obtain ⟨g, hg⟩ : ∃ g, g = (gr G (q + 1)).f2 := ⟨_, rfl⟩
          have HF := lhid hf
          have HG2 := lhid hg
          clear hf hg
          have hwp : wrap64 (p : Int) = (p : Int) := by unfold wrap64; omega
          have hwq : wrap64 (q : Int) = (q : Int) := by unfold wrap64; omega
          have hp5 : p < G.length := by omega
          have hq5 : q < G.length := by omega
          have hb := below_drew1 (Below.refl w22.heap.size w22)
          have HB_13 := lhid (below_then HB_10.out HB_10.out.size hb)
          have XB_14 := lhid (blk_below XB_11.out hb)
          have RZ_15 := lhid (blk_below RZ_12.out hb)
          clear HB_10 XB_11 RZ_12 hb
          refine start_ (n := 20) (S := fun w' => w'.cell? ⟨xb, 0, none⟩ = some (.slice (some ad) G.length cG) ∧ w'.cell? ⟨(ad.add (p * 9)).block, (ad.add (p * 9)).off + 2, none⟩ = some (.int .i64 f) ∧ w'.cell? ⟨(ad.add (q * 9)).block, (ad.add (q * 9)).off + 2, none⟩ = some (.int .i64 g)) (ds := []) (lsb 20 0) (by kernel_rfl) rfl (by kernel_rfl) ⟨(three XB_14.out).1, (by obtain ⟨ad', eA', x0, x1, x2, x3, x4, x5, x6, x7, x8⟩ := at_T39 ((HRW.out.rb HB_13.out)).c (p : Int) (by omega) (by omega); cases eA'; rw [rd_gr, Int.toNat_natCast] at x2; rw [HF.out]; exact x2), (by obtain ⟨ad', eA', x0, x1, x2, x3, x4, x5, x6, x7, x8⟩ := at_T39 ((HRW.out.rb HB_13.out)).c (q : Int) (by omega) (by omega); cases eA'; rw [rd_gr, Int.toNat_natCast] at x2; rw [HG2.out]; exact x2)⟩ (fun hHeld => ?_)
          generalize w22.drew = w3 at HB_13 XB_14 RZ_15 hHeld ⊢
          refine pu 0 (some 39) 20 1 rfl rfl (v := ?_) (a' := ?_) ?_ ?_ ?_; rotate_left; (intro w'; go_simp; with_reducible rfl); rotate_left; (simp only [Act.put, pS]; rfl)
          refine pu 1 (some 40) 20 3 rfl rfl (v := ?_) (a' := ?_) ?_ ?_ ?_; rotate_left; (intro w'; go_simp; with_reducible rfl); rotate_left; (simp only [Act.put, pS]; rfl)
          refine pu 2 (some 41) 20 7 rfl rfl (v := ?_) (a' := ?_) ?_ ?_ ?_; rotate_left; (intro w'; go_simp; with_reducible rfl); rotate_left; (simp only [Act.put, pS]; rfl)
          refine pu 3 (some 42) 20 15 rfl rfl (v := ?_) (a' := ?_) ?_ ?_ ?_; rotate_left; (intro w'; go_simp; with_reducible rfl); rotate_left; (simp only [Act.put, pS]; rfl)
          refine pf 4 (some 43) 20 31 rfl rfl (a' := ?_) ?_ ?_; rotate_left; (simp only [Act.put, pS]; rfl)
          refine pf 5 (some 44) 20 63 rfl rfl (a' := ?_) ?_ ?_; rotate_left; (simp only [Act.put, pS]; rfl)
          refine pf 6 (some 45) 20 127 rfl rfl (a' := ?_) ?_ ?_; rotate_left; (simp only [Act.put, pS]; rfl)
          refine pf 7 (some 46) 20 255 rfl rfl (a' := ?_) ?_ ?_; rotate_left; (simp only [Act.put, pS]; rfl)
          refine pf 8 (some 47) 20 511 rfl rfl (a' := ?_) ?_ ?_; rotate_left; (simp only [Act.put, pS]; rfl)
          refine pf 9 (some 48) 20 1023 rfl rfl (a' := ?_) ?_ ?_; rotate_left; (simp only [Act.put, pS]; rfl)
          refine pf 10 (some 49) 20 2047 rfl rfl (a' := ?_) ?_ ?_; rotate_left; (simp only [Act.put, pS]; rfl)
          refine pf 11 (some 50) 20 4095 rfl rfl (a' := ?_) ?_ ?_; rotate_left; (simp only [Act.put, pS]; rfl)
          refine pf 12 (some 51) 20 8191 rfl rfl (a' := ?_) ?_ ?_; rotate_left; (simp only [Act.put, pS]; rfl)
          refine pf 13 (some 52) 20 16383 rfl rfl (a' := ?_) ?_ ?_; rotate_left; (simp only [Act.put, pS]; rfl)
          refine pf 14 (some 53) 20 32767 rfl rfl (a' := ?_) ?_ ?_; rotate_left; (simp only [Act.put, pS]; rfl)
          refine pf 15 (some 54) 20 65535 rfl rfl (a' := ?_) ?_ ?_; rotate_left; (simp only [Act.put, pS]; rfl)
          refine pf 16 (some 55) 20 131071 rfl rfl (a' := ?_) ?_ ?_; rotate_left; (simp only [Act.put, pS]; rfl)
          refine pf 17 (some 56) 20 262143 rfl rfl (a' := ?_) ?_ ?_; rotate_left; (simp only [Act.put, pS]; rfl)
          refine pf 18 (some 57) 20 524287 rfl rfl (a' := ?_) ?_ ?_; rotate_left; (simp only [Act.put, pS]; rfl)
          refine pu 19 (some 58) 20 1048575 rfl rfl (v := ?_) (a' := ?_) ?_ ?_ ?_; rotate_left; (intro w'; go_simp; with_reducible rfl); rotate_left; (simp only [Act.put, pS]; rfl)
          refine done_ (by kernel_rfl) ?_
          
          clear hwp hwq hp5 hq5
          obtain ⟨z0, z1, z2⟩ := three XB_14.out
          obtain ⟨r0, r1, r2⟩ := three RZ_15.out
          have hfz : ∀ o, w3.frozen? ⟨rb, o, none⟩ = false := fun o => blk_frozen RZ_15.out o
          go_wp2_with fail
          try any_goals (exfalso; omega)
          try any_goals (exfalso; contradiction)
          clear z0 z1 z2
          clear r0 r1 r2 hfz
          have hz1 := blk_put RZ_15.out 0 (.slice (some ad) G.length cG) rfl
          have hz2 := blk_put hz1 1 (.slice AE E.length cE) rfl
          have hz3 := blk_put hz2 2 (.int .i64 day) rfl
          have hB := ((HB_13.out.setCell (p := ⟨rb, 0, none⟩) HRB.out (.slice (some ad) G.length cG)).setCell (p := ⟨rb, 1, none⟩) HRB.out (.slice AE E.length cE)).setCell (p := ⟨rb, 2, none⟩) HRB.out (.int .i64 day)
          clear hz1 hz2
          generalize (World.setCell (World.setCell (World.setCell w3 ⟨rb, 0, none⟩ (.slice (some ad) G.length cG)) ⟨rb, 1, none⟩ (.slice AE E.length cE)) ⟨rb, 2, none⟩ (.int .i64 day)) = w9 at hz3  hB ⊢
          refine bodyPost_ret (results_ct rfl _ _ rb 51 #[(.slice (some ad) G.length cG), (.slice AE E.length cE), (.int .i64 day)] (0, 0) _ rfl hz3 Try.underlying51 rfl (by kernel_rfl)) rfl ?_
          exact ⟨_, rfl, bok_same HRW.out hB, hB⟩
        · have d7 : (nb == mb) = false := beq_eq_false_iff_ne.2 hnm
          by_cases hrt : (gr G (p + 1)).f2 = (gr G (q + 1)).f2
          · have hc : oRC day G E v ((p : Int) + 1) nb ((q : Int) + 1) mb = 13 := by unfold oRC; rw [if_neg (fun z => z hv), if_neg (fun z => z hk1), if_neg (fun z => z hk2), show ((p : Int) + 1).toNat = p + 1 by omega, show ((q : Int) + 1).toNat = q + 1 by omega, if_pos (Or.inr hrt)]
            have hG : oRE day G E v ((p : Int) + 1) nb ((q : Int) + 1) mb = E := by unfold oRE; rw [hc, if_neg (by decide)]
            rw [hG, hc]
            clear hG hc
            have v1 : decide (v < 0) = false := decide_eq_false (by omega)
            have v2 : decide (v > 15) = false := decide_eq_false (by omega)
            have hu51 := Try.underlying51
            have hu39 := Try.underlying39
            have hu44 := Try.underlying44
            go_enter Try.func72, Try.ntmps72
            have HB_16 := lhid (Below.refl w.heap.size w)
            go_upto_region 1 with (fail)
            have hb := below_alloc (Below.refl w.heap.size w) (.cells #[.slice AG G.length cG, .slice AE E.length cE, .int .i64 day] 51)
            have hn := blk_new w (.cells #[.slice AG G.length cG, .slice AE E.length cE, .int .i64 day] 51)
            have HZ1 := lhid (show (World.alloc w (.cells #[.slice AG G.length cG, .slice AE E.length cE, .int .i64 day] 51)).heap.size = w.heap.size + 1 from by simp)
            generalize hq : World.alloc w (.cells #[.slice AG G.length cG, .slice AE E.length cE, .int .i64 day] 51) = w1 at hb hn HZ1 ⊢
            clear hq
            have HB_17 := lhid (below_then HB_16.out HB_16.out.size hb)
            clear HB_16 hb
            have XB_18 := lhid (hn)
            clear hn
            obtain ⟨xb, hxb⟩ : ∃ q, q = w.heap.size := ⟨_, rfl⟩
            rw [← hxb] at XB_18 ⊢
            have Exb := lhid hxb
            clear hxb
            have hb := below_alloc (Below.refl w1.heap.size w1) (.cells #[.slice none 0 0, .slice none 0 0, .int .i64 0] 51)
            have hn := blk_new w1 (.cells #[.slice none 0 0, .slice none 0 0, .int .i64 0] 51)
            have HZ2 := lhid (show (World.alloc w1 (.cells #[.slice none 0 0, .slice none 0 0, .int .i64 0] 51)).heap.size = w1.heap.size + 1 from by simp)
            generalize hq : World.alloc w1 (.cells #[.slice none 0 0, .slice none 0 0, .int .i64 0] 51) = w2 at hb hn HZ2 ⊢
            clear hq
            have HB_19 := lhid (below_then HB_17.out HB_17.out.size hb)
            have XB_20 := lhid (blk_below XB_18.out hb)
            clear HB_17 XB_18 hb
            have RZ_21 := lhid (hn)
            clear hn
            obtain ⟨rb, hrb⟩ : ∃ q, q = xb + 1 := ⟨_, rfl⟩
            rw [show w1.heap.size = rb by rw [hrb]; have z1 := HZ1.out; have y0 := Exb.out; omega] at RZ_21
            rw [← hrb]
            have Erb := lhid hrb
            clear hrb
            have HNE := lhid (show xb = w.heap.size + 0 ∧ rb = w.heap.size + 1 ∧ w2.heap.size = w.heap.size + 2 by have z1 := HZ1.out; have z2 := HZ2.out; have y0 := Exb.out;  have y1 := Erb.out; omega)
            clear Exb Erb HZ1 HZ2
            have HRB := lhid (show w.heap.size ≤ rb by have := HNE.out; omega)
            obtain ⟨z0, z1, z2⟩ := three XB_20.out
            go_wp2_with fail
            try any_goals (exfalso; omega)
            have hq := key_r w2 AG cG G AE cE E day v ((p : Int) + 1) nb (HRW.out.rb HB_19.out) HT.out HE.out HLE.out HU.out (by omega) (by omega)
            rw [hk1] at hq
            have HQ := lhid hq
            clear hq
            with_reducible refine HQ.out.mono ?_
            rintro e w21 ⟨rfl, hb⟩
            clear HQ
            clear z0 z1 z2
            have HB_22 := lhid (below_then HB_19.out HB_19.out.size hb)
            have XB_23 := lhid (blk_below XB_20.out hb)
            have RZ_24 := lhid (blk_below RZ_21.out hb)
            clear HB_19 XB_20 RZ_21 hb
            obtain ⟨z0, z1, z2⟩ := three XB_23.out
            go_wp2_with fail
            try any_goals (exfalso; omega)
            have hq := key_r w21 AG cG G AE cE E day v ((q : Int) + 1) mb (HRW.out.rb HB_22.out) HT.out HE.out HLE.out HU.out (by omega) (by omega)
            rw [hk2] at hq
            have HQ := lhid hq
            clear hq
            with_reducible refine HQ.out.mono ?_
            rintro e w22 ⟨rfl, hb⟩
            clear HQ
            clear z0 z1 z2
            have HB_25 := lhid (below_then HB_22.out HB_22.out.size hb)
            have XB_26 := lhid (blk_below XB_23.out hb)
            have RZ_27 := lhid (blk_below RZ_24.out hb)
            clear HB_22 XB_23 RZ_24 hb
            obtain ⟨z0, z1, z2⟩ := three XB_26.out
            go_upto_region 8 with (fail)
            try any_goals (exfalso; omega)
            clear z0 z1 z2
            obtain ⟨ad, eA, -⟩ := at_T39 ((HRW.out.rb HB_25.out)).c (p : Int) (by omega) (by omega)
            subst eA
            obtain ⟨f, hf⟩ : ∃ f, f = (gr G (p + 1)).f2 := ⟨_, rfl⟩
            obtain ⟨g, hg⟩ : ∃ g, g = (gr G (q + 1)).f2 := ⟨_, rfl⟩
            have HF := lhid hf
            have HG2 := lhid hg
            have d8 : (f == g) = true := by rw [hf, hg]; exact beq_iff_eq.2 hrt
            clear hf hg
            have hwp : wrap64 (p : Int) = (p : Int) := by unfold wrap64; omega
            have hwq : wrap64 (q : Int) = (q : Int) := by unfold wrap64; omega
            have hp5 : p < G.length := by omega
            have hq5 : q < G.length := by omega
            have hb := below_drew1 (Below.refl w22.heap.size w22)
            have HB_28 := lhid (below_then HB_25.out HB_25.out.size hb)
            have XB_29 := lhid (blk_below XB_26.out hb)
            have RZ_30 := lhid (blk_below RZ_27.out hb)
            clear HB_25 XB_26 RZ_27 hb
            refine start_ (n := 20) (S := fun w' => w'.cell? ⟨xb, 0, none⟩ = some (.slice (some ad) G.length cG) ∧ w'.cell? ⟨(ad.add (p * 9)).block, (ad.add (p * 9)).off + 2, none⟩ = some (.int .i64 f) ∧ w'.cell? ⟨(ad.add (q * 9)).block, (ad.add (q * 9)).off + 2, none⟩ = some (.int .i64 g)) (ds := []) (lsb 20 0) (by kernel_rfl) rfl (by kernel_rfl) ⟨(three XB_29.out).1, (by obtain ⟨ad', eA', x0, x1, x2, x3, x4, x5, x6, x7, x8⟩ := at_T39 ((HRW.out.rb HB_28.out)).c (p : Int) (by omega) (by omega); cases eA'; rw [rd_gr, Int.toNat_natCast] at x2; rw [HF.out]; exact x2), (by obtain ⟨ad', eA', x0, x1, x2, x3, x4, x5, x6, x7, x8⟩ := at_T39 ((HRW.out.rb HB_28.out)).c (q : Int) (by omega) (by omega); cases eA'; rw [rd_gr, Int.toNat_natCast] at x2; rw [HG2.out]; exact x2)⟩ (fun hHeld => ?_)
            generalize w22.drew = w3 at HB_28 XB_29 RZ_30 hHeld ⊢
            refine pu 0 (some 39) 20 1 rfl rfl (v := ?_) (a' := ?_) ?_ ?_ ?_; rotate_left; (intro w'; go_simp; with_reducible rfl); rotate_left; (simp only [Act.put, pS]; rfl)
            refine pu 1 (some 40) 20 3 rfl rfl (v := ?_) (a' := ?_) ?_ ?_ ?_; rotate_left; (intro w'; go_simp; with_reducible rfl); rotate_left; (simp only [Act.put, pS]; rfl)
            refine pu 2 (some 41) 20 7 rfl rfl (v := ?_) (a' := ?_) ?_ ?_ ?_; rotate_left; (intro w'; go_simp; with_reducible rfl); rotate_left; (simp only [Act.put, pS]; rfl)
            refine pu 3 (some 42) 20 15 rfl rfl (v := ?_) (a' := ?_) ?_ ?_ ?_; rotate_left; (intro w'; go_simp; with_reducible rfl); rotate_left; (simp only [Act.put, pS]; rfl)
            refine pu 4 (some 43) 20 31 rfl rfl (v := ?_) (a' := ?_) ?_ ?_ ?_; rotate_left; (intro w'; go_simp; with_reducible rfl); rotate_left; (simp only [Act.put, pS]; rfl)
            refine pu 6 (some 45) 20 95 rfl rfl (v := ?_) (a' := ?_) ?_ ?_ ?_; rotate_left; (intro w'; go_simp; with_reducible rfl); rotate_left; (simp only [Act.put, pS]; rfl)
            refine pu 7 (some 46) 20 223 rfl rfl (v := ?_) (a' := ?_) ?_ ?_ ?_; rotate_left; (intro w'; go_simp; with_reducible rfl); rotate_left; (simp only [Act.put, pS]; rfl)
            refine pu 11 (some 50) 20 2271 rfl rfl (v := ?_) (a' := ?_) ?_ ?_ ?_; rotate_left; (intro w'; go_simp; with_reducible rfl); rotate_left; (simp only [Act.put, pS]; rfl)
            refine pu 13 (some 52) 20 10463 rfl rfl (v := ?_) (a' := ?_) ?_ ?_ ?_; rotate_left; (intro w'; go_simp; with_reducible rfl); rotate_left; (simp only [Act.put, pS]; rfl)
            refine pu 14 (some 53) 20 26847 rfl rfl (v := ?_) (a' := ?_) ?_ ?_ ?_; rotate_left; (intro w'; go_simp; with_reducible rfl); rotate_left; (simp only [Act.put, pS]; rfl)
            refine tk 5 (some 44) 20 26879 rfl rfl hHeld (v := ?_) (a' := ?_) ?_ ?_ ?_; rotate_left; (rintro w' ⟨s0, s1, s2⟩; go_simp; with_reducible rfl); rotate_left; (simp only [Act.put, pS]; rfl)
            refine pu 8 (some 47) 20 27135 rfl rfl (v := ?_) (a' := ?_) ?_ ?_ ?_; rotate_left; (intro w'; go_simp; with_reducible rfl); rotate_left; (simp only [Act.put, pS]; rfl)
            refine pu 9 (some 48) 20 27647 rfl rfl (v := ?_) (a' := ?_) ?_ ?_ ?_; rotate_left; (intro w'; go_simp; with_reducible rfl); rotate_left; (simp only [Act.put, pS]; rfl)
            refine tk 10 (some 49) 20 28671 rfl rfl hHeld (v := ?_) (a' := ?_) ?_ ?_ ?_; rotate_left; (rintro w' ⟨s0, s1, s2⟩; go_simp; with_reducible rfl); rotate_left; (simp only [Act.put, pS]; rfl)
            refine tk 12 (some 51) 20 32767 rfl rfl hHeld (v := ?_) (a' := ?_) ?_ ?_ ?_; rotate_left; (rintro w' ⟨s0, s1, s2⟩; go_simp; with_reducible rfl); rotate_left; (simp only [Act.put, pS]; rfl)
            refine pu 15 (some 54) 20 65535 rfl rfl (v := ?_) (a' := ?_) ?_ ?_ ?_; rotate_left; (intro w'; go_simp; with_reducible rfl); rotate_left; (simp only [Act.put, pS]; rfl)
            refine pu 16 (some 55) 20 131071 rfl rfl (v := ?_) (a' := ?_) ?_ ?_ ?_; rotate_left; (intro w'; go_simp; with_reducible rfl); rotate_left; (simp only [Act.put, pS]; rfl)
            refine tk 17 (some 56) 20 262143 rfl rfl hHeld (v := ?_) (a' := ?_) ?_ ?_ ?_; rotate_left; (rintro w' ⟨s0, s1, s2⟩; go_simp; with_reducible rfl); rotate_left; (simp only [Act.put, pS]; rfl)
            refine pu 18 (some 57) 20 524287 rfl rfl (v := ?_) (a' := ?_) ?_ ?_ ?_; rotate_left; (intro w'; go_simp; with_reducible rfl); rotate_left; (simp only [Act.put, pS]; rfl)
            refine pu 19 (some 58) 20 1048575 rfl rfl (v := ?_) (a' := ?_) ?_ ?_ ?_; rotate_left; (intro w'; go_simp; with_reducible rfl); rotate_left; (simp only [Act.put, pS]; rfl)
            refine done_ (by kernel_rfl) ?_
            
            clear hwp hwq hp5 hq5
            obtain ⟨z0, z1, z2⟩ := three XB_29.out
            obtain ⟨r0, r1, r2⟩ := three RZ_30.out
            have hfz : ∀ o, w3.frozen? ⟨rb, o, none⟩ = false := fun o => blk_frozen RZ_30.out o
            go_wp2_with fail
            try any_goals (exfalso; omega)
            try any_goals (exfalso; contradiction)
            clear z0 z1 z2
            clear r0 r1 r2 hfz
            have hz1 := blk_put RZ_30.out 0 (.slice (some ad) G.length cG) rfl
            have hz2 := blk_put hz1 1 (.slice AE E.length cE) rfl
            have hz3 := blk_put hz2 2 (.int .i64 day) rfl
            have hB := ((HB_28.out.setCell (p := ⟨rb, 0, none⟩) HRB.out (.slice (some ad) G.length cG)).setCell (p := ⟨rb, 1, none⟩) HRB.out (.slice AE E.length cE)).setCell (p := ⟨rb, 2, none⟩) HRB.out (.int .i64 day)
            clear hz1 hz2
            generalize (World.setCell (World.setCell (World.setCell w3 ⟨rb, 0, none⟩ (.slice (some ad) G.length cG)) ⟨rb, 1, none⟩ (.slice AE E.length cE)) ⟨rb, 2, none⟩ (.int .i64 day)) = w9 at hz3  hB ⊢
            refine bodyPost_ret (results_ct rfl _ _ rb 51 #[(.slice (some ad) G.length cG), (.slice AE E.length cE), (.int .i64 day)] (0, 0) _ rfl hz3 Try.underlying51 rfl (by kernel_rfl)) rfl ?_
            exact ⟨_, rfl, bok_same HRW.out hB, hB⟩
          · have hc : oRC day G E v ((p : Int) + 1) nb ((q : Int) + 1) mb = 0 := by unfold oRC; rw [if_neg (fun z => z hv), if_neg (fun z => z hk1), if_neg (fun z => z hk2), show ((p : Int) + 1).toNat = p + 1 by omega, show ((q : Int) + 1).toNat = q + 1 by omega, if_neg (fun z => z.elim hnm hrt)]
            have hG : oRE day G E v ((p : Int) + 1) nb ((q : Int) + 1) mb = E ++ [⟨day, v, (p : Int) + 1, (q : Int) + 1⟩] := by unfold oRE; rw [hc, if_pos rfl]
            rw [hG, hc]
            clear hG hc
            have v1 : decide (v < 0) = false := decide_eq_false (by omega)
            have v2 : decide (v > 15) = false := decide_eq_false (by omega)
            have hu51 := Try.underlying51
            have hu39 := Try.underlying39
            have hu44 := Try.underlying44
            go_enter Try.func72, Try.ntmps72
            have HB_31 := lhid (Below.refl w.heap.size w)
            go_upto_region 1 with (fail)
            have hb := below_alloc (Below.refl w.heap.size w) (.cells #[.slice AG G.length cG, .slice AE E.length cE, .int .i64 day] 51)
            have hn := blk_new w (.cells #[.slice AG G.length cG, .slice AE E.length cE, .int .i64 day] 51)
            have HZ1 := lhid (show (World.alloc w (.cells #[.slice AG G.length cG, .slice AE E.length cE, .int .i64 day] 51)).heap.size = w.heap.size + 1 from by simp)
            generalize hq : World.alloc w (.cells #[.slice AG G.length cG, .slice AE E.length cE, .int .i64 day] 51) = w1 at hb hn HZ1 ⊢
            clear hq
            have HB_32 := lhid (below_then HB_31.out HB_31.out.size hb)
            clear HB_31 hb
            have XB_33 := lhid (hn)
            clear hn
            obtain ⟨xb, hxb⟩ : ∃ q, q = w.heap.size := ⟨_, rfl⟩
            rw [← hxb] at XB_33 ⊢
            have Exb := lhid hxb
            clear hxb
            have hb := below_alloc (Below.refl w1.heap.size w1) (.cells #[.slice none 0 0, .slice none 0 0, .int .i64 0] 51)
            have hn := blk_new w1 (.cells #[.slice none 0 0, .slice none 0 0, .int .i64 0] 51)
            have HZ2 := lhid (show (World.alloc w1 (.cells #[.slice none 0 0, .slice none 0 0, .int .i64 0] 51)).heap.size = w1.heap.size + 1 from by simp)
            generalize hq : World.alloc w1 (.cells #[.slice none 0 0, .slice none 0 0, .int .i64 0] 51) = w2 at hb hn HZ2 ⊢
            clear hq
            have HB_34 := lhid (below_then HB_32.out HB_32.out.size hb)
            have XB_35 := lhid (blk_below XB_33.out hb)
            clear HB_32 XB_33 hb
            have RZ_36 := lhid (hn)
            clear hn
            obtain ⟨rb, hrb⟩ : ∃ q, q = xb + 1 := ⟨_, rfl⟩
            rw [show w1.heap.size = rb by rw [hrb]; have z1 := HZ1.out; have y0 := Exb.out; omega] at RZ_36
            rw [← hrb]
            have Erb := lhid hrb
            clear hrb
            have HNE := lhid (show xb = w.heap.size + 0 ∧ rb = w.heap.size + 1 ∧ w2.heap.size = w.heap.size + 2 by have z1 := HZ1.out; have z2 := HZ2.out; have y0 := Exb.out;  have y1 := Erb.out; omega)
            clear Exb Erb HZ1 HZ2
            have HRB := lhid (show w.heap.size ≤ rb by have := HNE.out; omega)
            obtain ⟨z0, z1, z2⟩ := three XB_35.out
            go_wp2_with fail
            try any_goals (exfalso; omega)
            have hq := key_r w2 AG cG G AE cE E day v ((p : Int) + 1) nb (HRW.out.rb HB_34.out) HT.out HE.out HLE.out HU.out (by omega) (by omega)
            rw [hk1] at hq
            have HQ := lhid hq
            clear hq
            with_reducible refine HQ.out.mono ?_
            rintro e w21 ⟨rfl, hb⟩
            clear HQ
            clear z0 z1 z2
            have HB_37 := lhid (below_then HB_34.out HB_34.out.size hb)
            have XB_38 := lhid (blk_below XB_35.out hb)
            have RZ_39 := lhid (blk_below RZ_36.out hb)
            clear HB_34 XB_35 RZ_36 hb
            obtain ⟨z0, z1, z2⟩ := three XB_38.out
            go_wp2_with fail
            try any_goals (exfalso; omega)
            have hq := key_r w21 AG cG G AE cE E day v ((q : Int) + 1) mb (HRW.out.rb HB_37.out) HT.out HE.out HLE.out HU.out (by omega) (by omega)
            rw [hk2] at hq
            have HQ := lhid hq
            clear hq
            with_reducible refine HQ.out.mono ?_
            rintro e w22 ⟨rfl, hb⟩
            clear HQ
            clear z0 z1 z2
            have HB_40 := lhid (below_then HB_37.out HB_37.out.size hb)
            have XB_41 := lhid (blk_below XB_38.out hb)
            have RZ_42 := lhid (blk_below RZ_39.out hb)
            clear HB_37 XB_38 RZ_39 hb
            obtain ⟨z0, z1, z2⟩ := three XB_41.out
            go_upto_region 8 with (fail)
            try any_goals (exfalso; omega)
            clear z0 z1 z2
            obtain ⟨ad, eA, -⟩ := at_T39 ((HRW.out.rb HB_40.out)).c (p : Int) (by omega) (by omega)
            subst eA
            obtain ⟨f, hf⟩ : ∃ f, f = (gr G (p + 1)).f2 := ⟨_, rfl⟩
            obtain ⟨g, hg⟩ : ∃ g, g = (gr G (q + 1)).f2 := ⟨_, rfl⟩
            have HF := lhid hf
            have HG2 := lhid hg
            have d8 : (f == g) = false := by rw [hf, hg]; exact beq_eq_false_iff_ne.2 hrt
            clear hf hg
            have hwp : wrap64 (p : Int) = (p : Int) := by unfold wrap64; omega
            have hwq : wrap64 (q : Int) = (q : Int) := by unfold wrap64; omega
            have hp5 : p < G.length := by omega
            have hq5 : q < G.length := by omega
            have hb := below_drew1 (Below.refl w22.heap.size w22)
            have HB_43 := lhid (below_then HB_40.out HB_40.out.size hb)
            have XB_44 := lhid (blk_below XB_41.out hb)
            have RZ_45 := lhid (blk_below RZ_42.out hb)
            clear HB_40 XB_41 RZ_42 hb
            refine start_ (n := 20) (S := fun w' => w'.cell? ⟨xb, 0, none⟩ = some (.slice (some ad) G.length cG) ∧ w'.cell? ⟨(ad.add (p * 9)).block, (ad.add (p * 9)).off + 2, none⟩ = some (.int .i64 f) ∧ w'.cell? ⟨(ad.add (q * 9)).block, (ad.add (q * 9)).off + 2, none⟩ = some (.int .i64 g)) (ds := []) (lsb 20 0) (by kernel_rfl) rfl (by kernel_rfl) ⟨(three XB_44.out).1, (by obtain ⟨ad', eA', x0, x1, x2, x3, x4, x5, x6, x7, x8⟩ := at_T39 ((HRW.out.rb HB_43.out)).c (p : Int) (by omega) (by omega); cases eA'; rw [rd_gr, Int.toNat_natCast] at x2; rw [HF.out]; exact x2), (by obtain ⟨ad', eA', x0, x1, x2, x3, x4, x5, x6, x7, x8⟩ := at_T39 ((HRW.out.rb HB_43.out)).c (q : Int) (by omega) (by omega); cases eA'; rw [rd_gr, Int.toNat_natCast] at x2; rw [HG2.out]; exact x2)⟩ (fun hHeld => ?_)
            generalize w22.drew = w3 at HB_43 XB_44 RZ_45 hHeld ⊢
            refine pu 0 (some 39) 20 1 rfl rfl (v := ?_) (a' := ?_) ?_ ?_ ?_; rotate_left; (intro w'; go_simp; with_reducible rfl); rotate_left; (simp only [Act.put, pS]; rfl)
            refine pu 1 (some 40) 20 3 rfl rfl (v := ?_) (a' := ?_) ?_ ?_ ?_; rotate_left; (intro w'; go_simp; with_reducible rfl); rotate_left; (simp only [Act.put, pS]; rfl)
            refine pu 2 (some 41) 20 7 rfl rfl (v := ?_) (a' := ?_) ?_ ?_ ?_; rotate_left; (intro w'; go_simp; with_reducible rfl); rotate_left; (simp only [Act.put, pS]; rfl)
            refine pu 3 (some 42) 20 15 rfl rfl (v := ?_) (a' := ?_) ?_ ?_ ?_; rotate_left; (intro w'; go_simp; with_reducible rfl); rotate_left; (simp only [Act.put, pS]; rfl)
            refine pu 4 (some 43) 20 31 rfl rfl (v := ?_) (a' := ?_) ?_ ?_ ?_; rotate_left; (intro w'; go_simp; with_reducible rfl); rotate_left; (simp only [Act.put, pS]; rfl)
            refine pu 6 (some 45) 20 95 rfl rfl (v := ?_) (a' := ?_) ?_ ?_ ?_; rotate_left; (intro w'; go_simp; with_reducible rfl); rotate_left; (simp only [Act.put, pS]; rfl)
            refine pu 7 (some 46) 20 223 rfl rfl (v := ?_) (a' := ?_) ?_ ?_ ?_; rotate_left; (intro w'; go_simp; with_reducible rfl); rotate_left; (simp only [Act.put, pS]; rfl)
            refine pu 11 (some 50) 20 2271 rfl rfl (v := ?_) (a' := ?_) ?_ ?_ ?_; rotate_left; (intro w'; go_simp; with_reducible rfl); rotate_left; (simp only [Act.put, pS]; rfl)
            refine pu 13 (some 52) 20 10463 rfl rfl (v := ?_) (a' := ?_) ?_ ?_ ?_; rotate_left; (intro w'; go_simp; with_reducible rfl); rotate_left; (simp only [Act.put, pS]; rfl)
            refine pu 14 (some 53) 20 26847 rfl rfl (v := ?_) (a' := ?_) ?_ ?_ ?_; rotate_left; (intro w'; go_simp; with_reducible rfl); rotate_left; (simp only [Act.put, pS]; rfl)
            refine tk 5 (some 44) 20 26879 rfl rfl hHeld (v := ?_) (a' := ?_) ?_ ?_ ?_; rotate_left; (rintro w' ⟨s0, s1, s2⟩; go_simp; with_reducible rfl); rotate_left; (simp only [Act.put, pS]; rfl)
            refine pu 8 (some 47) 20 27135 rfl rfl (v := ?_) (a' := ?_) ?_ ?_ ?_; rotate_left; (intro w'; go_simp; with_reducible rfl); rotate_left; (simp only [Act.put, pS]; rfl)
            refine pu 9 (some 48) 20 27647 rfl rfl (v := ?_) (a' := ?_) ?_ ?_ ?_; rotate_left; (intro w'; go_simp; with_reducible rfl); rotate_left; (simp only [Act.put, pS]; rfl)
            refine tk 10 (some 49) 20 28671 rfl rfl hHeld (v := ?_) (a' := ?_) ?_ ?_ ?_; rotate_left; (rintro w' ⟨s0, s1, s2⟩; go_simp; with_reducible rfl); rotate_left; (simp only [Act.put, pS]; rfl)
            refine tk 12 (some 51) 20 32767 rfl rfl hHeld (v := ?_) (a' := ?_) ?_ ?_ ?_; rotate_left; (rintro w' ⟨s0, s1, s2⟩; go_simp; with_reducible rfl); rotate_left; (simp only [Act.put, pS]; rfl)
            refine pu 15 (some 54) 20 65535 rfl rfl (v := ?_) (a' := ?_) ?_ ?_ ?_; rotate_left; (intro w'; go_simp; with_reducible rfl); rotate_left; (simp only [Act.put, pS]; rfl)
            refine pu 16 (some 55) 20 131071 rfl rfl (v := ?_) (a' := ?_) ?_ ?_ ?_; rotate_left; (intro w'; go_simp; with_reducible rfl); rotate_left; (simp only [Act.put, pS]; rfl)
            refine tk 17 (some 56) 20 262143 rfl rfl hHeld (v := ?_) (a' := ?_) ?_ ?_ ?_; rotate_left; (rintro w' ⟨s0, s1, s2⟩; go_simp; with_reducible rfl); rotate_left; (simp only [Act.put, pS]; rfl)
            refine pu 18 (some 57) 20 524287 rfl rfl (v := ?_) (a' := ?_) ?_ ?_ ?_; rotate_left; (intro w'; go_simp; with_reducible rfl); rotate_left; (simp only [Act.put, pS]; rfl)
            refine pu 19 (some 58) 20 1048575 rfl rfl (v := ?_) (a' := ?_) ?_ ?_ ?_; rotate_left; (intro w'; go_simp; with_reducible rfl); rotate_left; (simp only [Act.put, pS]; rfl)
            refine done_ (by kernel_rfl) ?_
            
            clear hwp hwq hp5 hq5
            have hle := HLE.out
            have d9 : decide ((E.length : Int) ≥ 4096) = false := decide_eq_false (by omega)
            obtain ⟨z0, z1, z2⟩ := three XB_44.out
            go_wp2_with fail
            try any_goals (exfalso; omega)
            with_reducible refine (copied_r w3 (some ad) cG G AE cE E day (HRW.out.rb HB_43.out) (by omega) (by omega)).mono ?_
            rintro e w30 ⟨A1, c1, A2, c2, rfl, hG, hE, hb⟩
            have HG0 := lhid (Kd.R_lower hG HB_43.out.size)
            have HE0 := lhid (Kd.R_lower hE HB_43.out.size)
            have HRS := lhid (show rb < w30.heap.size from Nat.lt_of_lt_of_le (blk_lt RZ_45.out) hb.size)
            have HWS := lhid (show w.heap.size ≤ w30.heap.size from Nat.le_trans HB_43.out.size hb.size)
            clear hG hE d8 d7 d9 v1 v2
            clear z0 z1 z2
            have HB_46 := lhid (below_then HB_43.out HB_43.out.size hb)
            have XB_47 := lhid (blk_below XB_44.out hb)
            have RZ_48 := lhid (blk_below RZ_45.out hb)
            clear HB_43 XB_44 RZ_45 hb
            go_upto_region 13 with (fail)
            try any_goals (exfalso; omega)
            have hb := below_alloc (Below.refl w30.heap.size w30) (.cells #[.slice A1 G.length c1, .slice A2 E.length c2, .int .i64 day] 51)
            have hn := blk_new w30 (.cells #[.slice A1 G.length c1, .slice A2 E.length c2, .int .i64 day] 51)
            have HZ31 := lhid (show (World.alloc w30 (.cells #[.slice A1 G.length c1, .slice A2 E.length c2, .int .i64 day] 51)).heap.size = w30.heap.size + 1 from by simp)
            generalize hq : World.alloc w30 (.cells #[.slice A1 G.length c1, .slice A2 E.length c2, .int .i64 day] 51) = w31 at hb hn HZ31 ⊢
            clear hq
            have HB_49 := lhid (below_then HB_46.out HB_46.out.size hb)
            have XB_50 := lhid (blk_below XB_47.out hb)
            have RZ_51 := lhid (blk_below RZ_48.out hb)
            have HG_52 := lhid (Kd.R_below HG0.out hb)
            have HE_53 := lhid (Kd.R_below HE0.out hb)
            clear HB_46 XB_47 RZ_48 HG0 HE0 hb
            have NB_54 := lhid (hn)
            clear hn
            obtain ⟨nb9, hnb⟩ : ∃ z, z = w30.heap.size := ⟨_, rfl⟩
            rw [← hnb] at NB_54 ⊢
            have HNN := lhid (show rb ≠ nb9 ∧ w.heap.size ≤ nb9 by have h1 := HRS.out; have h2 := HWS.out; omega)
            clear hnb
            obtain ⟨y, hy⟩ : ∃ y : S44, y = ⟨day, v, (p : Int) + 1, (q : Int) + 1⟩ := ⟨_, rfl⟩
            have HY := lhid hy
            clear hy
            obtain ⟨z0, z1, z2⟩ := three XB_50.out
            obtain ⟨n0, n1, n2⟩ := three NB_54.out
            go_upto_region 14 with (first | ((with_reducible refine gate_builtin (b := .append) (xs := #[.tmp 68, .tmp 75]) rfl ?_); at_builtin; refine Kd.R_append k44 (w0 := w) w.heap.size rfl (.tmp 68) (.tmp 75) 40 44 (.agg #[(.int .i64 0), (.int .i64 0), (.int .i64 0), (.int .i64 0)]) 32 rfl Try.underlying40 info44 rfl (by decide) (by omega) (.slice A2 E.length c2) E y [.int .i64 day, .int .i64 v, .int .i64 ((p : Int) + 1), .int .i64 ((q : Int) + 1)] (fun _ => True) (fun _ => False) rfl rfl ?aP (fun _ hk => hk.elim) ?aF ?aO ?aB ?aS ?aL ?_; (case aP => rw [HY.out]; exact k44_mkM _ _ _ ⟨day, v, (p : Int) + 1, (q : Int) + 1⟩); (case aF => exact fun _ _ => trivial); (case aO => exact HE_53.out); (case aB => exact HB_49.out); (case aS => exact HB_49.out.size); (case aL => omega); intro v8 w8 ho8 hb8 hg8 hat8; obtain ⟨A8, c8, hv8⟩ := Kd.R_slice ho8; rw [show (E ++ [y]).length = E.length + 1 by simp] at hv8; subst hv8; have HP8 := lhid ho8; have HB8 := lhid hb8; have NB8 := lhid (blk_grown NB_54.out hg8 (Kd.R_ne HE_53.out NB_54.out (by decide))); have RZ8 := lhid (blk_grown RZ_51.out hg8 (Kd.R_ne HE_53.out RZ_51.out (by decide))); have HG8 := lhid (Kd.R_grown2 HG_52.out rfl hg8 (fun z hz e_ => by rcases own_type_ne (Kd.R_own HE_53.out).choose_spec (Kd.R_own HG_52.out).choose_spec (by decide) with q | q; (rw [q] at hz; cases hz); exact q (hz.trans e_))); have hn8 := (three NB8.out).2.1; have hf8 := blk_frozen NB8.out 1; clear ho8 hb8 hg8 hat8))
            try any_goals (exfalso; omega)
            clear n0 n1 n2 hn8 hf8
            clear z0 z1 z2
            have NB9 := lhid (show (w8.setCell ⟨nb9, 1, none⟩ (.slice A8 (E.length + 1) c8)).heap[nb9]? = some (.cells #[.slice A1 G.length c1, .slice A8 (E.length + 1) c8, .int .i64 day] 51) from blk_put NB8.out 1 (.slice A8 (E.length + 1) c8) rfl)
            have RZ9 := lhid (blk_far RZ8.out (p := ⟨nb9, 1, none⟩) HNN.out.1 (.slice A8 (E.length + 1) c8))
            have HG9 := lhid (Kd.R_set HG8.out NB8.out (by decide) 1 (.slice A8 (E.length + 1) c8))
            have HP9 := lhid (Kd.R_set HP8.out NB8.out (by decide) 1 (.slice A8 (E.length + 1) c8))
            have HB9 := lhid (HB8.out.setCell (p := ⟨nb9, 1, none⟩) HNN.out.2 (.slice A8 (E.length + 1) c8))
            generalize World.setCell w8 ⟨nb9, 1, none⟩ (.slice A8 (E.length + 1) c8) = w10 at NB9 RZ9 HG9 HP9 HB9 ⊢
            obtain ⟨n0, n1, n2⟩ := three NB9.out
            obtain ⟨r0, r1, r2⟩ := three RZ9.out
            have hfz : ∀ o, w10.frozen? ⟨rb, o, none⟩ = false := fun o => blk_frozen RZ9.out o
            go_wp2_with fail
            clear n0 n1 n2 r0 r1 r2 hfz
            have hlen : (E ++ [y]).length = E.length + 1 := by simp
            have hz1 := blk_put RZ9.out 0 (.slice A1 G.length c1) rfl
            have hz2 := blk_put hz1 1 (.slice A8 (E.length + 1) c8) rfl
            have hz3 := blk_put hz2 2 (.int .i64 day) rfl
            have hHG := Kd.R_set (Kd.R_set (Kd.R_set HG9.out RZ9.out (by decide) 0 (.slice A1 G.length c1)) hz1 (by decide) 1 (.slice A8 (E.length + 1) c8)) hz2 (by decide) 2 (.int .i64 day)
            have hHE := Kd.R_set (Kd.R_set (Kd.R_set HP9.out RZ9.out (by decide) 0 (.slice A1 G.length c1)) hz1 (by decide) 1 (.slice A8 (E.length + 1) c8)) hz2 (by decide) 2 (.int .i64 day)
            have hB := ((HB9.out.setCell (p := ⟨rb, 0, none⟩) HRB.out (.slice A1 G.length c1)).setCell (p := ⟨rb, 1, none⟩) HRB.out (.slice A8 (E.length + 1) c8)).setCell (p := ⟨rb, 2, none⟩) HRB.out (.int .i64 day)
            clear hz1 hz2
            generalize (World.setCell (World.setCell (World.setCell w10 ⟨rb, 0, none⟩ (.slice A1 G.length c1)) ⟨rb, 1, none⟩ (.slice A8 (E.length + 1) c8)) ⟨rb, 2, none⟩ (.int .i64 day)) = w9 at hz3 hHG hHE hB ⊢
            refine bodyPost_ret (results_ct rfl _ _ rb 51 #[(.slice A1 G.length c1), (.slice A8 (E.length + 1) c8), (.int .i64 day)] (0, 0) _ rfl hz3 Try.underlying51 rfl (by kernel_rfl)) rfl ?_
            have hbn := bok_new (P := P) (w := w) HPW.out (day := day) hHG (show Kd.R k44 44 w9 w.heap.size _ (.slice A8 (E ++ [y]).length c8) (E ++ [y]) by rw [hlen]; exact hHE)
            rw [hlen] at hbn
            exact ⟨_, rfl, by rw [← HY.out]; exact hbn, hB⟩
      · have hc : oRC day G E v n nb m mb = k2 := by unfold oRC; rw [if_neg (fun z => z hv), if_neg (fun z => z hk1), hk2, if_pos c2]
        have hG : oRE day G E v n nb m mb = E := by unfold oRE; rw [hc, if_neg (by first | decide | assumption)]
        rw [hG, hc]
        clear hG hc
        have v1 : decide (v < 0) = false := decide_eq_false (by omega)
        have v2 : decide (v > 15) = false := decide_eq_false (by omega)
        have d2 : (k2 == 0) = false := beq_eq_false_iff_ne.2 c2
        have d3 : (k2 != 0) = true := bne_iff_ne.2 c2
        have hu51 := Try.underlying51
        have hu39 := Try.underlying39
        have hu44 := Try.underlying44
        go_enter Try.func72, Try.ntmps72
        have HB_55 := lhid (Below.refl w.heap.size w)
        go_upto_region 1 with (fail)
        have hb := below_alloc (Below.refl w.heap.size w) (.cells #[.slice AG G.length cG, .slice AE E.length cE, .int .i64 day] 51)
        have hn := blk_new w (.cells #[.slice AG G.length cG, .slice AE E.length cE, .int .i64 day] 51)
        have HZ1 := lhid (show (World.alloc w (.cells #[.slice AG G.length cG, .slice AE E.length cE, .int .i64 day] 51)).heap.size = w.heap.size + 1 from by simp)
        generalize hq : World.alloc w (.cells #[.slice AG G.length cG, .slice AE E.length cE, .int .i64 day] 51) = w1 at hb hn HZ1 ⊢
        clear hq
        have HB_56 := lhid (below_then HB_55.out HB_55.out.size hb)
        clear HB_55 hb
        have XB_57 := lhid (hn)
        clear hn
        obtain ⟨xb, hxb⟩ : ∃ q, q = w.heap.size := ⟨_, rfl⟩
        rw [← hxb] at XB_57 ⊢
        have Exb := lhid hxb
        clear hxb
        have hb := below_alloc (Below.refl w1.heap.size w1) (.cells #[.slice none 0 0, .slice none 0 0, .int .i64 0] 51)
        have hn := blk_new w1 (.cells #[.slice none 0 0, .slice none 0 0, .int .i64 0] 51)
        have HZ2 := lhid (show (World.alloc w1 (.cells #[.slice none 0 0, .slice none 0 0, .int .i64 0] 51)).heap.size = w1.heap.size + 1 from by simp)
        generalize hq : World.alloc w1 (.cells #[.slice none 0 0, .slice none 0 0, .int .i64 0] 51) = w2 at hb hn HZ2 ⊢
        clear hq
        have HB_58 := lhid (below_then HB_56.out HB_56.out.size hb)
        have XB_59 := lhid (blk_below XB_57.out hb)
        clear HB_56 XB_57 hb
        have RZ_60 := lhid (hn)
        clear hn
        obtain ⟨rb, hrb⟩ : ∃ q, q = xb + 1 := ⟨_, rfl⟩
        rw [show w1.heap.size = rb by rw [hrb]; have z1 := HZ1.out; have y0 := Exb.out; omega] at RZ_60
        rw [← hrb]
        have Erb := lhid hrb
        clear hrb
        have HNE := lhid (show xb = w.heap.size + 0 ∧ rb = w.heap.size + 1 ∧ w2.heap.size = w.heap.size + 2 by have z1 := HZ1.out; have z2 := HZ2.out; have y0 := Exb.out;  have y1 := Erb.out; omega)
        clear Exb Erb HZ1 HZ2
        have HRB := lhid (show w.heap.size ≤ rb by have := HNE.out; omega)
        obtain ⟨z0, z1, z2⟩ := three XB_59.out
        go_wp2_with fail
        try any_goals (exfalso; omega)
        have hq := key_r w2 AG cG G AE cE E day v n nb (HRW.out.rb HB_58.out) HT.out HE.out HLE.out HU.out (by omega) (by omega)
        rw [hk1] at hq
        have HQ := lhid hq
        clear hq
        with_reducible refine HQ.out.mono ?_
        rintro e w21 ⟨rfl, hb⟩
        clear HQ
        clear z0 z1 z2
        have HB_61 := lhid (below_then HB_58.out HB_58.out.size hb)
        have XB_62 := lhid (blk_below XB_59.out hb)
        have RZ_63 := lhid (blk_below RZ_60.out hb)
        clear HB_58 XB_59 RZ_60 hb
        obtain ⟨z0, z1, z2⟩ := three XB_62.out
        go_wp2_with fail
        try any_goals (exfalso; omega)
        have hq := key_r w21 AG cG G AE cE E day v m mb (HRW.out.rb HB_61.out) HT.out HE.out HLE.out HU.out (by omega) (by omega)
        rw [hk2] at hq
        have HQ := lhid hq
        clear hq
        with_reducible refine HQ.out.mono ?_
        rintro e w22 ⟨rfl, hb⟩
        clear HQ
        clear z0 z1 z2
        have HB_64 := lhid (below_then HB_61.out HB_61.out.size hb)
        have XB_65 := lhid (blk_below XB_62.out hb)
        have RZ_66 := lhid (blk_below RZ_63.out hb)
        clear HB_61 XB_62 RZ_63 hb
        obtain ⟨z0, z1, z2⟩ := three XB_65.out
        obtain ⟨r0, r1, r2⟩ := three RZ_66.out
        have hfz : ∀ o, w22.frozen? ⟨rb, o, none⟩ = false := fun o => blk_frozen RZ_66.out o
        go_wp2_with fail
        try any_goals (exfalso; omega)
        try any_goals (exfalso; contradiction)
        clear z0 z1 z2
        clear r0 r1 r2 hfz
        have hz1 := blk_put RZ_66.out 0 (.slice AG G.length cG) rfl
        have hz2 := blk_put hz1 1 (.slice AE E.length cE) rfl
        have hz3 := blk_put hz2 2 (.int .i64 day) rfl
        have hB := ((HB_64.out.setCell (p := ⟨rb, 0, none⟩) HRB.out (.slice AG G.length cG)).setCell (p := ⟨rb, 1, none⟩) HRB.out (.slice AE E.length cE)).setCell (p := ⟨rb, 2, none⟩) HRB.out (.int .i64 day)
        clear hz1 hz2
        generalize (World.setCell (World.setCell (World.setCell w22 ⟨rb, 0, none⟩ (.slice AG G.length cG)) ⟨rb, 1, none⟩ (.slice AE E.length cE)) ⟨rb, 2, none⟩ (.int .i64 day)) = w9 at hz3  hB ⊢
        refine bodyPost_ret (results_ct rfl _ _ rb 51 #[(.slice AG G.length cG), (.slice AE E.length cE), (.int .i64 day)] (0, 0) _ rfl hz3 Try.underlying51 rfl (by kernel_rfl)) rfl ?_
        exact ⟨_, rfl, bok_same HRW.out hB, hB⟩
    · have hc : oRC day G E v n nb m mb = k1 := by unfold oRC; rw [if_neg (fun z => z hv), hk1, if_pos c1]
      have hG : oRE day G E v n nb m mb = E := by unfold oRE; rw [hc, if_neg (by first | decide | assumption)]
      rw [hG, hc]
      clear hG hc
      have v1 : decide (v < 0) = false := decide_eq_false (by omega)
      have v2 : decide (v > 15) = false := decide_eq_false (by omega)
      have d2 : (k1 == 0) = false := beq_eq_false_iff_ne.2 c1
      have d3 : (k1 != 0) = true := bne_iff_ne.2 c1
      have hu51 := Try.underlying51
      have hu39 := Try.underlying39
      have hu44 := Try.underlying44
      go_enter Try.func72, Try.ntmps72
      have HB_67 := lhid (Below.refl w.heap.size w)
      go_upto_region 1 with (fail)
      have hb := below_alloc (Below.refl w.heap.size w) (.cells #[.slice AG G.length cG, .slice AE E.length cE, .int .i64 day] 51)
      have hn := blk_new w (.cells #[.slice AG G.length cG, .slice AE E.length cE, .int .i64 day] 51)
      have HZ1 := lhid (show (World.alloc w (.cells #[.slice AG G.length cG, .slice AE E.length cE, .int .i64 day] 51)).heap.size = w.heap.size + 1 from by simp)
      generalize hq : World.alloc w (.cells #[.slice AG G.length cG, .slice AE E.length cE, .int .i64 day] 51) = w1 at hb hn HZ1 ⊢
      clear hq
      have HB_68 := lhid (below_then HB_67.out HB_67.out.size hb)
      clear HB_67 hb
      have XB_69 := lhid (hn)
      clear hn
      obtain ⟨xb, hxb⟩ : ∃ q, q = w.heap.size := ⟨_, rfl⟩
      rw [← hxb] at XB_69 ⊢
      have Exb := lhid hxb
      clear hxb
      have hb := below_alloc (Below.refl w1.heap.size w1) (.cells #[.slice none 0 0, .slice none 0 0, .int .i64 0] 51)
      have hn := blk_new w1 (.cells #[.slice none 0 0, .slice none 0 0, .int .i64 0] 51)
      have HZ2 := lhid (show (World.alloc w1 (.cells #[.slice none 0 0, .slice none 0 0, .int .i64 0] 51)).heap.size = w1.heap.size + 1 from by simp)
      generalize hq : World.alloc w1 (.cells #[.slice none 0 0, .slice none 0 0, .int .i64 0] 51) = w2 at hb hn HZ2 ⊢
      clear hq
      have HB_70 := lhid (below_then HB_68.out HB_68.out.size hb)
      have XB_71 := lhid (blk_below XB_69.out hb)
      clear HB_68 XB_69 hb
      have RZ_72 := lhid (hn)
      clear hn
      obtain ⟨rb, hrb⟩ : ∃ q, q = xb + 1 := ⟨_, rfl⟩
      rw [show w1.heap.size = rb by rw [hrb]; have z1 := HZ1.out; have y0 := Exb.out; omega] at RZ_72
      rw [← hrb]
      have Erb := lhid hrb
      clear hrb
      have HNE := lhid (show xb = w.heap.size + 0 ∧ rb = w.heap.size + 1 ∧ w2.heap.size = w.heap.size + 2 by have z1 := HZ1.out; have z2 := HZ2.out; have y0 := Exb.out;  have y1 := Erb.out; omega)
      clear Exb Erb HZ1 HZ2
      have HRB := lhid (show w.heap.size ≤ rb by have := HNE.out; omega)
      obtain ⟨z0, z1, z2⟩ := three XB_71.out
      go_wp2_with fail
      try any_goals (exfalso; omega)
      have hq := key_r w2 AG cG G AE cE E day v n nb (HRW.out.rb HB_70.out) HT.out HE.out HLE.out HU.out (by omega) (by omega)
      rw [hk1] at hq
      have HQ := lhid hq
      clear hq
      with_reducible refine HQ.out.mono ?_
      rintro e w21 ⟨rfl, hb⟩
      clear HQ
      clear z0 z1 z2
      have HB_73 := lhid (below_then HB_70.out HB_70.out.size hb)
      have XB_74 := lhid (blk_below XB_71.out hb)
      have RZ_75 := lhid (blk_below RZ_72.out hb)
      clear HB_70 XB_71 RZ_72 hb
      obtain ⟨z0, z1, z2⟩ := three XB_74.out
      obtain ⟨r0, r1, r2⟩ := three RZ_75.out
      have hfz : ∀ o, w21.frozen? ⟨rb, o, none⟩ = false := fun o => blk_frozen RZ_75.out o
      go_wp2_with fail
      try any_goals (exfalso; omega)
      try any_goals (exfalso; contradiction)
      clear z0 z1 z2
      clear r0 r1 r2 hfz
      have hz1 := blk_put RZ_75.out 0 (.slice AG G.length cG) rfl
      have hz2 := blk_put hz1 1 (.slice AE E.length cE) rfl
      have hz3 := blk_put hz2 2 (.int .i64 day) rfl
      have hB := ((HB_73.out.setCell (p := ⟨rb, 0, none⟩) HRB.out (.slice AG G.length cG)).setCell (p := ⟨rb, 1, none⟩) HRB.out (.slice AE E.length cE)).setCell (p := ⟨rb, 2, none⟩) HRB.out (.int .i64 day)
      clear hz1 hz2
      generalize (World.setCell (World.setCell (World.setCell w21 ⟨rb, 0, none⟩ (.slice AG G.length cG)) ⟨rb, 1, none⟩ (.slice AE E.length cE)) ⟨rb, 2, none⟩ (.int .i64 day)) = w9 at hz3  hB ⊢
      refine bodyPost_ret (results_ct rfl _ _ rb 51 #[(.slice AG G.length cG), (.slice AE E.length cE), (.int .i64 day)] (0, 0) _ rfl hz3 Try.underlying51 rfl (by kernel_rfl)) rfl ?_
      exact ⟨_, rfl, bok_same HRW.out hB, hB⟩
  · have hc : oRC day G E v n nb m mb = 2 := by unfold oRC; rw [if_pos hv]
    have hG : oRE day G E v n nb m mb = E := by unfold oRE; rw [hc, if_neg (by first | decide | assumption)]
    rw [hG, hc]
    clear hG hc
    by_cases hv0 : v < 0
    · have v1 : decide (v < 0) = true := decide_eq_true hv0
      have hu51 := Try.underlying51
      have hu39 := Try.underlying39
      have hu44 := Try.underlying44
      go_enter Try.func72, Try.ntmps72
      have HB_76 := lhid (Below.refl w.heap.size w)
      go_upto_region 1 with (fail)
      have hb := below_alloc (Below.refl w.heap.size w) (.cells #[.slice AG G.length cG, .slice AE E.length cE, .int .i64 day] 51)
      have hn := blk_new w (.cells #[.slice AG G.length cG, .slice AE E.length cE, .int .i64 day] 51)
      have HZ1 := lhid (show (World.alloc w (.cells #[.slice AG G.length cG, .slice AE E.length cE, .int .i64 day] 51)).heap.size = w.heap.size + 1 from by simp)
      generalize hq : World.alloc w (.cells #[.slice AG G.length cG, .slice AE E.length cE, .int .i64 day] 51) = w1 at hb hn HZ1 ⊢
      clear hq
      have HB_77 := lhid (below_then HB_76.out HB_76.out.size hb)
      clear HB_76 hb
      have XB_78 := lhid (hn)
      clear hn
      obtain ⟨xb, hxb⟩ : ∃ q, q = w.heap.size := ⟨_, rfl⟩
      rw [← hxb] at XB_78 ⊢
      have Exb := lhid hxb
      clear hxb
      have hb := below_alloc (Below.refl w1.heap.size w1) (.cells #[.slice none 0 0, .slice none 0 0, .int .i64 0] 51)
      have hn := blk_new w1 (.cells #[.slice none 0 0, .slice none 0 0, .int .i64 0] 51)
      have HZ2 := lhid (show (World.alloc w1 (.cells #[.slice none 0 0, .slice none 0 0, .int .i64 0] 51)).heap.size = w1.heap.size + 1 from by simp)
      generalize hq : World.alloc w1 (.cells #[.slice none 0 0, .slice none 0 0, .int .i64 0] 51) = w2 at hb hn HZ2 ⊢
      clear hq
      have HB_79 := lhid (below_then HB_77.out HB_77.out.size hb)
      have XB_80 := lhid (blk_below XB_78.out hb)
      clear HB_77 XB_78 hb
      have RZ_81 := lhid (hn)
      clear hn
      obtain ⟨rb, hrb⟩ : ∃ q, q = xb + 1 := ⟨_, rfl⟩
      rw [show w1.heap.size = rb by rw [hrb]; have z1 := HZ1.out; have y0 := Exb.out; omega] at RZ_81
      rw [← hrb]
      have Erb := lhid hrb
      clear hrb
      have HNE := lhid (show xb = w.heap.size + 0 ∧ rb = w.heap.size + 1 ∧ w2.heap.size = w.heap.size + 2 by have z1 := HZ1.out; have z2 := HZ2.out; have y0 := Exb.out;  have y1 := Erb.out; omega)
      clear Exb Erb HZ1 HZ2
      have HRB := lhid (show w.heap.size ≤ rb by have := HNE.out; omega)
      obtain ⟨z0, z1, z2⟩ := three XB_80.out
      obtain ⟨r0, r1, r2⟩ := three RZ_81.out
      have hfz : ∀ o, w2.frozen? ⟨rb, o, none⟩ = false := fun o => blk_frozen RZ_81.out o
      go_wp2_with fail
      try any_goals (exfalso; omega)
      try any_goals (exfalso; contradiction)
      clear z0 z1 z2
      clear r0 r1 r2 hfz
      have hz1 := blk_put RZ_81.out 0 (.slice AG G.length cG) rfl
      have hz2 := blk_put hz1 1 (.slice AE E.length cE) rfl
      have hz3 := blk_put hz2 2 (.int .i64 day) rfl
      have hB := ((HB_79.out.setCell (p := ⟨rb, 0, none⟩) HRB.out (.slice AG G.length cG)).setCell (p := ⟨rb, 1, none⟩) HRB.out (.slice AE E.length cE)).setCell (p := ⟨rb, 2, none⟩) HRB.out (.int .i64 day)
      clear hz1 hz2
      generalize (World.setCell (World.setCell (World.setCell w2 ⟨rb, 0, none⟩ (.slice AG G.length cG)) ⟨rb, 1, none⟩ (.slice AE E.length cE)) ⟨rb, 2, none⟩ (.int .i64 day)) = w9 at hz3  hB ⊢
      refine bodyPost_ret (results_ct rfl _ _ rb 51 #[(.slice AG G.length cG), (.slice AE E.length cE), (.int .i64 day)] (0, 0) _ rfl hz3 Try.underlying51 rfl (by kernel_rfl)) rfl ?_
      exact ⟨_, rfl, bok_same HRW.out hB, hB⟩
    · have v1 : decide (v < 0) = false := decide_eq_false hv0
      have v2 : decide (v > 15) = true := decide_eq_true (by omega)
      have hu51 := Try.underlying51
      have hu39 := Try.underlying39
      have hu44 := Try.underlying44
      go_enter Try.func72, Try.ntmps72
      have HB_82 := lhid (Below.refl w.heap.size w)
      go_upto_region 1 with (fail)
      have hb := below_alloc (Below.refl w.heap.size w) (.cells #[.slice AG G.length cG, .slice AE E.length cE, .int .i64 day] 51)
      have hn := blk_new w (.cells #[.slice AG G.length cG, .slice AE E.length cE, .int .i64 day] 51)
      have HZ1 := lhid (show (World.alloc w (.cells #[.slice AG G.length cG, .slice AE E.length cE, .int .i64 day] 51)).heap.size = w.heap.size + 1 from by simp)
      generalize hq : World.alloc w (.cells #[.slice AG G.length cG, .slice AE E.length cE, .int .i64 day] 51) = w1 at hb hn HZ1 ⊢
      clear hq
      have HB_83 := lhid (below_then HB_82.out HB_82.out.size hb)
      clear HB_82 hb
      have XB_84 := lhid (hn)
      clear hn
      obtain ⟨xb, hxb⟩ : ∃ q, q = w.heap.size := ⟨_, rfl⟩
      rw [← hxb] at XB_84 ⊢
      have Exb := lhid hxb
      clear hxb
      have hb := below_alloc (Below.refl w1.heap.size w1) (.cells #[.slice none 0 0, .slice none 0 0, .int .i64 0] 51)
      have hn := blk_new w1 (.cells #[.slice none 0 0, .slice none 0 0, .int .i64 0] 51)
      have HZ2 := lhid (show (World.alloc w1 (.cells #[.slice none 0 0, .slice none 0 0, .int .i64 0] 51)).heap.size = w1.heap.size + 1 from by simp)
      generalize hq : World.alloc w1 (.cells #[.slice none 0 0, .slice none 0 0, .int .i64 0] 51) = w2 at hb hn HZ2 ⊢
      clear hq
      have HB_85 := lhid (below_then HB_83.out HB_83.out.size hb)
      have XB_86 := lhid (blk_below XB_84.out hb)
      clear HB_83 XB_84 hb
      have RZ_87 := lhid (hn)
      clear hn
      obtain ⟨rb, hrb⟩ : ∃ q, q = xb + 1 := ⟨_, rfl⟩
      rw [show w1.heap.size = rb by rw [hrb]; have z1 := HZ1.out; have y0 := Exb.out; omega] at RZ_87
      rw [← hrb]
      have Erb := lhid hrb
      clear hrb
      have HNE := lhid (show xb = w.heap.size + 0 ∧ rb = w.heap.size + 1 ∧ w2.heap.size = w.heap.size + 2 by have z1 := HZ1.out; have z2 := HZ2.out; have y0 := Exb.out;  have y1 := Erb.out; omega)
      clear Exb Erb HZ1 HZ2
      have HRB := lhid (show w.heap.size ≤ rb by have := HNE.out; omega)
      obtain ⟨z0, z1, z2⟩ := three XB_86.out
      obtain ⟨r0, r1, r2⟩ := three RZ_87.out
      have hfz : ∀ o, w2.frozen? ⟨rb, o, none⟩ = false := fun o => blk_frozen RZ_87.out o
      go_wp2_with fail
      try any_goals (exfalso; omega)
      try any_goals (exfalso; contradiction)
      clear z0 z1 z2
      clear r0 r1 r2 hfz
      have hz1 := blk_put RZ_87.out 0 (.slice AG G.length cG) rfl
      have hz2 := blk_put hz1 1 (.slice AE E.length cE) rfl
      have hz3 := blk_put hz2 2 (.int .i64 day) rfl
      have hB := ((HB_85.out.setCell (p := ⟨rb, 0, none⟩) HRB.out (.slice AG G.length cG)).setCell (p := ⟨rb, 1, none⟩) HRB.out (.slice AE E.length cE)).setCell (p := ⟨rb, 2, none⟩) HRB.out (.int .i64 day)
      clear hz1 hz2
      generalize (World.setCell (World.setCell (World.setCell w2 ⟨rb, 0, none⟩ (.slice AG G.length cG)) ⟨rb, 1, none⟩ (.slice AE E.length cE)) ⟨rb, 2, none⟩ (.int .i64 day)) = w9 at hz3  hB ⊢
      refine bodyPost_ret (results_ct rfl _ _ rb 51 #[(.slice AG G.length cG), (.slice AE E.length cE), (.int .i64 day)] (0, 0) _ rfl hz3 Try.underlying51 rfl (by kernel_rfl)) rfl ?_
      exact ⟨_, rfl, bok_same HRW.out hB, hB⟩
end Go.Proofs.Ytfnlghjkjmppdaa.PC
end
section
namespace Go.Proofs.Ytfnlghjkjmppdaa.PC
open Go.RowKit Go.Proofs.YtfnlghjkjmppdaaW.PrintWords Go.Proofs.YtfnlghjkjmppdaaW.PrintLast Go.Proofs.YtfnlghjkjmppdaaW.PrintMore
set_option linter.unusedVariables false
set_option linter.unusedSimpArgs false
def tb (x : Int) (v : Nat) : Bool := x.toNat.testBit v
def Sm (x : Int) : Prop := 0 ≤ x ∧ x < 65536
theorem sm_and {a b : Int} (ha : Sm a) (hb : Sm b) : Sm (bits .and .i64 a b) := by
  rw [and_i ha.1 ha.2 hb.1 hb.2]
  have : a.toNat &&& b.toNat < 2 ^ 16 := Nat.and_lt_two_pow _ (by have := hb.1; have := hb.2; omega)
  exact ⟨by omega, by omega⟩
theorem sm_or {a b : Int} (ha : Sm a) (hb : Sm b) : Sm (bits .or .i64 a b) := by
  rw [or_i ha.1 ha.2 hb.1 hb.2]
  have : a.toNat ||| b.toNat < 2 ^ 16 := Nat.or_lt_two_pow (by have := ha.1; have := ha.2; omega) (by have := hb.1; have := hb.2; omega)
  exact ⟨by omega, by omega⟩
theorem tb_and {a b : Int} (ha : Sm a) (hb : Sm b) (v : Nat) : tb (bits .and .i64 a b) v = (tb a v && tb b v) := by
  unfold tb
  rw [and_i ha.1 ha.2 hb.1 hb.2, Int.toNat_natCast, Nat.testBit_and]
theorem tb_or {a b : Int} (ha : Sm a) (hb : Sm b) (v : Nat) : tb (bits .or .i64 a b) v = (tb a v || tb b v) := by
  unfold tb
  rw [or_i ha.1 ha.2 hb.1 hb.2, Int.toNat_natCast, Nat.testBit_or]
theorem tb_ext {a b : Int} (ha : Sm a) (hb : Sm b) (h : ∀ v, tb a v = tb b v) : a = b := by
  have : a.toNat = b.toNat := Nat.eq_of_testBit_eq h
  have := ha.1; have := hb.1; omega
theorem ne_zero_bit (x : Nat) : x ≠ 0 ↔ ∃ i, x.testBit i = true := by
  constructor
  · intro h
    exact Classical.byContradiction fun q => h (Nat.eq_of_testBit_eq fun i => by
      rw [Nat.zero_testBit]
      exact Bool.eq_false_iff.2 fun e => q ⟨i, e⟩)
  · rintro ⟨i, hi⟩ rfl
    simp at hi
theorem pw {f : Int} (h0 : 0 ≤ f) (h1 : f ≤ 15) : wrap64 ((2 : Int) ^ f.toNat) = ((2 ^ f.toNat : Nat) : Int) ∧ 2 ^ f.toNat < 65536 := by
  have hlt : 2 ^ f.toNat < 65536 := Nat.pow_lt_pow_right (by omega) (show f.toNat < 16 by omega)
  refine ⟨?_, hlt⟩
  have : ((2 : Int) ^ f.toNat) = ((2 ^ f.toNat : Nat) : Int) := by simp
  rw [this]
  generalize 2 ^ f.toNat = M at hlt
  unfold wrap64; omega
theorem serv_bit {p f : Int} (hp : Sm p) (h0 : 0 ≤ f) (h1 : f ≤ 15) : (bits .and .i64 p (wrap64 ((2 : Int) ^ f.toNat)) != 0) = tb p f.toNat := by
  obtain ⟨e, hlt⟩ := pw h0 h1
  rw [e, and_i hp.1 hp.2 (Int.natCast_nonneg _) (Int.ofNat_lt.2 hlt), Int.toNat_natCast]
  unfold tb
  by_cases c : p.toNat.testBit f.toNat = true
  · rw [c]
    apply bne_iff_ne.2
    have : p.toNat &&& 2 ^ f.toNat ≠ 0 := (ne_zero_bit _).2 ⟨f.toNat, by rw [Nat.testBit_and, c, Nat.testBit_two_pow_self]; rfl⟩
    omega
  · have c' := Bool.eq_false_iff.2 c
    rw [c']
    have : p.toNat &&& 2 ^ f.toNat = 0 := Classical.byContradiction fun q => by
      obtain ⟨i, hi⟩ := (ne_zero_bit _).1 q
      rw [Nat.testBit_and, Bool.and_eq_true, Nat.testBit_two_pow] at hi
      have : f.toNat = i := of_decide_eq_true hi.2
      subst this
      rw [c'] at hi; simp at hi
    rw [this]; rfl
def Else (p : Int) (f : Nat) : Prop := ∃ i, i ≠ f ∧ tb p i = true
theorem else_bit {p f : Int} (hp : Sm p) (h0 : 0 ≤ f) (h1 : f ≤ 15) : (bits .andNot .i64 p (wrap64 ((2 : Int) ^ f.toNat)) != 0) = true ↔ Else p f.toNat := by
  obtain ⟨e, hlt⟩ := pw h0 h1
  obtain ⟨A, rfl⟩ := Int.eq_ofNat_of_zero_le hp.1
  have hA := hp.2
  rw [e, andNot_n A _ (by omega) (by omega)]
  rw [bne_iff_ne]
  have key : (A &&& (18446744073709551615 - 2 ^ f.toNat) ≠ 0) ↔ Else (A : Int) f.toNat := by
    rw [ne_zero_bit]
    constructor
    · rintro ⟨i, hi⟩
      rw [andNot_bit A _ i (by omega) (by omega), Bool.and_eq_true, Nat.testBit_two_pow] at hi
      refine ⟨i, fun q => ?_, by unfold tb; rw [Int.toNat_natCast]; exact hi.1⟩
      rw [q] at hi; simp at hi
    · rintro ⟨i, hne, hi⟩
      unfold tb at hi
      rw [Int.toNat_natCast] at hi
      refine ⟨i, ?_⟩
      rw [andNot_bit A _ i (by omega) (by omega), hi, Nat.testBit_two_pow, decide_eq_false (fun q => hne q.symm)]; rfl
  rw [← key]
  omega
theorem two_bit {a : Int} (ha : 0 ≤ a) (hb : a ≤ 3) : (bits .and .i64 a 2 != 0) = tb a 1 := by
  have : a = 0 ∨ a = 1 ∨ a = 2 ∨ a = 3 := by omega
  rcases this with rfl | rfl | rfl | rfl <;> decide +kernel
theorem one_bit {a : Int} (ha : 0 ≤ a) (hb : a ≤ 3) : (bits .and .i64 a 1 != 0) = tb a 0 := by
  have : a = 0 ∨ a = 1 ∨ a = 2 ∨ a = 3 := by omega
  rcases this with rfl | rfl | rfl | rfl <;> decide +kernel
def Two (p : Int) (x y : S39) : Prop := x.f2 ≠ y.f2 ∧ (x.f3 ≠ y.f3 ∨ ((tb x.f5 1 = true ∨ tb y.f5 1 = true) ∧ Else p x.f3.toNat))
theorem pair_two {p : Int} {x y : S39} (hp : Sm p) (hx : Ok1 x) (hy : Ok1 y) : pairB p x y = true ↔ Two p x y := by
  obtain ⟨a1, a2, a3, a4, a5, a6, _⟩ := hx
  obtain ⟨b1, b2, b3, b4, b5, b6, _⟩ := hy
  have s1 : Sm x.f5 := ⟨by omega, by omega⟩
  have s2 : Sm y.f5 := ⟨by omega, by omega⟩
  have hor : 0 ≤ bits .or .i64 x.f5 y.f5 ∧ bits .or .i64 x.f5 y.f5 ≤ 3 := by
    rw [or_i s1.1 s1.2 s2.1 s2.2]
    have : x.f5.toNat ||| y.f5.toNat < 2 ^ 2 := Nat.or_lt_two_pow (by omega) (by omega)
    omega
  unfold pairB Two
  rw [two_bit hor.1 hor.2, tb_or s1 s2, Bool.and_eq_true, Bool.or_eq_true, Bool.and_eq_true, Bool.or_eq_true, bne_iff_ne, bne_iff_ne, else_bit hp a1 a2]
theorem inn_tb {p : Int} {x : S39} (hx : Sm x.f4) : ∀ (ys : List S39) (a : Int), (∀ y ∈ ys, Sm y.f4) → Sm a → Sm (innS p x a ys) ∧ ∀ v, tb (innS p x a ys) v = true ↔ tb a v = true ∨ ∃ y ∈ ys, pairB p x y = true ∧ tb x.f4 v = true ∧ tb y.f4 v = true
  | [], a, _, ha => ⟨ha, fun v => by simp [innS]⟩
  | y :: ys, a, hy, ha => by
    have h1 := hy y (by simp)
    have step : innS p x a (y :: ys) = innS p x (if pairB p x y then bits .or .i64 a (bits .and .i64 x.f4 y.f4) else a) ys := rfl
    rw [step]
    by_cases c : pairB p x y = true
    · rw [if_pos c]
      obtain ⟨k1, k2⟩ := inn_tb (p := p) hx ys (bits .or .i64 a (bits .and .i64 x.f4 y.f4)) (fun q hq => hy q (by simp [hq])) (sm_or ha (sm_and hx h1))
      refine ⟨k1, fun v => ?_⟩
      rw [k2 v, tb_or ha (sm_and hx h1), tb_and hx h1]
      simp only [Bool.or_eq_true, Bool.and_eq_true, List.mem_cons, exists_eq_or_imp]
      constructor
      · rintro ((h | h) | h)
        · exact Or.inl h
        · exact Or.inr (Or.inl ⟨c, h⟩)
        · exact Or.inr (Or.inr h)
      · rintro (h | h | h)
        · exact Or.inl (Or.inl h)
        · exact Or.inl (Or.inr h.2)
        · exact Or.inr h
    · rw [if_neg c]
      obtain ⟨k1, k2⟩ := inn_tb (p := p) hx ys a (fun q hq => hy q (by simp [hq])) ha
      refine ⟨k1, fun v => ?_⟩
      rw [k2 v]
      simp only [List.mem_cons, exists_eq_or_imp]
      constructor
      · rintro (h | h)
        · exact Or.inl h
        · exact Or.inr (Or.inr h)
      · rintro (h | h | h)
        · exact Or.inl h
        · exact absurd h.1 c
        · exact Or.inr h
theorem out_tb {p : Int} {ks : List S39} (hk : ∀ x ∈ ks, Sm x.f4) : ∀ i, i ≤ ks.length → Sm (outS p ks i) ∧ ∀ v, tb (outS p ks i) v = true ↔ ∃ m j, j < m ∧ m < i ∧ pairB p (ks.getD m z39) (ks.getD j z39) = true ∧ tb (ks.getD m z39).f4 v = true ∧ tb (ks.getD j z39).f4 v = true
  | 0, _ => ⟨⟨Int.le_refl _, by show (0 : Int) < 65536; omega⟩, fun v => by
      constructor
      · intro h; simp [outS, tb] at h
      · rintro ⟨m, j, _, h, _⟩; omega⟩
  | i + 1, hi => by
    obtain ⟨k1, k2⟩ := out_tb hk i (by omega)
    have hm := getD_mem (show i < ks.length by omega)
    obtain ⟨n1, n2⟩ := inn_tb (p := p) (hk _ hm) (ks.take i) (outS p ks i) (fun y hy => hk y (List.mem_of_mem_take hy)) k1
    refine ⟨n1, fun v => ?_⟩
    show tb (innS p (ks.getD i z39) (outS p ks i) (ks.take i)) v = true ↔ _
    rw [n2 v, k2 v]
    constructor
    · rintro (⟨m, j, q1, q2, q3⟩ | ⟨y, hy, q1, q2, q3⟩)
      · exact ⟨m, j, q1, by omega, q3⟩
      · obtain ⟨j, hj, e⟩ := List.getElem_of_mem hy
        rw [List.length_take] at hj
        have hjl : j < ks.length := by omega
        have e2 : ks.getD j z39 = y := by
          rw [List.getElem_take] at e
          rw [List.getD_eq_getElem?_getD, List.getElem?_eq_getElem hjl, ← e]; rfl
        exact ⟨i, j, by omega, by omega, by rw [e2]; exact q1, q2, by rw [e2]; exact q3⟩
    · rintro ⟨m, j, q1, q2, q3, q4, q5⟩
      by_cases c : m < i
      · exact Or.inl ⟨m, j, q1, c, q3, q4, q5⟩
      · have : m = i := by omega
        subst this
        refine Or.inr ⟨ks.getD j z39, ?_, q3, q4, q5⟩
        rw [List.getD_eq_getElem?_getD, List.getElem?_eq_getElem (by omega)]
        exact List.mem_take_iff_getElem.2 ⟨j, by omega, rfl⟩
def keysN (day : Int) (G : List S39) (p : Int) : Nat → List Nat
  | 0 => []
  | k + 1 => if servB day G p (k + 1) then keysN day G p k ++ [k + 1] else keysN day G p k
theorem keysS_map (day : Int) (G : List S39) (p : Int) : ∀ k, keysS day G p k = (keysN day G p k).map (gr G)
  | 0 => rfl
  | k + 1 => by
    have ih := keysS_map day G p k
    unfold keysS keysN
    by_cases c : servB day G p (k + 1) = true
    · rw [if_pos c, if_pos c, List.map_append, ih]; rfl
    · rw [if_neg c, if_neg c, ih]
theorem keysN_mem (day : Int) (G : List S39) (p : Int) (n : Nat) : ∀ k, n ∈ keysN day G p k ↔ 1 ≤ n ∧ n ≤ k ∧ servB day G p n = true
  | 0 => by simp [keysN]; omega
  | k + 1 => by
    have ih := keysN_mem day G p n k
    unfold keysN
    by_cases c : servB day G p (k + 1) = true
    · rw [if_pos c, List.mem_append, ih, List.mem_singleton]
      constructor
      · rintro (h | rfl)
        · exact ⟨h.1, by omega, h.2.2⟩
        · exact ⟨by omega, by omega, c⟩
      · rintro ⟨h1, h2, h3⟩
        by_cases e : n = k + 1
        · exact Or.inr e
        · exact Or.inl ⟨h1, by omega, h3⟩
    · rw [if_neg c, ih]
      constructor
      · rintro ⟨h1, h2, h3⟩; exact ⟨h1, by omega, h3⟩
      · rintro ⟨h1, h2, h3⟩
        refine ⟨h1, ?_, h3⟩
        by_cases e : n = k + 1
        · subst e; exact absurd h3 c
        · omega
theorem keysN_sorted (day : Int) (G : List S39) (p : Int) : ∀ k, (keysN day G p k).Pairwise (· < ·)
  | 0 => List.Pairwise.nil
  | k + 1 => by
    have ih := keysN_sorted day G p k
    unfold keysN
    by_cases c : servB day G p (k + 1) = true
    · rw [if_pos c, List.pairwise_append]
      refine ⟨ih, by simp, fun a ha b hb => ?_⟩
      have h1 := (keysN_mem day G p a k).1 ha
      simp only [List.mem_singleton] at hb
      omega
    · rw [if_neg c]; exact ih
theorem could_tb {day : Int} {G : List S39} {p : Int} (hI : Inv G) : Sm (couldS day G p) ∧ ∀ v, tb (couldS day G p) v = true ↔ ∃ a b, 1 ≤ b ∧ b < a ∧ a ≤ G.length ∧ servB day G p a = true ∧ servB day G p b = true ∧ pairB p (gr G a) (gr G b) = true ∧ tb (gr G a).f4 v = true ∧ tb (gr G b).f4 v = true := by
  have hk : ∀ x ∈ keysS day G p G.length, Sm x.f4 := fun x hx => by
    obtain ⟨n, q1, q2, rfl⟩ := keysS_mem hx
    obtain ⟨_, _, o3, o4, _⟩ := hI.2 n q1 q2
    exact ⟨by omega, o4⟩
  obtain ⟨k1, k2⟩ := out_tb (p := p) hk _ (Nat.le_refl _)
  refine ⟨k1, fun v => (k2 v).trans ?_⟩
  have hlen : (keysS day G p G.length).length = (keysN day G p G.length).length := by rw [keysS_map, List.length_map]
  have hget : ∀ m, (h : m < (keysN day G p G.length).length) → (keysS day G p G.length).getD m z39 = gr G ((keysN day G p G.length)[m]) := fun m h => by
    rw [List.getD_eq_getElem?_getD, keysS_map, List.getElem?_map, List.getElem?_eq_getElem h]; rfl
  constructor
  · rintro ⟨m, j, q1, q2, q3, q4, q5⟩
    rw [hlen] at q2
    have hj : j < (keysN day G p G.length).length := by omega
    rw [hget m q2] at q3 q4
    rw [hget j hj] at q3 q5
    have m1 := (keysN_mem day G p _ G.length).1 (List.getElem_mem q2)
    have m2 := (keysN_mem day G p _ G.length).1 (List.getElem_mem hj)
    have hs := List.pairwise_iff_getElem.1 (keysN_sorted day G p G.length) j m hj q2 q1
    exact ⟨_, _, m2.1, hs, m1.2.1, m1.2.2, m2.2.2, q3, q4, q5⟩
  · rintro ⟨a, b, q1, q2, q3, q4, q5, q6, q7, q8⟩
    obtain ⟨m, hm, em⟩ := List.getElem_of_mem ((keysN_mem day G p a G.length).2 ⟨by omega, q3, q4⟩)
    obtain ⟨j, hj, ej⟩ := List.getElem_of_mem ((keysN_mem day G p b G.length).2 ⟨q1, by omega, q5⟩)
    have hjm : j < m := Classical.byContradiction fun h => by
      by_cases e : m = j
      · subst e; rw [em] at ej; omega
      · have hs := List.pairwise_iff_getElem.1 (keysN_sorted day G p G.length) m j hm hj (by omega)
        rw [em, ej] at hs; omega
    refine ⟨m, j, hjm, by rw [hlen]; exact hm, ?_, ?_, ?_⟩
    · rw [hget m hm, hget j hj, em, ej]; exact q6
    · rw [hget m hm, em]; exact q7
    · rw [hget j hj, ej]; exact q8
end Go.Proofs.Ytfnlghjkjmppdaa.PC
end
section
namespace Go.Proofs.Ytfnlghjkjmppdaa.PC
open Go.RowKit Go.Proofs.YtfnlghjkjmppdaaW.PrintWords Go.Proofs.YtfnlghjkjmppdaaW.PrintLast Go.Proofs.YtfnlghjkjmppdaaW.PrintMore
set_option linter.unusedVariables false
set_option linter.unusedSimpArgs false
theorem servB_iff {day : Int} {G : List S39} {p : Int} (hI : Inv G) (hp : Sm p) {n : Nat} (h1 : 1 ≤ n) (h2 : n ≤ G.length) : servB day G p n = true ↔ tb p (gr G n).f3.toNat = true ∧ tb (gr G n).f5 0 = true ∧ stB day G n = true ∧ spB G n = false := by
  obtain ⟨o1, o2, o3, o4, o5, o6, _⟩ := hI.2 n h1 h2
  unfold servB
  rw [serv_bit hp o1 o2, one_bit (by omega) o6]
  simp only [Bool.and_eq_true, Bool.not_eq_true']
theorem shr_bit {p n : Int} (hp : Sm p) (h0 : 0 ≤ n) (h1 : n ≤ 15) : ((shr .i64 p n).tmod 2 == 1) = tb p n.toNat := by
  obtain ⟨m, rfl⟩ := Int.eq_ofNat_of_zero_le h0
  obtain ⟨A, rfl⟩ := Int.eq_ofNat_of_zero_le hp.1
  have e : shr .i64 (A : Int) (m : Int) = ((A / 2 ^ m : Nat) : Int) := by
    unfold shr
    rw [Int.toNat_natCast, Nat.min_eq_left (show m ≤ IntKind.bits .i64 by show m ≤ 64; omega), show ((2 : Int) ^ m) = ((2 ^ m : Nat) : Int) by simp]
    exact (Int.natCast_ediv A _).symm
  rw [e]
  unfold tb
  rw [Int.toNat_natCast, Int.toNat_natCast, Nat.testBit_eq_decide_div_mod_eq, Int.tmod_eq_emod_of_nonneg (Int.natCast_nonneg _)]
  generalize A / 2 ^ m = M
  by_cases c : M % 2 = 1
  · rw [decide_eq_true c]; exact beq_iff_eq.2 (by omega)
  · rw [decide_eq_false c]; exact beq_eq_false_iff_ne.2 (by omega)
end Go.Proofs.Ytfnlghjkjmppdaa.PC
end
section
namespace Go.Proofs.Ytfnlghjkjmppdaa.PC
open Go.RowKit Go.Proofs.YtfnlghjkjmppdaaW.PrintWords Go.Proofs.YtfnlghjkjmppdaaW.PrintLast Go.Proofs.YtfnlghjkjmppdaaW.PrintMore
set_option linter.unusedVariables false
set_option linter.unusedSimpArgs false
theorem two_new (W : World) {b1 b2 : Nat} (h : (b1 = W.heap.size ∧ b2 = W.heap.size + 1) ∨ (b1 = W.heap.size + 1 ∧ b2 = W.heap.size)) {o : Obj} : b1 ≠ b2 ∧ ((W.alloc o).alloc o).heap[b1]? = some o ∧ ((W.alloc o).alloc o).heap[b2]? = some o ∧ W.heap.size ≤ b1 ∧ W.heap.size ≤ b2 := by
  have h1 : ((W.alloc o).alloc o).heap[W.heap.size + 1]? = some o := by
    have := blk_new (W.alloc o) o
    rwa [show (W.alloc o).heap.size = W.heap.size + 1 by simp] at this
  have h0 : ((W.alloc o).alloc o).heap[W.heap.size]? = some o := by
    have q : (W.alloc o).heap[W.heap.size]? = some o := blk_new W o
    rw [(below_alloc (Below.refl (W.alloc o).heap.size (W.alloc o)) o).block _ (by simp)]
    exact q
  rcases h with ⟨rfl, rfl⟩ | ⟨rfl, rfl⟩
  · exact ⟨by omega, h0, h1, Nat.le_refl _, by omega⟩
  · exact ⟨by omega, h1, h0, by omega, Nat.le_refl _⟩
end Go.Proofs.Ytfnlghjkjmppdaa.PC
end
section
namespace Go.Proofs.Ytfnlghjkjmppdaa.PC
open Go.RowKit Go.Proofs.YtfnlghjkjmppdaaW.PrintWords Go.Proofs.YtfnlghjkjmppdaaW.PrintLast Go.Proofs.YtfnlghjkjmppdaaW.PrintMore
set_option linter.unusedVariables false
set_option linter.unusedSimpArgs false
def goneB (G : List S39) (no i : Nat) : Bool := (up G i).contains no
theorem up_put8 {G : List S39} (hI : Inv G) {m : Nat} (h1 : 1 ≤ m) (h2 : m ≤ G.length) (u : Bool) {n : Nat} (hn : n ≤ G.length) : up (put8 G m u) n = up G n :=
  up_same hI.1 (inv_put8 hI h1 h2 u).1 (put8_len _ _ _) (fun k q1 q2 => by
    rw [gr_put8 G m k u h1 h2 q1]
    split
    · rename_i e; subst e; rfl
    · rfl) n n (Nat.le_refl _) hn
theorem revB_put8 {G : List S39} (hI : Inv G) {m : Nat} (h1 : 1 ≤ m) (h2 : m ≤ G.length) {n : Nat} (hn : n ≤ G.length) : revB (put8 G m true) n = (revB G n || goneB G m n) := by
  unfold revB goneB
  rw [up_put8 hI h1 h2 true hn]
  have hm := up_rng hI.1 hn
  generalize up G n = l at hm
  induction l with
  | nil => rfl
  | cons a l ih =>
    rw [List.any_cons, List.any_cons, List.contains_cons, ih (fun q hq => hm q (by simp [hq])), gr_put8 G m a true h1 h2 (hm a (by simp)).1]
    by_cases c : a = m
    · subst c; simp
    · rw [if_neg c, show (m == a) = false from beq_eq_false_iff_ne.2 (fun e => c e.symm)]
      cases (gr G a).f8 <;> simp
theorem stB_put8 {day : Int} {G : List S39} (hI : Inv G) {m : Nat} (h1 : 1 ≤ m) (h2 : m ≤ G.length) {n : Nat} (hn1 : 1 ≤ n) (hn : n ≤ G.length) : stB day (put8 G m true) n = (stB day G n && !goneB G m n) := by
  unfold stB
  have e : (gr (put8 G m true) n).f6 = (gr G n).f6 := by
    rw [gr_put8 G m n true h1 h2 hn1]
    split
    · rename_i e; subst e; rfl
    · rfl
  rw [revB_put8 hI h1 h2 hn, e]
  cases decide (day ≤ (gr G n).f6) <;> cases revB G n <;> cases goneB G m n <;> rfl
theorem belL_same {G H : List S39} (hu : ∀ i, i ≤ G.length → up H i = up G i) (n : Nat) : ∀ k, n + k ≤ G.length → belL H n k = belL G n k
  | 0, _ => rfl
  | k + 1, h => by
    unfold belL
    rw [hu _ (by omega), belL_same hu n k (by omega)]
theorem belowL_put8 {G : List S39} (hI : Inv G) {m : Nat} (h1 : 1 ≤ m) (h2 : m ≤ G.length) (u : Bool) : belowL (put8 G m u) m = belowL G m := by
  unfold belowL
  rw [put8_len]
  exact belL_same (fun i hi => up_put8 hI h1 h2 u hi) m _ (by omega)
theorem belL_rng (G : List S39) (n : Nat) : ∀ k, ∀ x ∈ belL G n k, (n : Int) + 1 ≤ x ∧ x ≤ n + k
  | 0, x, hx => by simp [belL] at hx
  | k + 1, x, hx => by
    unfold belL at hx
    split at hx
    · rcases List.mem_append.1 hx with q | q
      · have := belL_rng G n k x q; omega
      · have : x = ((n + k + 1 : Nat) : Int) := by simpa using q
        omega
    · have := belL_rng G n k x hx; omega
theorem belowL_rng {G : List S39} {n : Nat} (h : n ≤ G.length) (x : Int) (hx : x ∈ belowL G n) : 1 ≤ x ∧ x ≤ G.length := by
  have := belL_rng G n _ x hx; omega
def wasL (day : Int) (G : List S39) : Nat → List Bool
  | 0 => List.replicate (G.length + 1) false
  | k + 1 => (wasL day G k).set (k + 1) (stB day G (k + 1))
theorem wasL_len (day : Int) (G : List S39) : ∀ k, (wasL day G k).length = G.length + 1
  | 0 => by simp [wasL]
  | k + 1 => by rw [wasL, List.length_set, wasL_len day G k]
def cntG (day : Int) (G : List S39) (n : Nat) : Nat → Nat
  | 0 => 0
  | k + 1 => if (stB day G (k + 1) && goneB G n (k + 1)) = true then cntG day G n k + 1 else cntG day G n k
theorem cntG_le (day : Int) (G : List S39) (n : Nat) : ∀ k, cntG day G n k ≤ k
  | 0 => Nat.le_refl _
  | k + 1 => by
    have := cntG_le day G n k
    unfold cntG
    split <;> omega
theorem cntG_lo {day : Int} {G : List S39} (hT : Tree G) {n : Nat} : ∀ k, k < n → k ≤ G.length → cntG day G n k = 0
  | 0, _, _ => rfl
  | k + 1, h1, h2 => by
    have hg : goneB G n (k + 1) = false := by
      unfold goneB
      rw [Bool.eq_false_iff]
      intro hc
      have := up_mem hT (k + 1) (k + 1) (Nat.le_refl _) h2 n (by simpa using hc)
      omega
    unfold cntG
    rw [hg, Bool.and_false, if_neg (by decide), cntG_lo hT k (by omega) (by omega)]
theorem cntS_app (day : Int) (G : List S39) (l k : List Int) : cntS day G (l ++ k) = cntS day G l + cntS day G k := by
  unfold cntS; rw [List.filter_append, List.length_append]
theorem cntS_one (day : Int) (G : List S39) (n : Nat) : cntS day G [(n : Int)] = if stB day G n = true then 1 else 0 := by
  unfold cntS
  cases h : stB day G n <;> simp [h]
theorem cntG_belL {day : Int} {G : List S39} (hT : Tree G) {n : Nat} (h1 : 1 ≤ n) (h2 : n ≤ G.length) : ∀ k, n + k ≤ G.length → cntG day G n (n + k) = cntS day G (belL G n k ++ [(n : Int)])
  | 0, _ => by
    obtain ⟨m, rfl⟩ : ∃ m, n = m + 1 := ⟨n - 1, by omega⟩
    have hg : goneB G (m + 1) (m + 1) = true := by
      unfold goneB
      rw [up_succ hT h1 h2]; simp
    show cntG day G (m + 1) (m + 1) = cntS day G [((m + 1 : Nat) : Int)]
    rw [cntS_one]
    unfold cntG
    rw [hg, Bool.and_true, cntG_lo hT m (by omega) (by omega)]
  | k + 1, h => by
    have ih := cntG_belL (day := day) hT h1 h2 k (by omega)
    rw [cntS_app] at ih
    show cntG day G n (n + k + 1) = _
    unfold cntG belL
    unfold goneB
    rw [cntS_app]
    by_cases c : (up G (n + k + 1)).contains n = true
    · rw [if_pos c, c, Bool.and_true, cntS_app, cntS_one day G (n + k + 1), ih]
      split <;> omega
    · rw [if_neg c, Bool.eq_false_iff.2 c, Bool.and_false, if_neg (by decide), ih]
theorem cnt_end {day : Int} {G : List S39} (hT : Tree G) {n : Nat} (h1 : 1 ≤ n) (h2 : n ≤ G.length) : revN day G (n : Int) = (cntG day G n G.length : Nat) := by
  have := cntG_belL (day := day) hT h1 h2 (G.length - n) (by omega)
  rw [show n + (G.length - n) = G.length by omega] at this
  rw [this]
  unfold revN belowL
  rw [Int.toNat_natCast]
theorem revB_same {G H : List S39} (hT : Tree G) (hT2 : Tree H) (hl : H.length = G.length) (h : ∀ n, 1 ≤ n → n ≤ G.length → (gr H n).f1 = (gr G n).f1 ∧ (gr H n).f8 = (gr G n).f8) {n : Nat} (hn : n ≤ G.length) : revB H n = revB G n := by
  unfold revB
  rw [up_same hT hT2 hl (fun n a b => (h n a b).1) n n (Nat.le_refl _) hn]
  have hm := up_rng hT hn
  generalize up G n = l at hm
  induction l with
  | nil => rfl
  | cons a l ih =>
    rw [List.any_cons, List.any_cons, ih (fun q hq => hm q (by simp [hq])), (h a (hm a (by simp)).1 (hm a (by simp)).2).2]
end Go.Proofs.Ytfnlghjkjmppdaa.PC
end
