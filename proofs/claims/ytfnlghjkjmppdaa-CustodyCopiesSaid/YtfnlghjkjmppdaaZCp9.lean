/-
  The texts that the theorem in YtfnlghjkjmppdaaZRowCp rests on, merged (part 10); only what it reaches.
-/
import Derived.Test.YtfnlghjkjmppdaaZCp8
section
namespace Go.Proofs.Ytfnlghjkjmppdaa.PC
open Go.RowKit Go.Proofs.YtfnlghjkjmppdaaW.PrintWords Go.Proofs.YtfnlghjkjmppdaaW.PrintLast Go.Proofs.YtfnlghjkjmppdaaW.PrintMore
set_option linter.unusedVariables false
set_option linter.unusedSimpArgs false
theorem take_e (E : List S44) (i : Nat) (h : i < E.length) : E.take (i + 1) = E.take i ++ [E.getD i z44] := by
  rw [List.take_succ_eq_append_getElem h, List.getD_eq_getElem?_getD, List.getElem?_eq_getElem h]; rfl
theorem rd_e (E : List S44) (m : Nat) : rd_T44 E (m : Int) = E.getD m z44 := by unfold rd_T44; rw [Int.toNat_natCast]
set_option maxHeartbeats 12800000 in
set_option maxRecDepth 100000 in
theorem copied_r (w : World) (AG : Option Addr) (cG : Nat) (G : List S39) (AE : Option Addr) (cE : Nat) (E : List S44) (day : Int) (h : RB w AG cG G AE cE E) (hlG : G.length ≤ 128) (hlE : E.length ≤ 100) : Calls Try.prog 90 #[.agg #[.slice AG G.length cG, .slice AE E.length cE, .int .i64 day]] w fun e w' => ∃ A1 c1 A2 c2, e = .returned (.agg #[.slice A1 G.length c1, .slice A2 E.length c2, .int .i64 day]) ∧ Kd.R k39 39 w' w.heap.size (fun _ => True) (.slice A1 G.length c1) G ∧ Kd.R k44 44 w' w.heap.size (fun _ => True) (.slice A2 E.length c2) E ∧ Below w.heap.size w w' := by
  have hu51 := Try.underlying51
  have hu39 := Try.underlying39
  have hu44 := Try.underlying44
  have HRW := lhid h
  clear h
  go_enter Try.func90, Try.ntmps90
  have HB_1 := lhid (Below.refl w.heap.size w)
  go_upto_region 1 with (fail)
  have hb := below_alloc (Below.refl w.heap.size w) (.cells #[.slice AG G.length cG, .slice AE E.length cE, .int .i64 day] 51)
  have hn := blk_new w (.cells #[.slice AG G.length cG, .slice AE E.length cE, .int .i64 day] 51)
  have HZ1 := lhid (show (World.alloc w (.cells #[.slice AG G.length cG, .slice AE E.length cE, .int .i64 day] 51)).heap.size = w.heap.size + 1 from by simp)
  generalize hq : World.alloc w (.cells #[.slice AG G.length cG, .slice AE E.length cE, .int .i64 day] 51) = w1 at hb hn HZ1 ⊢
  clear hq
  have HB_2 := lhid (below_then HB_1.out HB_1.out.size hb)
  clear HB_1 hb
  have XB_3 := lhid (hn)
  clear hn
  obtain ⟨xb, hxb⟩ : ∃ q, q = w.heap.size := ⟨_, rfl⟩
  rw [← hxb] at XB_3 ⊢
  have hb := below_alloc (Below.refl w1.heap.size w1) (.cells #[.slice none 0 0, .slice none 0 0, .int .i64 0] 51)
  have hn := blk_new w1 (.cells #[.slice none 0 0, .slice none 0 0, .int .i64 0] 51)
  have HZ2 := lhid (show (World.alloc w1 (.cells #[.slice none 0 0, .slice none 0 0, .int .i64 0] 51)).heap.size = w1.heap.size + 1 from by simp)
  generalize hq : World.alloc w1 (.cells #[.slice none 0 0, .slice none 0 0, .int .i64 0] 51) = w2 at hb hn HZ2 ⊢
  clear hq
  have HB_4 := lhid (below_then HB_2.out HB_2.out.size hb)
  have XB_5 := lhid (blk_below XB_3.out hb)
  clear HB_2 XB_3 hb
  have RZ_6 := lhid (hn)
  clear hn
  obtain ⟨rb, hrb⟩ : ∃ q, q = xb + 1 := ⟨_, rfl⟩
  rw [show w1.heap.size = rb by rw [hrb, hxb]; exact HZ1.out] at RZ_6
  rw [← hrb]
  have HXE := lhid hxb
  have HRE := lhid hrb
  clear hxb hrb
  obtain ⟨z0, z1, z2⟩ := three XB_5.out
  go_upto_region 3 with (fail)
  clear z0 z1 z2
  have hb := below_alloc (Below.refl w2.heap.size w2) (.cells #[.slice none 0 0, .slice none 0 0, .int .i64 day] 51)
  have hn := blk_new w2 (.cells #[.slice none 0 0, .slice none 0 0, .int .i64 day] 51)
  have HZ3 := lhid (show (World.alloc w2 (.cells #[.slice none 0 0, .slice none 0 0, .int .i64 day] 51)).heap.size = w2.heap.size + 1 from by simp)
  generalize hq : World.alloc w2 (.cells #[.slice none 0 0, .slice none 0 0, .int .i64 day] 51) = w3 at hb hn HZ3 ⊢
  clear hq
  have HB_7 := lhid (below_then HB_4.out HB_4.out.size hb)
  have XB_8 := lhid (blk_below XB_5.out hb)
  have RZ_9 := lhid (blk_below RZ_6.out hb)
  clear HB_4 XB_5 RZ_6 hb
  have NB_10 := lhid (hn)
  clear hn
  obtain ⟨nb, hnb⟩ : ∃ q, q = w2.heap.size := ⟨_, rfl⟩
  rw [← hnb] at NB_10 ⊢
  have HNE := lhid (show w.heap.size ≤ xb ∧ w.heap.size ≤ rb ∧ w.heap.size ≤ nb ∧ xb ≠ nb ∧ rb ≠ nb ∧ xb ≠ rb by have h1 := HZ1.out; have h2 := HZ2.out; have h3 := HXE.out; have h4 := HRE.out; omega)
  clear HXE HRE hnb HZ1 HZ2 HZ3
  have HR0 := lhid (Kd.R_nil k39 39 w3 w.heap.size (fun _ => True))
  go_loopw [4] (fun t wr => ∃ i : Nat, ∃ An : Option Addr, ∃ cn : Nat, i ≤ G.length ∧ t = .int .i64 (i : Int) ∧ Hid (Below w.heap.size w wr) ∧ Hid (wr.heap[xb]? = some (.cells #[.slice AG G.length cG, .slice AE E.length cE, .int .i64 day] 51)) ∧ Hid (wr.heap[rb]? = some (.cells #[.slice none 0 0, .slice none 0 0, .int .i64 0] 51)) ∧ Hid (wr.heap[nb]? = some (.cells #[.slice An i cn, .slice none 0 0, .int .i64 day] 51)) ∧ Hid (Kd.R k39 39 wr w.heap.size (fun _ => True) (.slice An i cn) (G.take i))) (fun t _ => G.length - (intOf t).toNat)
  case atStart => exact ⟨0, none, 0, Nat.zero_le _, rfl, HB_7, XB_8, RZ_9, NB_10, HR0⟩
  case round =>
    obtain ⟨i, An, cn, hi, rfl, HBr_11, XBr_12, RZr_13, NBr_14, HRr_15⟩ := hrel
    clear HB_7 XB_8 RZ_9 NB_10 HR0
    by_cases hlt : i < G.length
    · have hlt2 : (i : Int) < (G.length : Int) := by omega
      obtain ⟨x, hx⟩ : ∃ x, x = gr G (i + 1) := ⟨_, rfl⟩
      have HX := lhid hx
      clear hx
      obtain ⟨ad, eA, -⟩ := at_T39 (RB.next HRW.out HBr_11.out).c (i : Int) (by omega) (by omega)
      subst eA
      obtain ⟨z0, z1, z2⟩ := three XBr_12.out
      go_upto_region 5 with (fail)
      try any_goals (exfalso; omega)
      clear z0 z1 z2
      have hb := below_drew1 (Below.refl wr.heap.size wr)
      have HB_16 := lhid (below_then HBr_11.out HBr_11.out.size hb)
      have XB_17 := lhid (blk_below XBr_12.out hb)
      have RZ_18 := lhid (blk_below RZr_13.out hb)
      have NB_19 := lhid (blk_below NBr_14.out hb)
      have HR_20 := lhid (Kd.R_below HRr_15.out hb)
      clear HBr_11 XBr_12 RZr_13 NBr_14 HRr_15 hb
      refine start_ (n := 11) (S := fun w' => w'.cell? ⟨nb, 0, none⟩ = some (.slice An i cn) ∧ w'.cell? ⟨xb, 0, none⟩ = some (.slice (some ad) G.length cG) ∧ w'.cell? (ad.add (i * 9)) = some (.int .i64 x.f0) ∧ w'.cell? ⟨(ad.add (i * 9)).block, (ad.add (i * 9)).off + 1, none⟩ = some (.int .i64 x.f1) ∧ w'.cell? ⟨(ad.add (i * 9)).block, (ad.add (i * 9)).off + 2, none⟩ = some (.int .i64 x.f2) ∧ w'.cell? ⟨(ad.add (i * 9)).block, (ad.add (i * 9)).off + 3, none⟩ = some (.int .i64 x.f3) ∧ w'.cell? ⟨(ad.add (i * 9)).block, (ad.add (i * 9)).off + 4, none⟩ = some (.int .i64 x.f4) ∧ w'.cell? ⟨(ad.add (i * 9)).block, (ad.add (i * 9)).off + 5, none⟩ = some (.int .i64 x.f5) ∧ w'.cell? ⟨(ad.add (i * 9)).block, (ad.add (i * 9)).off + 6, none⟩ = some (.int .i64 x.f6) ∧ w'.cell? ⟨(ad.add (i * 9)).block, (ad.add (i * 9)).off + 7, none⟩ = some (.int .i64 x.f7) ∧ w'.cell? ⟨(ad.add (i * 9)).block, (ad.add (i * 9)).off + 8, none⟩ = some (.bool x.f8)) (ds := [8, 10]) (lsb 11 0) (by kernel_rfl) rfl (by kernel_rfl) ⟨(three NB_19.out).1, (three XB_17.out).1, (by obtain ⟨ad', eA', x0, x1, x2, x3, x4, x5, x6, x7, x8⟩ := at_T39 (RB.next HRW.out HB_16.out).c (i : Int) (by omega) (by omega); cases eA'; rw [rd_gr, Int.toNat_natCast] at x0; rw [HX.out]; exact x0), (by obtain ⟨ad', eA', x0, x1, x2, x3, x4, x5, x6, x7, x8⟩ := at_T39 (RB.next HRW.out HB_16.out).c (i : Int) (by omega) (by omega); cases eA'; rw [rd_gr, Int.toNat_natCast] at x1; rw [HX.out]; exact x1), (by obtain ⟨ad', eA', x0, x1, x2, x3, x4, x5, x6, x7, x8⟩ := at_T39 (RB.next HRW.out HB_16.out).c (i : Int) (by omega) (by omega); cases eA'; rw [rd_gr, Int.toNat_natCast] at x2; rw [HX.out]; exact x2), (by obtain ⟨ad', eA', x0, x1, x2, x3, x4, x5, x6, x7, x8⟩ := at_T39 (RB.next HRW.out HB_16.out).c (i : Int) (by omega) (by omega); cases eA'; rw [rd_gr, Int.toNat_natCast] at x3; rw [HX.out]; exact x3), (by obtain ⟨ad', eA', x0, x1, x2, x3, x4, x5, x6, x7, x8⟩ := at_T39 (RB.next HRW.out HB_16.out).c (i : Int) (by omega) (by omega); cases eA'; rw [rd_gr, Int.toNat_natCast] at x4; rw [HX.out]; exact x4), (by obtain ⟨ad', eA', x0, x1, x2, x3, x4, x5, x6, x7, x8⟩ := at_T39 (RB.next HRW.out HB_16.out).c (i : Int) (by omega) (by omega); cases eA'; rw [rd_gr, Int.toNat_natCast] at x5; rw [HX.out]; exact x5), (by obtain ⟨ad', eA', x0, x1, x2, x3, x4, x5, x6, x7, x8⟩ := at_T39 (RB.next HRW.out HB_16.out).c (i : Int) (by omega) (by omega); cases eA'; rw [rd_gr, Int.toNat_natCast] at x6; rw [HX.out]; exact x6), (by obtain ⟨ad', eA', x0, x1, x2, x3, x4, x5, x6, x7, x8⟩ := at_T39 (RB.next HRW.out HB_16.out).c (i : Int) (by omega) (by omega); cases eA'; rw [rd_gr, Int.toNat_natCast] at x7; rw [HX.out]; exact x7), (by obtain ⟨ad', eA', x0, x1, x2, x3, x4, x5, x6, x7, x8⟩ := at_T39 (RB.next HRW.out HB_16.out).c (i : Int) (by omega) (by omega); cases eA'; rw [rd_gr, Int.toNat_natCast] at x8; rw [HX.out]; exact x8)⟩ (fun hHeld => ?_)
      generalize wr.drew = w4 at HB_16 XB_17 RZ_18 NB_19 HR_20 hHeld ⊢
      refine pure_ (i := 0) (N := some 16) (v := ?_) (a' := ?_) (lsb 11 1) rfl rfl (by as_aux_lemma => kernel_rfl) (fun _ _ _ h => h) (Or.inl ⟨by rfl, ?_⟩) ?_ ?_; rotate_left; (intro w'; go_simp; with_reducible rfl); rotate_left; (simp only [Act.put, List.setIfInBounds_toArray, List.set_cons_zero, List.set_cons_succ, i64_w, i32_w]; rfl)
      refine pure_ (i := 2) (N := some 18) (v := ?_) (a' := ?_) (lsb 11 5) rfl rfl (by as_aux_lemma => kernel_rfl) (fun _ _ _ h => h) (Or.inl ⟨by rfl, ?_⟩) ?_ ?_; rotate_left; (intro w'; go_simp; with_reducible rfl); rotate_left; (simp only [Act.put, List.setIfInBounds_toArray, List.set_cons_zero, List.set_cons_succ, i64_w, i32_w]; rfl)
      refine pure_ (i := 4) (N := some 20) (v := ?_) (a' := ?_) (lsb 11 21) rfl rfl (by as_aux_lemma => kernel_rfl) (fun _ _ _ h => h) (Or.inl ⟨by rfl, ?_⟩) ?_ ?_; rotate_left; (intro w'; go_simp; with_reducible rfl); rotate_left; (simp only [Act.put, List.setIfInBounds_toArray, List.set_cons_zero, List.set_cons_succ, i64_w, i32_w]; rfl)
      refine take_ (i := 1) (N := some 17) (v := ?_) (a' := ?_) (lsb 11 23) rfl rfl (by as_aux_lemma => kernel_rfl) (fun _ _ _ h => h) (Or.inl ⟨by rfl, ?_⟩) hHeld ?_ ?_; rotate_left; (rintro w' ⟨s0, s1, s2, s3, s4, s5, s6, s7, s8, s9, s10⟩; go_simp; with_reducible rfl); rotate_left; (simp only [Act.put, List.setIfInBounds_toArray, List.set_cons_zero, List.set_cons_succ, i64_w, i32_w]; rfl)
      refine take_ (i := 3) (N := some 19) (v := ?_) (a' := ?_) (lsb 11 31) rfl rfl (by as_aux_lemma => kernel_rfl) (fun _ _ _ h => h) (Or.inl ⟨by rfl, ?_⟩) hHeld ?_ ?_; rotate_left; (rintro w' ⟨s0, s1, s2, s3, s4, s5, s6, s7, s8, s9, s10⟩; go_simp; with_reducible rfl); rotate_left; (simp only [Act.put, List.setIfInBounds_toArray, List.set_cons_zero, List.set_cons_succ, i64_w, i32_w]; rfl)
      refine pure_ (i := 5) (N := some 21) (v := ?_) (a' := ?_) (lsb 11 63) rfl rfl (by as_aux_lemma => kernel_rfl) (fun _ _ _ h => h) (Or.inl ⟨by rfl, ?_⟩) ?_ ?_; rotate_left; (intro w'; go_simp; with_reducible rfl); rotate_left; (simp only [Act.put, List.setIfInBounds_toArray, List.set_cons_zero, List.set_cons_succ, i64_w, i32_w]; rfl)
      refine take_ (i := 6) (N := some 22) (v := ?_) (a' := ?_) (lsb 11 127) rfl rfl (by as_aux_lemma => kernel_rfl) (fun _ _ _ h => h) (Or.inl ⟨by rfl, ?_⟩) hHeld ?_ ?_; rotate_left; (rintro w' ⟨s0, s1, s2, s3, s4, s5, s6, s7, s8, s9, s10⟩; go_simp; with_reducible rfl); rotate_left; (simp only [Act.put, List.setIfInBounds_toArray, List.set_cons_zero, List.set_cons_succ, i64_w, i32_w]; rfl)
      refine one_ (i := 7) (N := some 23) (lsb 11 255) rfl rfl (by kernel_rfl) (by decide) (fun K hK => ?_)
      refine value_ (w1 := ?_) (v := ?_) (by rfl) rfl ?_ ?_
      rotate_left 2
      · go_simp
        constructor
        · rfl
        · rfl
      refine hK.out _ _ ⟨(pw_cell_below (below_alloc (Below.refl _ _) _) (three NB_19.out).1), (pw_cell_below (below_alloc (Below.refl _ _) _) (three XB_17.out).1), (pw_cell_below (below_alloc (Below.refl _ _) _) (by obtain ⟨ad', eA', x0, x1, x2, x3, x4, x5, x6, x7, x8⟩ := at_T39 (RB.next HRW.out HB_16.out).c (i : Int) (by omega) (by omega); cases eA'; rw [rd_gr, Int.toNat_natCast] at x0; rw [HX.out]; exact x0)), (pw_cell_below (below_alloc (Below.refl _ _) _) (by obtain ⟨ad', eA', x0, x1, x2, x3, x4, x5, x6, x7, x8⟩ := at_T39 (RB.next HRW.out HB_16.out).c (i : Int) (by omega) (by omega); cases eA'; rw [rd_gr, Int.toNat_natCast] at x1; rw [HX.out]; exact x1)), (pw_cell_below (below_alloc (Below.refl _ _) _) (by obtain ⟨ad', eA', x0, x1, x2, x3, x4, x5, x6, x7, x8⟩ := at_T39 (RB.next HRW.out HB_16.out).c (i : Int) (by omega) (by omega); cases eA'; rw [rd_gr, Int.toNat_natCast] at x2; rw [HX.out]; exact x2)), (pw_cell_below (below_alloc (Below.refl _ _) _) (by obtain ⟨ad', eA', x0, x1, x2, x3, x4, x5, x6, x7, x8⟩ := at_T39 (RB.next HRW.out HB_16.out).c (i : Int) (by omega) (by omega); cases eA'; rw [rd_gr, Int.toNat_natCast] at x3; rw [HX.out]; exact x3)), (pw_cell_below (below_alloc (Below.refl _ _) _) (by obtain ⟨ad', eA', x0, x1, x2, x3, x4, x5, x6, x7, x8⟩ := at_T39 (RB.next HRW.out HB_16.out).c (i : Int) (by omega) (by omega); cases eA'; rw [rd_gr, Int.toNat_natCast] at x4; rw [HX.out]; exact x4)), (pw_cell_below (below_alloc (Below.refl _ _) _) (by obtain ⟨ad', eA', x0, x1, x2, x3, x4, x5, x6, x7, x8⟩ := at_T39 (RB.next HRW.out HB_16.out).c (i : Int) (by omega) (by omega); cases eA'; rw [rd_gr, Int.toNat_natCast] at x5; rw [HX.out]; exact x5)), (pw_cell_below (below_alloc (Below.refl _ _) _) (by obtain ⟨ad', eA', x0, x1, x2, x3, x4, x5, x6, x7, x8⟩ := at_T39 (RB.next HRW.out HB_16.out).c (i : Int) (by omega) (by omega); cases eA'; rw [rd_gr, Int.toNat_natCast] at x6; rw [HX.out]; exact x6)), (pw_cell_below (below_alloc (Below.refl _ _) _) (by obtain ⟨ad', eA', x0, x1, x2, x3, x4, x5, x6, x7, x8⟩ := at_T39 (RB.next HRW.out HB_16.out).c (i : Int) (by omega) (by omega); cases eA'; rw [rd_gr, Int.toNat_natCast] at x7; rw [HX.out]; exact x7)), (pw_cell_below (below_alloc (Below.refl _ _) _) (by obtain ⟨ad', eA', x0, x1, x2, x3, x4, x5, x6, x7, x8⟩ := at_T39 (RB.next HRW.out HB_16.out).c (i : Int) (by omega) (by omega); cases eA'; rw [rd_gr, Int.toNat_natCast] at x8; rw [HX.out]; exact x8))⟩ (fun hHeld => ?_)
      clear hK K
      refine norm_ (a' := ?_) ?_ ?_
      rotate_left
      · show Act.put _ (some 23) _ = _
        simp only [Act.put, List.setIfInBounds_toArray, List.set_cons_zero, List.set_cons_succ, i64_w, i32_w]
        rfl
      refine last_ (i := 8) (N := some 24) (lsb 11 511) rfl rfl (by kernel_rfl) (by decide) (fun K hK => ?_)
      refine Kd.R_append_step k39 (w0 := w) w.heap.size (by rfl) (.tmp 17) (.tmp 23) 33 39 (.agg #[(.int .i64 0), (.int .i64 0), (.int .i64 0), (.int .i64 0), (.int .i64 0), (.int .i64 0), (.int .i64 0), (.int .i64 0), (.bool false)]) 72 rfl Try.underlying33 info39 rfl (by decide) (by omega) (.slice An i cn) (G.take i) x [.int .i64 x.f0, .int .i64 x.f1, .int .i64 x.f2, .int .i64 x.f3, .int .i64 x.f4, .int .i64 x.f5, .int .i64 x.f6, .int .i64 x.f7, .bool x.f8] (fun _ => True) (fun _ => False) rfl rfl ?aP ?aF0 ?aF ?aO ?aB ?aS ?aL ?_
      (case aP => exact k39_mkM _ _ _ x)
      (case aF0 => exact fun _ hk => hk.elim)
      (case aF => exact fun _ _ => trivial)
      (case aO => exact HR_20.out)
      (case aB => exact HB_16.out)
      (case aS => exact HB_16.out.size)
      (case aL => rw [List.length_take]; omega)
      intro v4 w4 ho4 hb4 hg4 hat4
      rw [HX.out, ← take_gr G i hlt] at ho4
      obtain ⟨A4, c4, hv4⟩ := Kd.R_slice ho4
      rw [List.length_take, Nat.min_eq_left (by omega)] at hv4
      subst hv4
      have HR4 := lhid ho4
      have HB4 := lhid hb4
      have NB4 := lhid (blk_grown NB_19.out hg4 (Kd.R_ne HR_20.out NB_19.out (by decide)))
      have XB4 := lhid (blk_grown XB_17.out hg4 (Kd.R_ne HR_20.out XB_17.out (by decide)))
      have RZ4 := lhid (blk_grown RZ_18.out hg4 (Kd.R_ne HR_20.out RZ_18.out (by decide)))
      clear ho4 hb4 hg4 hat4
      refine hK.out _ _ ?_
      clear hK K
      refine norm_ (a' := ?_) ?_ ?_
      rotate_left
      · show Act.put _ (some 24) _ = _
        simp only [Act.put, List.setIfInBounds_toArray, List.set_cons_zero, List.set_cons_succ, i64_w, i32_w]
        rfl
      refine pure_ (i := 9) (N := some 25) (v := ?_) (a' := ?_) (lsb 11 1023) rfl rfl (by as_aux_lemma => kernel_rfl) (fun _ _ _ h => h) (Or.inl ⟨by rfl, ?_⟩) ?_ ?_; rotate_left; (intro w'; go_simp; with_reducible rfl); rotate_left; (simp only [Act.put, List.setIfInBounds_toArray, List.set_cons_zero, List.set_cons_succ, i64_w, i32_w]; rfl)
      refine last_ (i := 10) (N := none) (lsb 11 2047) rfl rfl (by kernel_rfl) (by decide) (fun K hK => ?_)
      have hk2 := (three NB4.out).1
      have hf2 := blk_frozen NB4.out 0
      refine skip_ (w1 := ?_) (by rfl) rfl ?_ ?_
      rotate_left
      · go_simp
        rfl
      clear hk2 hf2
      refine hK.out _ _ ?_
      clear hK K
      refine done_ (by kernel_rfl) ?_
      
      have NB6 := lhid (show (w4.setCell ⟨nb, 0, none⟩ (.slice A4 (i + 1) c4)).heap[nb]? = some (.cells #[.slice A4 (i + 1) c4, .slice none 0 0, .int .i64 day] 51) from blk_put NB4.out 0 (.slice A4 (i + 1) c4) rfl)
      have XB6 := lhid (blk_far XB4.out (p := ⟨nb, 0, none⟩) HNE.out.2.2.2.1 (.slice A4 (i + 1) c4))
      have RZ6 := lhid (blk_far RZ4.out (p := ⟨nb, 0, none⟩) HNE.out.2.2.2.2.1 (.slice A4 (i + 1) c4))
      have HR6 := lhid (Kd.R_set HR4.out NB4.out (by decide) 0 (.slice A4 (i + 1) c4))
      have HB6 := lhid (HB4.out.setCell (p := ⟨nb, 0, none⟩) HNE.out.2.2.1 (.slice A4 (i + 1) c4))
      generalize World.setCell w4 ⟨nb, 0, none⟩ (.slice A4 (i + 1) c4) = w6 at NB6 XB6 RZ6 HR6 HB6 ⊢
      go_wp2_with fail
      try any_goals (exfalso; omega)
      go_roundw
      case rel => exact ⟨i + 1, A4, c4, by omega, by simp, HB6, XB6, RZ6, NB6, HR6⟩
      case measure => simp [intOf]; omega
    · have hie : i = G.length := by omega
      subst hie
      rw [List.take_length] at HRr_15
      have hlt2 : ¬ (G.length : Int) < (G.length : Int) := by omega
      obtain ⟨A1, hA1⟩ : ∃ q, q = An := ⟨_, rfl⟩
      subst hA1
      obtain ⟨c1, hc1⟩ : ∃ q, q = cn := ⟨_, rfl⟩
      subst hc1
      obtain ⟨z0, z1, z2⟩ := three XBr_12.out
      go_upto_region 7 with (fail)
      clear hlt2 hlt hi
      clear z0 z1 z2
      have HR1 := lhid (Kd.R_nil k44 44 wr w.heap.size (fun _ => True))
      go_loopw [5] (fun t wr => ∃ i : Nat, ∃ An : Option Addr, ∃ cn : Nat, i ≤ E.length ∧ t = .int .i64 (i : Int) ∧ Hid (Below w.heap.size w wr) ∧ Hid (wr.heap[xb]? = some (.cells #[.slice AG G.length cG, .slice AE E.length cE, .int .i64 day] 51)) ∧ Hid (wr.heap[rb]? = some (.cells #[.slice none 0 0, .slice none 0 0, .int .i64 0] 51)) ∧ Hid (wr.heap[nb]? = some (.cells #[.slice A1 G.length c1, .slice An i cn, .int .i64 day] 51)) ∧ Hid (Kd.R k44 44 wr w.heap.size (fun _ => True) (.slice An i cn) (E.take i)) ∧ Hid (Kd.R k39 39 wr w.heap.size (fun _ => True) (.slice A1 G.length c1) G)) (fun t _ => E.length - (intOf t).toNat)
      case atStart => exact ⟨0, none, 0, Nat.zero_le _, rfl, HBr_11, XBr_12, RZr_13, NBr_14, HR1, HRr_15⟩
      case round =>
        obtain ⟨i, An, cn, hi, rfl, HBr_21, XBr_22, RZr_23, NBr_24, HRr_25, HGr_26⟩ := hrel
        clear HBr_11 XBr_12 RZr_13 NBr_14 HR1 HRr_15
        by_cases hlt : i < E.length
        · have hlt2 : (i : Int) < (E.length : Int) := by omega
          obtain ⟨x, hx⟩ : ∃ x, x = E.getD i z44 := ⟨_, rfl⟩
          have HX := lhid hx
          clear hx
          obtain ⟨ad, eA, -⟩ := at_T44 (RB.next HRW.out HBr_21.out).e (i : Int) (by omega) (by omega)
          subst eA
          obtain ⟨z0, z1, z2⟩ := three XBr_22.out
          go_upto_region 9 with (fail)
          try any_goals (exfalso; omega)
          clear z0 z1 z2
          have hb := below_drew1 (Below.refl wr.heap.size wr)
          have HB_27 := lhid (below_then HBr_21.out HBr_21.out.size hb)
          have XB_28 := lhid (blk_below XBr_22.out hb)
          have RZ_29 := lhid (blk_below RZr_23.out hb)
          have NB_30 := lhid (blk_below NBr_24.out hb)
          have HR_31 := lhid (Kd.R_below HRr_25.out hb)
          have HG_32 := lhid (Kd.R_below HGr_26.out hb)
          clear HBr_21 XBr_22 RZr_23 NBr_24 HRr_25 HGr_26 hb
          refine start_ (n := 11) (S := fun w' => w'.cell? ⟨nb, 1, none⟩ = some (.slice An i cn) ∧ w'.cell? ⟨xb, 1, none⟩ = some (.slice (some ad) E.length cE) ∧ w'.cell? (ad.add (i * 4)) = some (.int .i64 x.f0) ∧ w'.cell? ⟨(ad.add (i * 4)).block, (ad.add (i * 4)).off + 1, none⟩ = some (.int .i64 x.f1) ∧ w'.cell? ⟨(ad.add (i * 4)).block, (ad.add (i * 4)).off + 2, none⟩ = some (.int .i64 x.f2) ∧ w'.cell? ⟨(ad.add (i * 4)).block, (ad.add (i * 4)).off + 3, none⟩ = some (.int .i64 x.f3)) (ds := [8, 10]) (lsb 11 0) (by kernel_rfl) rfl (by kernel_rfl) ⟨(three NB_30.out).2.1, (three XB_28.out).2.1, (by obtain ⟨ad', eA', x0, x1, x2, x3⟩ := at_T44 (RB.next HRW.out HB_27.out).e (i : Int) (by omega) (by omega); cases eA'; rw [rd_e, Int.toNat_natCast] at x0; rw [HX.out]; exact x0), (by obtain ⟨ad', eA', x0, x1, x2, x3⟩ := at_T44 (RB.next HRW.out HB_27.out).e (i : Int) (by omega) (by omega); cases eA'; rw [rd_e, Int.toNat_natCast] at x1; rw [HX.out]; exact x1), (by obtain ⟨ad', eA', x0, x1, x2, x3⟩ := at_T44 (RB.next HRW.out HB_27.out).e (i : Int) (by omega) (by omega); cases eA'; rw [rd_e, Int.toNat_natCast] at x2; rw [HX.out]; exact x2), (by obtain ⟨ad', eA', x0, x1, x2, x3⟩ := at_T44 (RB.next HRW.out HB_27.out).e (i : Int) (by omega) (by omega); cases eA'; rw [rd_e, Int.toNat_natCast] at x3; rw [HX.out]; exact x3)⟩ (fun hHeld => ?_)
          generalize wr.drew = w4 at HB_27 XB_28 RZ_29 NB_30 HR_31 HG_32 hHeld ⊢
          refine pure_ (i := 0) (N := some 33) (v := ?_) (a' := ?_) (lsb 11 1) rfl rfl (by as_aux_lemma => kernel_rfl) (fun _ _ _ h => h) (Or.inl ⟨by rfl, ?_⟩) ?_ ?_; rotate_left; (intro w'; go_simp; with_reducible rfl); rotate_left; (simp only [Act.put, List.setIfInBounds_toArray, List.set_cons_zero, List.set_cons_succ, i64_w, i32_w]; rfl)
          refine pure_ (i := 2) (N := some 35) (v := ?_) (a' := ?_) (lsb 11 5) rfl rfl (by as_aux_lemma => kernel_rfl) (fun _ _ _ h => h) (Or.inl ⟨by rfl, ?_⟩) ?_ ?_; rotate_left; (intro w'; go_simp; with_reducible rfl); rotate_left; (simp only [Act.put, List.setIfInBounds_toArray, List.set_cons_zero, List.set_cons_succ, i64_w, i32_w]; rfl)
          refine pure_ (i := 4) (N := some 37) (v := ?_) (a' := ?_) (lsb 11 21) rfl rfl (by as_aux_lemma => kernel_rfl) (fun _ _ _ h => h) (Or.inl ⟨by rfl, ?_⟩) ?_ ?_; rotate_left; (intro w'; go_simp; with_reducible rfl); rotate_left; (simp only [Act.put, List.setIfInBounds_toArray, List.set_cons_zero, List.set_cons_succ, i64_w, i32_w]; rfl)
          refine take_ (i := 1) (N := some 34) (v := ?_) (a' := ?_) (lsb 11 23) rfl rfl (by as_aux_lemma => kernel_rfl) (fun _ _ _ h => h) (Or.inl ⟨by rfl, ?_⟩) hHeld ?_ ?_; rotate_left; (rintro w' ⟨s0, s1, s2, s3, s4, s5⟩; go_simp; with_reducible rfl); rotate_left; (simp only [Act.put, List.setIfInBounds_toArray, List.set_cons_zero, List.set_cons_succ, i64_w, i32_w]; rfl)
          refine take_ (i := 3) (N := some 36) (v := ?_) (a' := ?_) (lsb 11 31) rfl rfl (by as_aux_lemma => kernel_rfl) (fun _ _ _ h => h) (Or.inl ⟨by rfl, ?_⟩) hHeld ?_ ?_; rotate_left; (rintro w' ⟨s0, s1, s2, s3, s4, s5⟩; go_simp; with_reducible rfl); rotate_left; (simp only [Act.put, List.setIfInBounds_toArray, List.set_cons_zero, List.set_cons_succ, i64_w, i32_w]; rfl)
          refine pure_ (i := 5) (N := some 38) (v := ?_) (a' := ?_) (lsb 11 63) rfl rfl (by as_aux_lemma => kernel_rfl) (fun _ _ _ h => h) (Or.inl ⟨by rfl, ?_⟩) ?_ ?_; rotate_left; (intro w'; go_simp; with_reducible rfl); rotate_left; (simp only [Act.put, List.setIfInBounds_toArray, List.set_cons_zero, List.set_cons_succ, i64_w, i32_w]; rfl)
          refine take_ (i := 6) (N := some 39) (v := ?_) (a' := ?_) (lsb 11 127) rfl rfl (by as_aux_lemma => kernel_rfl) (fun _ _ _ h => h) (Or.inl ⟨by rfl, ?_⟩) hHeld ?_ ?_; rotate_left; (rintro w' ⟨s0, s1, s2, s3, s4, s5⟩; go_simp; with_reducible rfl); rotate_left; (simp only [Act.put, List.setIfInBounds_toArray, List.set_cons_zero, List.set_cons_succ, i64_w, i32_w]; rfl)
          refine one_ (i := 7) (N := some 40) (lsb 11 255) rfl rfl (by kernel_rfl) (by decide) (fun K hK => ?_)
          refine value_ (w1 := ?_) (v := ?_) (by rfl) rfl ?_ ?_
          rotate_left 2
          · go_simp
            constructor
            · rfl
            · rfl
          refine hK.out _ _ ⟨(pw_cell_below (below_alloc (Below.refl _ _) _) (three NB_30.out).2.1), (pw_cell_below (below_alloc (Below.refl _ _) _) (three XB_28.out).2.1), (pw_cell_below (below_alloc (Below.refl _ _) _) (by obtain ⟨ad', eA', x0, x1, x2, x3⟩ := at_T44 (RB.next HRW.out HB_27.out).e (i : Int) (by omega) (by omega); cases eA'; rw [rd_e, Int.toNat_natCast] at x0; rw [HX.out]; exact x0)), (pw_cell_below (below_alloc (Below.refl _ _) _) (by obtain ⟨ad', eA', x0, x1, x2, x3⟩ := at_T44 (RB.next HRW.out HB_27.out).e (i : Int) (by omega) (by omega); cases eA'; rw [rd_e, Int.toNat_natCast] at x1; rw [HX.out]; exact x1)), (pw_cell_below (below_alloc (Below.refl _ _) _) (by obtain ⟨ad', eA', x0, x1, x2, x3⟩ := at_T44 (RB.next HRW.out HB_27.out).e (i : Int) (by omega) (by omega); cases eA'; rw [rd_e, Int.toNat_natCast] at x2; rw [HX.out]; exact x2)), (pw_cell_below (below_alloc (Below.refl _ _) _) (by obtain ⟨ad', eA', x0, x1, x2, x3⟩ := at_T44 (RB.next HRW.out HB_27.out).e (i : Int) (by omega) (by omega); cases eA'; rw [rd_e, Int.toNat_natCast] at x3; rw [HX.out]; exact x3))⟩ (fun hHeld => ?_)
          clear hK K
          refine norm_ (a' := ?_) ?_ ?_
          rotate_left
          · show Act.put _ (some 40) _ = _
            simp only [Act.put, List.setIfInBounds_toArray, List.set_cons_zero, List.set_cons_succ, i64_w, i32_w]
            rfl
          refine last_ (i := 8) (N := some 41) (lsb 11 511) rfl rfl (by kernel_rfl) (by decide) (fun K hK => ?_)
          refine Kd.R_append_step k44 (w0 := w) w.heap.size (by rfl) (.tmp 34) (.tmp 40) 40 44 (.agg #[(.int .i64 0), (.int .i64 0), (.int .i64 0), (.int .i64 0)]) 32 rfl Try.underlying40 info44 rfl (by decide) (by omega) (.slice An i cn) (E.take i) x [.int .i64 x.f0, .int .i64 x.f1, .int .i64 x.f2, .int .i64 x.f3] (fun _ => True) (fun _ => False) rfl rfl ?aP ?aF0 ?aF ?aO ?aB ?aS ?aL ?_
          (case aP => exact k44_mkM _ _ _ x)
          (case aF0 => exact fun _ hk => hk.elim)
          (case aF => exact fun _ _ => trivial)
          (case aO => exact HR_31.out)
          (case aB => exact HB_27.out)
          (case aS => exact HB_27.out.size)
          (case aL => rw [List.length_take]; omega)
          intro v4 w4 ho4 hb4 hg4 hat4
          rw [HX.out, ← take_e E i hlt] at ho4
          obtain ⟨A4, c4, hv4⟩ := Kd.R_slice ho4
          rw [List.length_take, Nat.min_eq_left (by omega)] at hv4
          subst hv4
          have HR4 := lhid ho4
          have HB4 := lhid hb4
          have NB4 := lhid (blk_grown NB_30.out hg4 (Kd.R_ne HR_31.out NB_30.out (by decide)))
          have XB4 := lhid (blk_grown XB_28.out hg4 (Kd.R_ne HR_31.out XB_28.out (by decide)))
          have RZ4 := lhid (blk_grown RZ_29.out hg4 (Kd.R_ne HR_31.out RZ_29.out (by decide)))
          have HG4 := lhid (Kd.R_grown2 HG_32.out rfl hg4 (fun z hz e_ => by rcases own_type_ne (Kd.R_own HR_31.out).choose_spec (Kd.R_own HG_32.out).choose_spec (by decide) with q | q; (rw [q] at hz; cases hz); exact q (hz.trans e_)))
          clear ho4 hb4 hg4 hat4
          refine hK.out _ _ ?_
          clear hK K
          refine norm_ (a' := ?_) ?_ ?_
          rotate_left
          · show Act.put _ (some 41) _ = _
            simp only [Act.put, List.setIfInBounds_toArray, List.set_cons_zero, List.set_cons_succ, i64_w, i32_w]
            rfl
          refine pure_ (i := 9) (N := some 42) (v := ?_) (a' := ?_) (lsb 11 1023) rfl rfl (by as_aux_lemma => kernel_rfl) (fun _ _ _ h => h) (Or.inl ⟨by rfl, ?_⟩) ?_ ?_; rotate_left; (intro w'; go_simp; with_reducible rfl); rotate_left; (simp only [Act.put, List.setIfInBounds_toArray, List.set_cons_zero, List.set_cons_succ, i64_w, i32_w]; rfl)
          refine last_ (i := 10) (N := none) (lsb 11 2047) rfl rfl (by kernel_rfl) (by decide) (fun K hK => ?_)
          have hk2 := (three NB4.out).2.1
          have hf2 := blk_frozen NB4.out 1
          refine skip_ (w1 := ?_) (by rfl) rfl ?_ ?_
          rotate_left
          · go_simp
            rfl
          clear hk2 hf2
          refine hK.out _ _ ?_
          clear hK K
          refine done_ (by kernel_rfl) ?_
          
          have NB6 := lhid (show (w4.setCell ⟨nb, 1, none⟩ (.slice A4 (i + 1) c4)).heap[nb]? = some (.cells #[.slice A1 G.length c1, .slice A4 (i + 1) c4, .int .i64 day] 51) from blk_put NB4.out 1 (.slice A4 (i + 1) c4) rfl)
          have XB6 := lhid (blk_far XB4.out (p := ⟨nb, 1, none⟩) HNE.out.2.2.2.1 (.slice A4 (i + 1) c4))
          have RZ6 := lhid (blk_far RZ4.out (p := ⟨nb, 1, none⟩) HNE.out.2.2.2.2.1 (.slice A4 (i + 1) c4))
          have HR6 := lhid (Kd.R_set HR4.out NB4.out (by decide) 1 (.slice A4 (i + 1) c4))
          have HB6 := lhid (HB4.out.setCell (p := ⟨nb, 1, none⟩) HNE.out.2.2.1 (.slice A4 (i + 1) c4))
          have HG6 := lhid (Kd.R_set HG4.out NB4.out (by decide) 1 (.slice A4 (i + 1) c4))
          generalize World.setCell w4 ⟨nb, 1, none⟩ (.slice A4 (i + 1) c4) = w6 at NB6 XB6 RZ6 HR6 HB6 HG6 ⊢
          go_wp2_with fail
          try any_goals (exfalso; omega)
          go_roundw
          case rel => exact ⟨i + 1, A4, c4, by omega, by simp, HB6, XB6, RZ6, NB6, HR6, HG6⟩
          case measure => simp [intOf]; omega
        · have hie : i = E.length := by omega
          subst hie
          rw [List.take_length] at HRr_25
          have hlt2 : ¬ (E.length : Int) < (E.length : Int) := by omega
          obtain ⟨n0, n1, n2⟩ := three NBr_24.out
          obtain ⟨r0, r1, r2⟩ := three RZr_23.out
          have hfz : ∀ o, wr.frozen? ⟨rb, o, none⟩ = false := fun o => blk_frozen RZr_23.out o
          obtain ⟨z0, z1, z2⟩ := three XBr_22.out
          go_wp2_with fail
          clear z0 z1 z2
          clear n0 n1 n2 r0 r1 r2 hfz hlt2
          have hz1 := blk_put RZr_23.out 0 (.slice A1 G.length c1) rfl
          have hz2 := blk_put hz1 1 (.slice An E.length cn) rfl
          have hz3 := blk_put hz2 2 (.int .i64 day) rfl
          have hHG := Kd.R_set (Kd.R_set (Kd.R_set HGr_26.out RZr_23.out (by decide) 0 (.slice A1 G.length c1)) hz1 (by decide) 1 (.slice An E.length cn)) hz2 (by decide) 2 (.int .i64 day)
          have hHR := Kd.R_set (Kd.R_set (Kd.R_set HRr_25.out RZr_23.out (by decide) 0 (.slice A1 G.length c1)) hz1 (by decide) 1 (.slice An E.length cn)) hz2 (by decide) 2 (.int .i64 day)
          have hB := ((HBr_21.out.setCell (p := ⟨rb, 0, none⟩) HNE.out.2.1 (.slice A1 G.length c1)).setCell (p := ⟨rb, 1, none⟩) HNE.out.2.1 (.slice An E.length cn)).setCell (p := ⟨rb, 2, none⟩) HNE.out.2.1 (.int .i64 day)
          clear hz1 hz2
          generalize (World.setCell (World.setCell (World.setCell wr ⟨rb, 0, none⟩ (.slice A1 G.length c1)) ⟨rb, 1, none⟩ (.slice An E.length cn)) ⟨rb, 2, none⟩ (.int .i64 day)) = w9 at hz3 hHG hHR hB ⊢
          refine bodyPost_ret (results_cell_row rfl _ _ rb 51 #[.slice A1 G.length c1, .slice An E.length cn, .int .i64 day] (0, 0) _ rfl hz3 Try.underlying51 rfl (by kernel_rfl)) rfl ?_
          exact ⟨A1, c1, An, cn, rfl, hHG, hHR, hB⟩
end Go.Proofs.Ytfnlghjkjmppdaa.PC
end
section
namespace Go.Proofs.Ytfnlghjkjmppdaa.PC
open Go.RowKit Go.Proofs.YtfnlghjkjmppdaaW.PrintWords Go.Proofs.YtfnlghjkjmppdaaW.PrintLast Go.Proofs.YtfnlghjkjmppdaaW.PrintMore
set_option linter.unusedVariables false
set_option linter.unusedSimpArgs false
theorem RB.of_R {w : World} {base : Nat} {F F' : Nat → Prop} {A1 A2 : Option Addr} {c1 c2 : Nat} {G : List S39} {E : List S44} (h1 : Kd.R k39 39 w base F (.slice A1 G.length c1) G) (h2 : Kd.R k44 44 w base F' (.slice A2 E.length c2) E) : RB w A1 c1 G A2 c2 E := by
  obtain ⟨a1, a2, a3⟩ := Kd.R_reads' h1
  obtain ⟨b1, b2, b3⟩ := Kd.R_reads' h2
  exact ⟨a3, a2, b3, b2⟩
/-- A specification's book that stays, whatever is stored in blocks of P. -/
def Stay (P : Nat → Prop) (w : World) (AG : Option Addr) (cG : Nat) (G : List S39) (AE : Option Addr) (cE : Nat) (E : List S44) : Prop := ∀ W', Chg P w W' → RB W' AG cG G AE cE E
theorem Stay.next {P P' : Nat → Prop} {w w' : World} {AG : Option Addr} {cG : Nat} {G : List S39} {AE : Option Addr} {cE : Nat} {E : List S44} (h : Stay P w AG cG G AE cE E) (hc : Chg P w w') (hP : ∀ k, k < w.heap.size → P' k → P k) : Stay P' w' AG cG G AE cE E := fun W' k => h W' (hc.trans k hP)
theorem Stay.rb {P : Nat → Prop} {w w' : World} {AG : Option Addr} {cG : Nat} {G : List S39} {AE : Option Addr} {cE : Nat} {E : List S44} (h : Stay P w AG cG G AE cE E) (hb : Below w.heap.size w w') : RB w' AG cG G AE cE E := h w' (Chg.of_below hb)
/-- One that comes back. -/
def Bok (P : Nat → Prop) (w' : World) (G : List S39) (E : List S44) (day : Int) (v : Value) : Prop := ∃ A1 c1 A2 c2, v = .agg #[.slice A1 G.length c1, .slice A2 E.length c2, .int .i64 day] ∧ Stay P w' A1 c1 G A2 c2 E
theorem R_chg {α : Type} {d : Kd α} {e : Nat} {w w' W' : World} {F : Nat → Prop} {v : Value} {xs : List α} (h : d.R e w' w.heap.size F v xs) {Q : Nat → Prop} (hc : Chg Q w' W') (hQ : ∀ k, Q k → k < w.heap.size) : d.R e W' w.heap.size F v xs :=
  Kd.R_mono (Kd.R_step (Kd.R_bound h) (fun k hk hl => hc.block k hl (fun q => by have := hQ k q; have := hk.2.1; omega))) (fun k hk => hk.1)
theorem bok_new {P : Nat → Prop} {w w' : World} (hP : ∀ k, P k → k < w.heap.size) {A1 A2 : Option Addr} {c1 c2 : Nat} {G : List S39} {E : List S44} {F F' : Nat → Prop} {day : Int} (h1 : Kd.R k39 39 w' w.heap.size F (.slice A1 G.length c1) G) (h2 : Kd.R k44 44 w' w.heap.size F' (.slice A2 E.length c2) E) : Bok P w' G E day (.agg #[.slice A1 G.length c1, .slice A2 E.length c2, .int .i64 day]) :=
  ⟨_, _, _, _, rfl, fun W' hc => RB.of_R (R_chg h1 hc hP) (R_chg h2 hc hP)⟩
theorem bok_same {P : Nat → Prop} {w w' : World} {AG AE : Option Addr} {cG cE : Nat} {G : List S39} {E : List S44} {day : Int} (h : Stay P w AG cG G AE cE E) (hb : Below w.heap.size w w') : Bok P w' G E day (.agg #[.slice AG G.length cG, .slice AE E.length cE, .int .i64 day]) :=
  ⟨_, _, _, _, rfl, h.next (Chg.of_below hb) (fun _ _ q => q)⟩
theorem bok_thru {P P3 : Nat → Prop} {w' w9 : World} {A1 A2 : Option Addr} {c1 c2 : Nat} {G : List S39} {E : List S44} {day : Int} (h : Stay P3 w' A1 c1 G A2 c2 E) (hc : Chg P3 w' w9) (hs : ∀ k, P k → P3 k) : Bok P w9 G E day (.agg #[.slice A1 G.length c1, .slice A2 E.length c2, .int .i64 day]) :=
  ⟨_, _, _, _, rfl, h.next hc (fun k _ q => hs k q)⟩
/-- Beside the boxes of a call. -/
theorem stay_box {P : Nat → Prop} {w w3 : World} {AG AE : Option Addr} {cG cE : Nat} {G : List S39} {E : List S44} (h : Stay P w AG cG G AE cE E) (hb : Below w.heap.size w w3) : Stay (fun k => P k ∨ (w.heap.size ≤ k ∧ k < w3.heap.size)) w3 AG cG G AE cE E :=
  h.next (Chg.of_below hb) (fun k hk q => q.resolve_right (fun z => by omega))
theorem stay_lt {P : Nat → Prop} {w w3 : World} (hP : ∀ k, P k → k < w.heap.size) (hs : w.heap.size ≤ w3.heap.size) : ∀ k, (P k ∨ (w.heap.size ≤ k ∧ k < w3.heap.size)) → k < w3.heap.size := fun k q => q.elim (fun z => Nat.lt_of_lt_of_le (hP k z) hs) (fun z => z.2)
def putG (G : List S39) (x : S39) : List S39 := if 128 ≤ G.length then G else G ++ [newG G x]
def putN (G : List S39) : Int := if 128 ≤ G.length then 0 else (G.length : Int) + 1
def putC (G : List S39) : Int := if 128 ≤ G.length then 8 else 0
set_option maxHeartbeats 12800000 in
set_option maxRecDepth 100000 in
theorem put_r (P : Nat → Prop) (w : World) (AG : Option Addr) (cG : Nat) (G : List S39) (AE : Option Addr) (cE : Nat) (E : List S44) (day : Int) (x : S39) (hS : Stay P w AG cG G AE cE E) (hP : ∀ k, P k → k < w.heap.size) (hT : Tree G) (hlE : E.length ≤ 100) : Calls Try.prog 87 #[.agg #[.slice AG G.length cG, .slice AE E.length cE, .int .i64 day], .agg #[.int .i64 x.f0, .int .i64 x.f1, .int .i64 x.f2, .int .i64 x.f3, .int .i64 x.f4, .int .i64 x.f5, .int .i64 x.f6, .int .i64 x.f7, .bool x.f8]] w fun e w' => ∃ v, e = .returned (.tuple #[v, .int .i64 (putN G), .int .i64 (putC G)]) ∧ Bok P w' (putG G x) E day v ∧ Below w.heap.size w w' := by
  have HRW := lhid hS
  have HPW := lhid hP
  have hgl := hT.1
  have HLE := lhid hlE
  clear hS hP hT hlE
  by_cases hl : 128 ≤ G.length
  · have hd : decide ((G.length : Int) ≥ 128) = true := decide_eq_true (by omega)
    have hG : putG G x = G ∧ putN G = 0 ∧ putC G = 8 := ⟨if_pos hl, if_pos hl, if_pos hl⟩
    rw [hG.1, hG.2.1, hG.2.2]
    have hu51 := Try.underlying51
    have hu39 := Try.underlying39
    have hu44 := Try.underlying44
    go_enter Try.func87, Try.ntmps87
    have HB_1 := lhid (Below.refl w.heap.size w)
    go_upto_region 1 with (fail)
    have hb := below_alloc (Below.refl w.heap.size w) (.cells #[.slice AG G.length cG, .slice AE E.length cE, .int .i64 day] 51)
    have hn := blk_new w (.cells #[.slice AG G.length cG, .slice AE E.length cE, .int .i64 day] 51)
    have HZ1 := lhid (show (World.alloc w (.cells #[.slice AG G.length cG, .slice AE E.length cE, .int .i64 day] 51)).heap.size = w.heap.size + 1 from by simp)
    generalize hq : World.alloc w (.cells #[.slice AG G.length cG, .slice AE E.length cE, .int .i64 day] 51) = w1 at hb hn HZ1 ⊢
    clear hq
    have HB_2 := lhid (below_then HB_1.out HB_1.out.size hb)
    clear HB_1 hb
    have XB_3 := lhid (hn)
    clear hn
    obtain ⟨xb, hxb⟩ : ∃ q, q = w.heap.size := ⟨_, rfl⟩
    rw [← hxb] at XB_3 ⊢
    have Exb := lhid hxb
    clear hxb
    have hb := below_alloc (Below.refl w1.heap.size w1) (.cells #[.int .i64 x.f0, .int .i64 x.f1, .int .i64 x.f2, .int .i64 x.f3, .int .i64 x.f4, .int .i64 x.f5, .int .i64 x.f6, .int .i64 x.f7, .bool x.f8] 39)
    have hn := blk_new w1 (.cells #[.int .i64 x.f0, .int .i64 x.f1, .int .i64 x.f2, .int .i64 x.f3, .int .i64 x.f4, .int .i64 x.f5, .int .i64 x.f6, .int .i64 x.f7, .bool x.f8] 39)
    have HZ2 := lhid (show (World.alloc w1 (.cells #[.int .i64 x.f0, .int .i64 x.f1, .int .i64 x.f2, .int .i64 x.f3, .int .i64 x.f4, .int .i64 x.f5, .int .i64 x.f6, .int .i64 x.f7, .bool x.f8] 39)).heap.size = w1.heap.size + 1 from by simp)
    generalize hq : World.alloc w1 (.cells #[.int .i64 x.f0, .int .i64 x.f1, .int .i64 x.f2, .int .i64 x.f3, .int .i64 x.f4, .int .i64 x.f5, .int .i64 x.f6, .int .i64 x.f7, .bool x.f8] 39) = w2 at hb hn HZ2 ⊢
    clear hq
    have HB_4 := lhid (below_then HB_2.out HB_2.out.size hb)
    have XB_5 := lhid (blk_below XB_3.out hb)
    clear HB_2 XB_3 hb
    have GX_6 := lhid (hn)
    clear hn
    obtain ⟨gx, hgx⟩ : ∃ q, q = xb + 1 := ⟨_, rfl⟩
    rw [show w1.heap.size = gx by rw [hgx]; have z1 := HZ1.out; have y0 := Exb.out; omega] at GX_6
    rw [← hgx]
    have Egx := lhid hgx
    clear hgx
    have hb := below_alloc (Below.refl w2.heap.size w2) (.cells #[.slice none 0 0, .slice none 0 0, .int .i64 0] 51)
    have hn := blk_new w2 (.cells #[.slice none 0 0, .slice none 0 0, .int .i64 0] 51)
    have HZ3 := lhid (show (World.alloc w2 (.cells #[.slice none 0 0, .slice none 0 0, .int .i64 0] 51)).heap.size = w2.heap.size + 1 from by simp)
    generalize hq : World.alloc w2 (.cells #[.slice none 0 0, .slice none 0 0, .int .i64 0] 51) = w3 at hb hn HZ3 ⊢
    clear hq
    have HB_7 := lhid (below_then HB_4.out HB_4.out.size hb)
    have XB_8 := lhid (blk_below XB_5.out hb)
    have GX_9 := lhid (blk_below GX_6.out hb)
    clear HB_4 XB_5 GX_6 hb
    have RZ_10 := lhid (hn)
    clear hn
    obtain ⟨rb, hrb⟩ : ∃ q, q = gx + 1 := ⟨_, rfl⟩
    rw [show w2.heap.size = rb by rw [hrb]; have z1 := HZ1.out; have z2 := HZ2.out; have y0 := Exb.out; have y1 := Egx.out; omega] at RZ_10
    rw [← hrb]
    have Erb := lhid hrb
    clear hrb
    have HNE := lhid (show xb = w.heap.size + 0 ∧ gx = w.heap.size + 1 ∧ rb = w.heap.size + 2 ∧ w3.heap.size = w.heap.size + 3 by have z1 := HZ1.out; have z2 := HZ2.out; have z3 := HZ3.out; have y0 := Exb.out;  have y1 := Egx.out;  have y2 := Erb.out; omega)
    clear Exb Egx Erb HZ1 HZ2 HZ3
    have HRB := lhid (show w.heap.size ≤ rb by have := HNE.out; omega)
    obtain ⟨z0, z1, z2⟩ := three XB_8.out
    obtain ⟨r0, r1, r2⟩ := three RZ_10.out
    have hfz : ∀ o, w3.frozen? ⟨rb, o, none⟩ = false := fun o => blk_frozen RZ_10.out o
    go_wp2_with fail
    try any_goals (exfalso; omega)
    clear z0 z1 z2
    clear r0 r1 r2 hfz
    have hz1 := blk_put RZ_10.out 0 (.slice AG G.length cG) rfl
    have hz2 := blk_put hz1 1 (.slice AE E.length cE) rfl
    have hz3 := blk_put hz2 2 (.int .i64 day) rfl
    have hB := ((HB_7.out.setCell (p := ⟨rb, 0, none⟩) HRB.out (.slice AG G.length cG)).setCell (p := ⟨rb, 1, none⟩) HRB.out (.slice AE E.length cE)).setCell (p := ⟨rb, 2, none⟩) HRB.out (.int .i64 day)
    clear hz1 hz2
    generalize (World.setCell (World.setCell (World.setCell w3 ⟨rb, 0, none⟩ (.slice AG G.length cG)) ⟨rb, 1, none⟩ (.slice AE E.length cE)) ⟨rb, 2, none⟩ (.int .i64 day)) = w9 at hz3  hB ⊢
    refine bodyPost_ret (results_ctt rfl _ _ rb 51 #[(.slice AG G.length cG), (.slice AE E.length cE), (.int .i64 day)] (0, 0) _ rfl hz3 Try.underlying51 rfl (by kernel_rfl)) rfl ?_
    exact ⟨_, rfl, bok_same HRW.out hB, hB⟩
  · have hd : decide ((G.length : Int) ≥ 128) = false := decide_eq_false (by omega)
    have hG : putG G x = G ++ [newG G x] ∧ putN G = (G.length : Int) + 1 ∧ putC G = 0 := ⟨if_neg hl, if_neg hl, if_neg hl⟩
    rw [hG.1, hG.2.1, hG.2.2]
    clear hG
    have hu51 := Try.underlying51
    have hu39 := Try.underlying39
    have hu44 := Try.underlying44
    go_enter Try.func87, Try.ntmps87
    have HB_11 := lhid (Below.refl w.heap.size w)
    go_upto_region 1 with (fail)
    have hb := below_alloc (Below.refl w.heap.size w) (.cells #[.slice AG G.length cG, .slice AE E.length cE, .int .i64 day] 51)
    have hn := blk_new w (.cells #[.slice AG G.length cG, .slice AE E.length cE, .int .i64 day] 51)
    have HZ1 := lhid (show (World.alloc w (.cells #[.slice AG G.length cG, .slice AE E.length cE, .int .i64 day] 51)).heap.size = w.heap.size + 1 from by simp)
    generalize hq : World.alloc w (.cells #[.slice AG G.length cG, .slice AE E.length cE, .int .i64 day] 51) = w1 at hb hn HZ1 ⊢
    clear hq
    have HB_12 := lhid (below_then HB_11.out HB_11.out.size hb)
    clear HB_11 hb
    have XB_13 := lhid (hn)
    clear hn
    obtain ⟨xb, hxb⟩ : ∃ q, q = w.heap.size := ⟨_, rfl⟩
    rw [← hxb] at XB_13 ⊢
    have Exb := lhid hxb
    clear hxb
    have hb := below_alloc (Below.refl w1.heap.size w1) (.cells #[.int .i64 x.f0, .int .i64 x.f1, .int .i64 x.f2, .int .i64 x.f3, .int .i64 x.f4, .int .i64 x.f5, .int .i64 x.f6, .int .i64 x.f7, .bool x.f8] 39)
    have hn := blk_new w1 (.cells #[.int .i64 x.f0, .int .i64 x.f1, .int .i64 x.f2, .int .i64 x.f3, .int .i64 x.f4, .int .i64 x.f5, .int .i64 x.f6, .int .i64 x.f7, .bool x.f8] 39)
    have HZ2 := lhid (show (World.alloc w1 (.cells #[.int .i64 x.f0, .int .i64 x.f1, .int .i64 x.f2, .int .i64 x.f3, .int .i64 x.f4, .int .i64 x.f5, .int .i64 x.f6, .int .i64 x.f7, .bool x.f8] 39)).heap.size = w1.heap.size + 1 from by simp)
    generalize hq : World.alloc w1 (.cells #[.int .i64 x.f0, .int .i64 x.f1, .int .i64 x.f2, .int .i64 x.f3, .int .i64 x.f4, .int .i64 x.f5, .int .i64 x.f6, .int .i64 x.f7, .bool x.f8] 39) = w2 at hb hn HZ2 ⊢
    clear hq
    have HB_14 := lhid (below_then HB_12.out HB_12.out.size hb)
    have XB_15 := lhid (blk_below XB_13.out hb)
    clear HB_12 XB_13 hb
    have GX_16 := lhid (hn)
    clear hn
    obtain ⟨gx, hgx⟩ : ∃ q, q = xb + 1 := ⟨_, rfl⟩
    rw [show w1.heap.size = gx by rw [hgx]; have z1 := HZ1.out; have y0 := Exb.out; omega] at GX_16
    rw [← hgx]
    have Egx := lhid hgx
    clear hgx
    have hb := below_alloc (Below.refl w2.heap.size w2) (.cells #[.slice none 0 0, .slice none 0 0, .int .i64 0] 51)
    have hn := blk_new w2 (.cells #[.slice none 0 0, .slice none 0 0, .int .i64 0] 51)
    have HZ3 := lhid (show (World.alloc w2 (.cells #[.slice none 0 0, .slice none 0 0, .int .i64 0] 51)).heap.size = w2.heap.size + 1 from by simp)
    generalize hq : World.alloc w2 (.cells #[.slice none 0 0, .slice none 0 0, .int .i64 0] 51) = w3 at hb hn HZ3 ⊢
    clear hq
    have HB_17 := lhid (below_then HB_14.out HB_14.out.size hb)
    have XB_18 := lhid (blk_below XB_15.out hb)
    have GX_19 := lhid (blk_below GX_16.out hb)
    clear HB_14 XB_15 GX_16 hb
    have RZ_20 := lhid (hn)
    clear hn
    obtain ⟨rb, hrb⟩ : ∃ q, q = gx + 1 := ⟨_, rfl⟩
    rw [show w2.heap.size = rb by rw [hrb]; have z1 := HZ1.out; have z2 := HZ2.out; have y0 := Exb.out; have y1 := Egx.out; omega] at RZ_20
    rw [← hrb]
    have Erb := lhid hrb
    clear hrb
    have HNE := lhid (show xb = w.heap.size + 0 ∧ gx = w.heap.size + 1 ∧ rb = w.heap.size + 2 ∧ w3.heap.size = w.heap.size + 3 by have z1 := HZ1.out; have z2 := HZ2.out; have z3 := HZ3.out; have y0 := Exb.out;  have y1 := Egx.out;  have y2 := Erb.out; omega)
    clear Exb Egx Erb HZ1 HZ2 HZ3
    have HRB := lhid (show w.heap.size ≤ rb by have := HNE.out; omega)
    obtain ⟨z0, z1, z2⟩ := three XB_18.out
    go_wp2_with fail
    try any_goals (exfalso; omega)
    with_reducible refine (copied_r w3 AG cG G AE cE E day (HRW.out.rb HB_17.out) (by omega) HLE.out).mono ?_
    rintro e w20 ⟨A1, c1, A2, c2, rfl, hG, hE, hb⟩
    have HG0 := lhid (Kd.R_lower hG HB_17.out.size)
    have HE0 := lhid (Kd.R_lower hE HB_17.out.size)
    have HS3 := lhid (show w3.heap.size ≤ w20.heap.size from hb.size)
    have HGXN := lhid (show some gx ≠ (Value.slice A1 G.length c1).ownBlock from fun e_ => by have h1 := Kd.R_own hG; have h2 := HNE.out; have h3 := own_base h1.choose_spec gx e_.symm; omega)
    clear hG hE hd
    clear z0 z1 z2
    have HB_21 := lhid (below_then HB_17.out HB_17.out.size hb)
    have XB_22 := lhid (blk_below XB_18.out hb)
    have GX_23 := lhid (blk_below GX_19.out hb)
    have RZ_24 := lhid (blk_below RZ_20.out hb)
    clear HB_17 XB_18 GX_19 RZ_20 hb
    go_upto_region 4 with (fail)
    have HZS := lhid (show w.heap.size + 3 ≤ w20.heap.size by have h1 := HNE.out; have h2 := HS3.out; omega)
    have hb := below_alloc (Below.refl w20.heap.size w20) (.cells #[.slice A1 G.length c1, .slice A2 E.length c2, .int .i64 day] 51)
    have hn := blk_new w20 (.cells #[.slice A1 G.length c1, .slice A2 E.length c2, .int .i64 day] 51)
    have HZ21 := lhid (show (World.alloc w20 (.cells #[.slice A1 G.length c1, .slice A2 E.length c2, .int .i64 day] 51)).heap.size = w20.heap.size + 1 from by simp)
    generalize hq : World.alloc w20 (.cells #[.slice A1 G.length c1, .slice A2 E.length c2, .int .i64 day] 51) = w21 at hb hn HZ21 ⊢
    clear hq
    have HB_25 := lhid (below_then HB_21.out HB_21.out.size hb)
    have XB_26 := lhid (blk_below XB_22.out hb)
    have GX_27 := lhid (blk_below GX_23.out hb)
    have RZ_28 := lhid (blk_below RZ_24.out hb)
    have HG_29 := lhid (Kd.R_below HG0.out hb)
    have HE_30 := lhid (Kd.R_below HE0.out hb)
    clear HB_21 XB_22 GX_23 RZ_24 HG0 HE0 hb
    have NB_31 := lhid (hn)
    clear hn
    obtain ⟨nb, hnb⟩ : ∃ q, q = w20.heap.size := ⟨_, rfl⟩
    rw [← hnb] at NB_31 ⊢
    have HNN := lhid (show gx < nb ∧ rb < nb ∧ w.heap.size ≤ nb ∧ gx ≠ rb ∧ w.heap.size ≤ gx by
      have h1 := HNE.out
      have h4 := HZS.out
      omega)
    clear hnb
    have HGE_gx := lhid HNN.out.2.2.2.2
    have HGE_nb := lhid HNN.out.2.2.1
    obtain ⟨n0, n1, n2⟩ := three NB_31.out
    obtain ⟨x0, x1, x2, x3, x4, x5, x6, x7, x8⟩ := nine GX_27.out
    have hfz : ∀ o, w21.frozen? ⟨gx, o, none⟩ = false := fun o => blk_frozen GX_27.out o
    go_upto_region 5 with (fail)
    try any_goals (exfalso; omega)
    clear n0 n1 n2 x0 x1 x2 x3 x4 x5 x6 x7 x8 hfz
    have HB_32 := lhid (HB_25.out.setCell (p := ⟨gx, 0, none⟩) HGE_gx.out (.int .i64 ((G.length : Int) + 1)))
    have XB_33 := lhid (blk_far XB_26.out (p := ⟨gx, 0, none⟩) (by have h1 := HNE.out; have h2 := HNN.out; show _ ≠ gx; omega) (.int .i64 ((G.length : Int) + 1)))
    have GX_34 := lhid ((show (World.setCell w21 ⟨gx, 0, none⟩ (.int .i64 ((G.length : Int) + 1))).heap[gx]? = some (.cells #[.int .i64 ((G.length : Int) + 1), .int .i64 x.f1, .int .i64 x.f2, .int .i64 x.f3, .int .i64 x.f4, .int .i64 x.f5, .int .i64 x.f6, .int .i64 x.f7, .bool x.f8] 39) from blk_put GX_27.out 0 (.int .i64 ((G.length : Int) + 1)) rfl))
    have RZ_35 := lhid (blk_far RZ_28.out (p := ⟨gx, 0, none⟩) (by have h1 := HNE.out; have h2 := HNN.out; show _ ≠ gx; omega) (.int .i64 ((G.length : Int) + 1)))
    have HG_36 := lhid (Kd.R_mono (Kd.R_far (p := ⟨gx, 0, none⟩) (Kd.R_far1 HG_29.out rfl HGXN.out) (fun _ hk => hk.2) (.int .i64 ((G.length : Int) + 1))) (fun _ hk => hk.1))
    have HE_37 := lhid (Kd.R_set HE_30.out GX_27.out (by decide) 0 (.int .i64 ((G.length : Int) + 1)))
    have NB_38 := lhid (blk_far NB_31.out (p := ⟨gx, 0, none⟩) (by have h1 := HNE.out; have h2 := HNN.out; show _ ≠ gx; omega) (.int .i64 ((G.length : Int) + 1)))
    clear HB_25 XB_26 GX_27 RZ_28 HG_29 HE_30 NB_31
    generalize World.setCell w21 ⟨gx, 0, none⟩ (.int .i64 ((G.length : Int) + 1)) = w22 at HB_32 XB_33 GX_34 RZ_35 HG_36 HE_37 NB_38 ⊢
    obtain ⟨y, hy⟩ : ∃ y, y = newG G x := ⟨_, rfl⟩
    by_cases hf : x.f1 = 0
    · have hd : (x.f1 == 0) = true := beq_iff_eq.2 hf
      obtain ⟨x0, x1, x2, x3, x4, x5, x6, x7, x8⟩ := nine GX_34.out
      have hfz : ∀ o, w22.frozen? ⟨gx, o, none⟩ = false := fun o => blk_frozen GX_34.out o
      go_upto_region 7 with (fail)
      clear x0 x1 x2 x3 x4 x5 x6 x7 x8 hfz hd
      have HB_39 := lhid (HB_32.out.setCell (p := ⟨gx, 2, none⟩) HGE_gx.out (.int .i64 ((G.length : Int) + 1)))
      have XB_40 := lhid (blk_far XB_33.out (p := ⟨gx, 2, none⟩) (by have h1 := HNE.out; have h2 := HNN.out; show _ ≠ gx; omega) (.int .i64 ((G.length : Int) + 1)))
      have GX_41 := lhid ((show (World.setCell w22 ⟨gx, 2, none⟩ (.int .i64 ((G.length : Int) + 1))).heap[gx]? = some (.cells #[.int .i64 ((G.length : Int) + 1), .int .i64 x.f1, .int .i64 ((G.length : Int) + 1), .int .i64 x.f3, .int .i64 x.f4, .int .i64 x.f5, .int .i64 x.f6, .int .i64 x.f7, .bool x.f8] 39) from blk_put GX_34.out 2 (.int .i64 ((G.length : Int) + 1)) rfl))
      have RZ_42 := lhid (blk_far RZ_35.out (p := ⟨gx, 2, none⟩) (by have h1 := HNE.out; have h2 := HNN.out; show _ ≠ gx; omega) (.int .i64 ((G.length : Int) + 1)))
      have HG_43 := lhid (Kd.R_mono (Kd.R_far (p := ⟨gx, 2, none⟩) (Kd.R_far1 HG_36.out rfl HGXN.out) (fun _ hk => hk.2) (.int .i64 ((G.length : Int) + 1))) (fun _ hk => hk.1))
      have HE_44 := lhid (Kd.R_set HE_37.out GX_34.out (by decide) 2 (.int .i64 ((G.length : Int) + 1)))
      have NB_45 := lhid (blk_far NB_38.out (p := ⟨gx, 2, none⟩) (by have h1 := HNE.out; have h2 := HNN.out; show _ ≠ gx; omega) (.int .i64 ((G.length : Int) + 1)))
      clear HB_32 XB_33 GX_34 RZ_35 HG_36 HE_37 NB_38
      generalize World.setCell w22 ⟨gx, 2, none⟩ (.int .i64 ((G.length : Int) + 1)) = w23 at HB_39 XB_40 GX_41 RZ_42 HG_43 HE_44 NB_45 ⊢
      have HGY := lhid (show w23.heap[gx]? = some (.cells #[.int .i64 (newG G x).f0, .int .i64 (newG G x).f1, .int .i64 (newG G x).f2, .int .i64 (newG G x).f3, .int .i64 (newG G x).f4, .int .i64 (newG G x).f5, .int .i64 (newG G x).f6, .int .i64 (newG G x).f7, .bool (newG G x).f8] 39) by unfold newG; simp only [if_pos hf]; exact GX_41.out)
      clear GX_41
      have HY := lhid hy
      clear hy
      have GY := lhid (show w23.heap[gx]? = some (.cells #[.int .i64 y.f0, .int .i64 y.f1, .int .i64 y.f2, .int .i64 y.f3, .int .i64 y.f4, .int .i64 y.f5, .int .i64 y.f6, .int .i64 y.f7, .bool y.f8] 39) by rw [HY.out]; exact HGY.out)
      clear HGY
      have hy0 : y.f0 = (G.length : Int) + 1 := by rw [HY.out]; rfl
      have HY0 := lhid hy0
      clear hy0
      obtain ⟨n0, n1, n2⟩ := three NB_45.out
      obtain ⟨x0, x1, x2, x3, x4, x5, x6, x7, x8⟩ := nine GY.out
      go_upto_region 8 with (first | ((with_reducible refine gate_builtin (b := .append) (xs := #[.tmp 27, .tmp 29]) rfl ?_); at_builtin; refine Kd.R_append k39 (w0 := w) w.heap.size rfl (.tmp 27) (.tmp 29) 33 39 (.agg #[(.int .i64 0), (.int .i64 0), (.int .i64 0), (.int .i64 0), (.int .i64 0), (.int .i64 0), (.int .i64 0), (.int .i64 0), (.bool false)]) 72 rfl Try.underlying33 info39 rfl (by decide) (by omega) (.slice A1 G.length c1) G y [.int .i64 y.f0, .int .i64 y.f1, .int .i64 y.f2, .int .i64 y.f3, .int .i64 y.f4, .int .i64 y.f5, .int .i64 y.f6, .int .i64 y.f7, .bool y.f8] (fun _ => True) (fun _ => False) rfl rfl ?aP (fun _ hk => hk.elim) ?aF ?aO ?aB ?aS ?aL ?_; (case aP => exact k39_mkM _ _ _ y); (case aF => exact fun _ _ => trivial); (case aO => exact HG_43.out); (case aB => exact HB_39.out); (case aS => exact HB_39.out.size); (case aL => omega); intro v8 w8 ho8 hb8 hg8 hat8; obtain ⟨A8, c8, hv8⟩ := Kd.R_slice ho8; rw [show (G ++ [y]).length = G.length + 1 by simp] at hv8; subst hv8; have HP8 := lhid ho8; have HB8 := lhid hb8; have NB8 := lhid (blk_grown NB_45.out hg8 (Kd.R_ne HG_43.out NB_45.out (by decide))); have GX8 := lhid (blk_grown GY.out hg8 (HGXN.out)); have RZ8 := lhid (blk_grown RZ_42.out hg8 (Kd.R_ne HG_43.out RZ_42.out (by decide))); have HE8 := lhid (Kd.R_grown2 HE_44.out rfl hg8 (fun z hz e_ => by rcases own_type_ne (Kd.R_own HG_43.out).choose_spec (Kd.R_own HE_44.out).choose_spec (by decide) with q | q; (rw [q] at hz; cases hz); exact q (hz.trans e_))); have hn8 := (three NB8.out).1; have hf8 := blk_frozen NB8.out 0; clear ho8 hb8 hg8 hat8))
      try any_goals (exfalso; omega)
      clear n0 n1 n2 x0 x1 x2 x3 x4 x5 x6 x7 x8 hn8 hf8
      have HB_46 := lhid (HB8.out.setCell (p := ⟨nb, 0, none⟩) HGE_nb.out (.slice A8 (G.length + 1) c8))
      have HG_47 := lhid (Kd.R_set HP8.out NB8.out (by decide) 0 (.slice A8 (G.length + 1) c8))
      have NB_48 := lhid ((show (World.setCell w8 ⟨nb, 0, none⟩ (.slice A8 (G.length + 1) c8)).heap[nb]? = some (.cells #[.slice A8 (G.length + 1) c8, .slice A2 E.length c2, .int .i64 day] 51) from blk_put NB8.out 0 (.slice A8 (G.length + 1) c8) rfl))
      have GX_49 := lhid (blk_far GX8.out (p := ⟨nb, 0, none⟩) (by have h1 := HNE.out; have h2 := HNN.out; show _ ≠ nb; omega) (.slice A8 (G.length + 1) c8))
      have RZ_50 := lhid (blk_far RZ8.out (p := ⟨nb, 0, none⟩) (by have h1 := HNE.out; have h2 := HNN.out; show _ ≠ nb; omega) (.slice A8 (G.length + 1) c8))
      have HE_51 := lhid (Kd.R_set HE8.out NB8.out (by decide) 0 (.slice A8 (G.length + 1) c8))
      clear HB8 HP8 NB8 GX8 RZ8 HE8
      generalize World.setCell w8 ⟨nb, 0, none⟩ (.slice A8 (G.length + 1) c8) = w24 at HB_46 HG_47 NB_48 GX_49 RZ_50 HE_51 ⊢
      have hb := below_drew1 (Below.refl w24.heap.size w24)
      have HB_52 := lhid (below_then HB_46.out HB_46.out.size hb)
      have HG_53 := lhid (Kd.R_below HG_47.out hb)
      have NB_54 := lhid (blk_below NB_48.out hb)
      have GX_55 := lhid (blk_below GX_49.out hb)
      have RZ_56 := lhid (blk_below RZ_50.out hb)
      have HE_57 := lhid (Kd.R_below HE_51.out hb)
      clear HB_46 HG_47 NB_48 GX_49 RZ_50 HE_51 hb
      refine start_ (n := 6) (S := fun w' => w'.cell? ⟨nb, 0, none⟩ = some (.slice A8 (G.length + 1) c8) ∧ w'.cell? ⟨nb, 1, none⟩ = some (.slice A2 E.length c2) ∧ w'.cell? ⟨nb, 2, none⟩ = some (.int .i64 day) ∧ w'.cell? ⟨gx, 0, none⟩ = some (.int .i64 y.f0)) (ds := []) (lsb 6 0) (by kernel_rfl) rfl (by kernel_rfl) ⟨(three NB_54.out).1, (three NB_54.out).2.1, (three NB_54.out).2.2, (nine GX_55.out).1⟩ (fun hHeld => ?_)
      generalize w24.drew = w25 at HB_52 HG_53 NB_54 GX_55 RZ_56 HE_57 hHeld ⊢
      refine pure_ (i := 1) (N := some 33) (v := ?_) (a' := ?_) (lsb 6 2) rfl rfl (by as_aux_lemma => kernel_rfl) (fun _ _ _ h => h) (Or.inl ⟨by rfl, ?_⟩) ?_ ?_; rotate_left; (intro w'; go_simp; with_reducible rfl); rotate_left; (simp only [Act.put, List.setIfInBounds_toArray, List.set_cons_zero, List.set_cons_succ, i64_w, i32_w]; rfl)
      refine take_ (i := 0) (N := some 32) (v := ?_) (a' := ?_) (lsb 6 3) rfl rfl (by as_aux_lemma => kernel_rfl) (fun _ _ _ h => h) (Or.inl ⟨by rfl, ?_⟩) hHeld ?_ ?_; rotate_left; (rintro w' ⟨s0, s1, s2, s3⟩; go_simp; with_reducible rfl); rotate_left; (simp only [Act.put, List.setIfInBounds_toArray, List.set_cons_zero, List.set_cons_succ, i64_w, i32_w]; rfl)
      refine take_ (i := 2) (N := some 34) (v := ?_) (a' := ?_) (lsb 6 7) rfl rfl (by as_aux_lemma => kernel_rfl) (fun _ _ _ h => h) (Or.inl ⟨by rfl, ?_⟩) hHeld ?_ ?_; rotate_left; (rintro w' ⟨s0, s1, s2, s3⟩; go_simp; with_reducible rfl); rotate_left; (simp only [Act.put, List.setIfInBounds_toArray, List.set_cons_zero, List.set_cons_succ, i64_w, i32_w]; rfl)
      refine one_ (i := 3) (N := none) (lsb 6 15) rfl rfl (by kernel_rfl) (by decide) (fun K hK => ?_)
      obtain ⟨r0, r1, r2⟩ := three RZ_56.out
      have hfz := fun o => blk_frozen RZ_56.out o
      refine skip_ (w1 := ?_) (by rfl) rfl ?_ ?_
      rotate_left
      · go_simp
        rfl
      clear r0 r1 r2 hfz
      have NBz := blk_far (blk_far (blk_far NB_54.out (p := ⟨rb, 0, none⟩) (by have h2 := HNN.out; show nb ≠ rb; omega) (.slice A8 (G.length + 1) c8)) (p := ⟨rb, 1, none⟩) (by have h2 := HNN.out; show nb ≠ rb; omega) (.slice A2 E.length c2)) (p := ⟨rb, 2, none⟩) (by have h2 := HNN.out; show nb ≠ rb; omega) (.int .i64 day)
      have GXz := blk_far (blk_far (blk_far GX_55.out (p := ⟨rb, 0, none⟩) (by have h2 := HNN.out; show gx ≠ rb; omega) (.slice A8 (G.length + 1) c8)) (p := ⟨rb, 1, none⟩) (by have h2 := HNN.out; show gx ≠ rb; omega) (.slice A2 E.length c2)) (p := ⟨rb, 2, none⟩) (by have h2 := HNN.out; show gx ≠ rb; omega) (.int .i64 day)
      refine hK.out _ _ ⟨(three NBz).1, (three NBz).2.1, (three NBz).2.2, (nine GXz).1⟩ (fun hHeld => ?_)
      clear hK K
      refine pure_ (i := 4) (N := some 5) (v := ?_) (a' := ?_) (lsb 6 31) rfl rfl (by as_aux_lemma => kernel_rfl) (fun _ _ _ h => h) (Or.inl ⟨by rfl, ?_⟩) ?_ ?_; rotate_left; (intro w'; go_simp; with_reducible rfl); rotate_left; (simp only [Act.put, List.setIfInBounds_toArray, List.set_cons_zero, List.set_cons_succ, i64_w, i32_w]; rfl)
      refine pure_ (i := 5) (N := some 6) (v := ?_) (a' := ?_) (lsb 6 63) rfl rfl (by as_aux_lemma => kernel_rfl) (fun _ _ _ h => h) (Or.inl ⟨by rfl, ?_⟩) ?_ ?_; rotate_left; (intro w'; go_simp; with_reducible rfl); rotate_left; (simp only [Act.put, List.setIfInBounds_toArray, List.set_cons_zero, List.set_cons_succ, i64_w, i32_w]; rfl)
      refine done_ (by kernel_rfl) ?_
      
      rw [HY0.out]
      have hlen : (G ++ [y]).length = G.length + 1 := by simp
      go_wp2_with fail
      have hz1 := blk_put RZ_56.out 0 (.slice A8 (G.length + 1) c8) rfl
      have hz2 := blk_put hz1 1 (.slice A2 E.length c2) rfl
      have hz3 := blk_put hz2 2 (.int .i64 day) rfl
      have hHG := Kd.R_set (Kd.R_set (Kd.R_set HG_53.out RZ_56.out (by decide) 0 (.slice A8 (G.length + 1) c8)) hz1 (by decide) 1 (.slice A2 E.length c2)) hz2 (by decide) 2 (.int .i64 day)
      have hHE := Kd.R_set (Kd.R_set (Kd.R_set HE_57.out RZ_56.out (by decide) 0 (.slice A8 (G.length + 1) c8)) hz1 (by decide) 1 (.slice A2 E.length c2)) hz2 (by decide) 2 (.int .i64 day)
      have hB := ((HB_52.out.setCell (p := ⟨rb, 0, none⟩) HRB.out (.slice A8 (G.length + 1) c8)).setCell (p := ⟨rb, 1, none⟩) HRB.out (.slice A2 E.length c2)).setCell (p := ⟨rb, 2, none⟩) HRB.out (.int .i64 day)
      clear hz1 hz2
      generalize (World.setCell (World.setCell (World.setCell w25 ⟨rb, 0, none⟩ (.slice A8 (G.length + 1) c8)) ⟨rb, 1, none⟩ (.slice A2 E.length c2)) ⟨rb, 2, none⟩ (.int .i64 day)) = w9 at hz3 hHG hHE hB ⊢
      refine bodyPost_ret (results_ctt rfl _ _ rb 51 #[(.slice A8 (G.length + 1) c8), (.slice A2 E.length c2), (.int .i64 day)] (0, 0) _ rfl hz3 Try.underlying51 rfl (by kernel_rfl)) rfl ?_
      have hbn := bok_new (P := P) (w := w) HPW.out (day := day) (show Kd.R k39 39 w9 w.heap.size _ (.slice A8 (G ++ [y]).length c8) (G ++ [y]) by rw [hlen]; exact hHG) hHE
      rw [hlen] at hbn
      exact ⟨_, rfl, by rw [← HY.out]; exact hbn, hB⟩
    · have hd : (x.f1 == 0) = false := beq_eq_false_iff_ne.2 hf
      obtain ⟨x0, x1, x2, x3, x4, x5, x6, x7, x8⟩ := nine GX_34.out
      go_upto_region 7 with (fail)
      clear x0 x1 x2 x3 x4 x5 x6 x7 x8 hd
      have HGY := lhid (show w22.heap[gx]? = some (.cells #[.int .i64 (newG G x).f0, .int .i64 (newG G x).f1, .int .i64 (newG G x).f2, .int .i64 (newG G x).f3, .int .i64 (newG G x).f4, .int .i64 (newG G x).f5, .int .i64 (newG G x).f6, .int .i64 (newG G x).f7, .bool (newG G x).f8] 39) by unfold newG; simp only [if_neg hf]; exact GX_34.out)
      clear GX_34
      have HY := lhid hy
      clear hy
      have GY := lhid (show w22.heap[gx]? = some (.cells #[.int .i64 y.f0, .int .i64 y.f1, .int .i64 y.f2, .int .i64 y.f3, .int .i64 y.f4, .int .i64 y.f5, .int .i64 y.f6, .int .i64 y.f7, .bool y.f8] 39) by rw [HY.out]; exact HGY.out)
      clear HGY
      have hy0 : y.f0 = (G.length : Int) + 1 := by rw [HY.out]; rfl
      have HY0 := lhid hy0
      clear hy0
      obtain ⟨n0, n1, n2⟩ := three NB_38.out
      obtain ⟨x0, x1, x2, x3, x4, x5, x6, x7, x8⟩ := nine GY.out
      go_upto_region 8 with (first | ((with_reducible refine gate_builtin (b := .append) (xs := #[.tmp 27, .tmp 29]) rfl ?_); at_builtin; refine Kd.R_append k39 (w0 := w) w.heap.size rfl (.tmp 27) (.tmp 29) 33 39 (.agg #[(.int .i64 0), (.int .i64 0), (.int .i64 0), (.int .i64 0), (.int .i64 0), (.int .i64 0), (.int .i64 0), (.int .i64 0), (.bool false)]) 72 rfl Try.underlying33 info39 rfl (by decide) (by omega) (.slice A1 G.length c1) G y [.int .i64 y.f0, .int .i64 y.f1, .int .i64 y.f2, .int .i64 y.f3, .int .i64 y.f4, .int .i64 y.f5, .int .i64 y.f6, .int .i64 y.f7, .bool y.f8] (fun _ => True) (fun _ => False) rfl rfl ?aP (fun _ hk => hk.elim) ?aF ?aO ?aB ?aS ?aL ?_; (case aP => exact k39_mkM _ _ _ y); (case aF => exact fun _ _ => trivial); (case aO => exact HG_36.out); (case aB => exact HB_32.out); (case aS => exact HB_32.out.size); (case aL => omega); intro v8 w8 ho8 hb8 hg8 hat8; obtain ⟨A8, c8, hv8⟩ := Kd.R_slice ho8; rw [show (G ++ [y]).length = G.length + 1 by simp] at hv8; subst hv8; have HP8 := lhid ho8; have HB8 := lhid hb8; have NB8 := lhid (blk_grown NB_38.out hg8 (Kd.R_ne HG_36.out NB_38.out (by decide))); have GX8 := lhid (blk_grown GY.out hg8 (HGXN.out)); have RZ8 := lhid (blk_grown RZ_35.out hg8 (Kd.R_ne HG_36.out RZ_35.out (by decide))); have HE8 := lhid (Kd.R_grown2 HE_37.out rfl hg8 (fun z hz e_ => by rcases own_type_ne (Kd.R_own HG_36.out).choose_spec (Kd.R_own HE_37.out).choose_spec (by decide) with q | q; (rw [q] at hz; cases hz); exact q (hz.trans e_))); have hn8 := (three NB8.out).1; have hf8 := blk_frozen NB8.out 0; clear ho8 hb8 hg8 hat8))
      try any_goals (exfalso; omega)
      clear n0 n1 n2 x0 x1 x2 x3 x4 x5 x6 x7 x8 hn8 hf8
      have HB_58 := lhid (HB8.out.setCell (p := ⟨nb, 0, none⟩) HGE_nb.out (.slice A8 (G.length + 1) c8))
      have HG_59 := lhid (Kd.R_set HP8.out NB8.out (by decide) 0 (.slice A8 (G.length + 1) c8))
      have NB_60 := lhid ((show (World.setCell w8 ⟨nb, 0, none⟩ (.slice A8 (G.length + 1) c8)).heap[nb]? = some (.cells #[.slice A8 (G.length + 1) c8, .slice A2 E.length c2, .int .i64 day] 51) from blk_put NB8.out 0 (.slice A8 (G.length + 1) c8) rfl))
      have GX_61 := lhid (blk_far GX8.out (p := ⟨nb, 0, none⟩) (by have h1 := HNE.out; have h2 := HNN.out; show _ ≠ nb; omega) (.slice A8 (G.length + 1) c8))
      have RZ_62 := lhid (blk_far RZ8.out (p := ⟨nb, 0, none⟩) (by have h1 := HNE.out; have h2 := HNN.out; show _ ≠ nb; omega) (.slice A8 (G.length + 1) c8))
      have HE_63 := lhid (Kd.R_set HE8.out NB8.out (by decide) 0 (.slice A8 (G.length + 1) c8))
      clear HB8 HP8 NB8 GX8 RZ8 HE8
      generalize World.setCell w8 ⟨nb, 0, none⟩ (.slice A8 (G.length + 1) c8) = w23 at HB_58 HG_59 NB_60 GX_61 RZ_62 HE_63 ⊢
      have hb := below_drew1 (Below.refl w23.heap.size w23)
      have HB_64 := lhid (below_then HB_58.out HB_58.out.size hb)
      have HG_65 := lhid (Kd.R_below HG_59.out hb)
      have NB_66 := lhid (blk_below NB_60.out hb)
      have GX_67 := lhid (blk_below GX_61.out hb)
      have RZ_68 := lhid (blk_below RZ_62.out hb)
      have HE_69 := lhid (Kd.R_below HE_63.out hb)
      clear HB_58 HG_59 NB_60 GX_61 RZ_62 HE_63 hb
      refine start_ (n := 6) (S := fun w' => w'.cell? ⟨nb, 0, none⟩ = some (.slice A8 (G.length + 1) c8) ∧ w'.cell? ⟨nb, 1, none⟩ = some (.slice A2 E.length c2) ∧ w'.cell? ⟨nb, 2, none⟩ = some (.int .i64 day) ∧ w'.cell? ⟨gx, 0, none⟩ = some (.int .i64 y.f0)) (ds := []) (lsb 6 0) (by kernel_rfl) rfl (by kernel_rfl) ⟨(three NB_66.out).1, (three NB_66.out).2.1, (three NB_66.out).2.2, (nine GX_67.out).1⟩ (fun hHeld => ?_)
      generalize w23.drew = w24 at HB_64 HG_65 NB_66 GX_67 RZ_68 HE_69 hHeld ⊢
      refine pure_ (i := 1) (N := some 33) (v := ?_) (a' := ?_) (lsb 6 2) rfl rfl (by as_aux_lemma => kernel_rfl) (fun _ _ _ h => h) (Or.inl ⟨by rfl, ?_⟩) ?_ ?_; rotate_left; (intro w'; go_simp; with_reducible rfl); rotate_left; (simp only [Act.put, List.setIfInBounds_toArray, List.set_cons_zero, List.set_cons_succ, i64_w, i32_w]; rfl)
      refine take_ (i := 0) (N := some 32) (v := ?_) (a' := ?_) (lsb 6 3) rfl rfl (by as_aux_lemma => kernel_rfl) (fun _ _ _ h => h) (Or.inl ⟨by rfl, ?_⟩) hHeld ?_ ?_; rotate_left; (rintro w' ⟨s0, s1, s2, s3⟩; go_simp; with_reducible rfl); rotate_left; (simp only [Act.put, List.setIfInBounds_toArray, List.set_cons_zero, List.set_cons_succ, i64_w, i32_w]; rfl)
      refine take_ (i := 2) (N := some 34) (v := ?_) (a' := ?_) (lsb 6 7) rfl rfl (by as_aux_lemma => kernel_rfl) (fun _ _ _ h => h) (Or.inl ⟨by rfl, ?_⟩) hHeld ?_ ?_; rotate_left; (rintro w' ⟨s0, s1, s2, s3⟩; go_simp; with_reducible rfl); rotate_left; (simp only [Act.put, List.setIfInBounds_toArray, List.set_cons_zero, List.set_cons_succ, i64_w, i32_w]; rfl)
      refine one_ (i := 3) (N := none) (lsb 6 15) rfl rfl (by kernel_rfl) (by decide) (fun K hK => ?_)
      obtain ⟨r0, r1, r2⟩ := three RZ_68.out
      have hfz := fun o => blk_frozen RZ_68.out o
      refine skip_ (w1 := ?_) (by rfl) rfl ?_ ?_
      rotate_left
      · go_simp
        rfl
      clear r0 r1 r2 hfz
      have NBz := blk_far (blk_far (blk_far NB_66.out (p := ⟨rb, 0, none⟩) (by have h2 := HNN.out; show nb ≠ rb; omega) (.slice A8 (G.length + 1) c8)) (p := ⟨rb, 1, none⟩) (by have h2 := HNN.out; show nb ≠ rb; omega) (.slice A2 E.length c2)) (p := ⟨rb, 2, none⟩) (by have h2 := HNN.out; show nb ≠ rb; omega) (.int .i64 day)
      have GXz := blk_far (blk_far (blk_far GX_67.out (p := ⟨rb, 0, none⟩) (by have h2 := HNN.out; show gx ≠ rb; omega) (.slice A8 (G.length + 1) c8)) (p := ⟨rb, 1, none⟩) (by have h2 := HNN.out; show gx ≠ rb; omega) (.slice A2 E.length c2)) (p := ⟨rb, 2, none⟩) (by have h2 := HNN.out; show gx ≠ rb; omega) (.int .i64 day)
      refine hK.out _ _ ⟨(three NBz).1, (three NBz).2.1, (three NBz).2.2, (nine GXz).1⟩ (fun hHeld => ?_)
      clear hK K
      refine pure_ (i := 4) (N := some 5) (v := ?_) (a' := ?_) (lsb 6 31) rfl rfl (by as_aux_lemma => kernel_rfl) (fun _ _ _ h => h) (Or.inl ⟨by rfl, ?_⟩) ?_ ?_; rotate_left; (intro w'; go_simp; with_reducible rfl); rotate_left; (simp only [Act.put, List.setIfInBounds_toArray, List.set_cons_zero, List.set_cons_succ, i64_w, i32_w]; rfl)
      refine pure_ (i := 5) (N := some 6) (v := ?_) (a' := ?_) (lsb 6 63) rfl rfl (by as_aux_lemma => kernel_rfl) (fun _ _ _ h => h) (Or.inl ⟨by rfl, ?_⟩) ?_ ?_; rotate_left; (intro w'; go_simp; with_reducible rfl); rotate_left; (simp only [Act.put, List.setIfInBounds_toArray, List.set_cons_zero, List.set_cons_succ, i64_w, i32_w]; rfl)
      refine done_ (by kernel_rfl) ?_
      
      rw [HY0.out]
      have hlen : (G ++ [y]).length = G.length + 1 := by simp
      go_wp2_with fail
      have hz1 := blk_put RZ_68.out 0 (.slice A8 (G.length + 1) c8) rfl
      have hz2 := blk_put hz1 1 (.slice A2 E.length c2) rfl
      have hz3 := blk_put hz2 2 (.int .i64 day) rfl
      have hHG := Kd.R_set (Kd.R_set (Kd.R_set HG_65.out RZ_68.out (by decide) 0 (.slice A8 (G.length + 1) c8)) hz1 (by decide) 1 (.slice A2 E.length c2)) hz2 (by decide) 2 (.int .i64 day)
      have hHE := Kd.R_set (Kd.R_set (Kd.R_set HE_69.out RZ_68.out (by decide) 0 (.slice A8 (G.length + 1) c8)) hz1 (by decide) 1 (.slice A2 E.length c2)) hz2 (by decide) 2 (.int .i64 day)
      have hB := ((HB_64.out.setCell (p := ⟨rb, 0, none⟩) HRB.out (.slice A8 (G.length + 1) c8)).setCell (p := ⟨rb, 1, none⟩) HRB.out (.slice A2 E.length c2)).setCell (p := ⟨rb, 2, none⟩) HRB.out (.int .i64 day)
      clear hz1 hz2
      generalize (World.setCell (World.setCell (World.setCell w24 ⟨rb, 0, none⟩ (.slice A8 (G.length + 1) c8)) ⟨rb, 1, none⟩ (.slice A2 E.length c2)) ⟨rb, 2, none⟩ (.int .i64 day)) = w9 at hz3 hHG hHE hB ⊢
      refine bodyPost_ret (results_ctt rfl _ _ rb 51 #[(.slice A8 (G.length + 1) c8), (.slice A2 E.length c2), (.int .i64 day)] (0, 0) _ rfl hz3 Try.underlying51 rfl (by kernel_rfl)) rfl ?_
      have hbn := bok_new (P := P) (w := w) HPW.out (day := day) (show Kd.R k39 39 w9 w.heap.size _ (.slice A8 (G ++ [y]).length c8) (G ++ [y]) by rw [hlen]; exact hHG) hHE
      rw [hlen] at hbn
      exact ⟨_, rfl, by rw [← HY.out]; exact hbn, hB⟩
end Go.Proofs.Ytfnlghjkjmppdaa.PC
end
section
namespace Go.Proofs.Ytfnlghjkjmppdaa.PC
open Go.RowKit Go.Proofs.YtfnlghjkjmppdaaW.PrintWords Go.Proofs.YtfnlghjkjmppdaaW.PrintLast Go.Proofs.YtfnlghjkjmppdaaW.PrintMore
set_option linter.unusedVariables false
set_option linter.unusedSimpArgs false
set_option maxHeartbeats 12800000 in
set_option maxRecDepth 100000 in
theorem person_r (w : World) (n : Int) : Calls Try.prog 88 #[.int .i64 n] w fun e w' => e = .returned (.bool (perB n)) ∧ w = w' := by
  go_enter Try.func88, Try.ntmps88
  by_cases c1 : n ≥ 0
  · have d1 : decide (n ≥ 0) = true := decide_eq_true c1
    by_cases c2 : n ≤ 15
    · have d2 : decide (n ≤ 15) = true := decide_eq_true c2
      have hr : perB n = true := by unfold perB; rw [d2]; simp; omega
      go_wp2_with fail
      go_ret
      exact ⟨by first | (rw [hr]; rfl) | rfl, rfl⟩
    · have d2 : decide (n ≤ 15) = false := decide_eq_false c2
      have hr : perB n = false := by unfold perB; rw [d2]; simp
      go_wp2_with fail
      go_ret
      exact ⟨by first | (rw [hr]; rfl) | rfl, rfl⟩
  · have d1 : decide (n ≥ 0) = false := decide_eq_false c1
    have hr : perB n = false := by unfold perB; rw [decide_eq_false (show ¬ 0 ≤ n by omega)]; rfl
    go_wp2_with fail
    go_ret
    exact ⟨by first | (rw [hr]; rfl) | rfl, rfl⟩
set_option maxHeartbeats 12800000 in
set_option maxRecDepth 100000 in
theorem day_r (w : World) (n : Int) : Calls Try.prog 91 #[.int .i64 n] w fun e w' => e = .returned (.bool (dayB n)) ∧ w = w' := by
  go_enter Try.func91, Try.ntmps91
  by_cases c1 : n ≥ 0
  · have d1 : decide (n ≥ 0) = true := decide_eq_true c1
    by_cases c2 : n ≤ 1073741824
    · have d2 : decide (n ≤ 1073741824) = true := decide_eq_true c2
      have hr : dayB n = true := by unfold dayB; rw [d2]; simp; omega
      go_wp2_with fail
      go_ret
      exact ⟨by first | (rw [hr]; rfl) | rfl, rfl⟩
    · have d2 : decide (n ≤ 1073741824) = false := decide_eq_false c2
      have hr : dayB n = false := by unfold dayB; rw [d2]; simp
      go_wp2_with fail
      go_ret
      exact ⟨by first | (rw [hr]; rfl) | rfl, rfl⟩
  · have d1 : decide (n ≥ 0) = false := decide_eq_false c1
    have hr : dayB n = false := by unfold dayB; rw [decide_eq_false (show ¬ 0 ≤ n by omega)]; rfl
    go_wp2_with fail
    go_ret
    exact ⟨by first | (rw [hr]; rfl) | rfl, rfl⟩
set_option maxHeartbeats 12800000 in
set_option maxRecDepth 100000 in
theorem wide_r (w : World) (h v r u s : Int) : Calls Try.prog 86 #[.int .i64 h, .int .i64 v, .int .i64 r, .int .i64 u, .int .i64 s] w fun e w' => e = .returned (.bool (mayB h v r u s)) ∧ w = w' := by
  go_enter Try.func86, Try.ntmps86
  go_wp2_with fail
  with_reducible refine (person_r _ h).mono ?_
  rintro e w' ⟨rfl, rfl⟩
  cases k1 : perB h
  · have hm : mayB h v r u s = false := by unfold mayB; simp [k1]
    go_wp2_with fail
    try any_goals (exfalso; omega)
    go_ret
    exact ⟨by first | (rw [hm]; rfl) | rfl, rfl⟩
  · by_cases k2 : v ≥ 1
    · have dk2 : decide (v ≥ 1) = true := decide_eq_true k2
      by_cases k3 : v < 65536
      · have dk3 : decide (v < 65536) = true := decide_eq_true k3
        by_cases k4 : r ≥ 1
        · have dk4 : decide (r ≥ 1) = true := decide_eq_true k4
          by_cases k5 : r ≤ 3
          · have dk5 : decide (r ≤ 3) = true := decide_eq_true k5
            go_wp2_with fail
            with_reducible refine (day_r _ u).mono ?_
            rintro e w' ⟨rfl, rfl⟩
            cases k6 : dayB u
            · have hm : mayB h v r u s = false := by unfold mayB; simp [k1, k2, k3, k4, k5, k6]
              go_wp2_with fail
              try any_goals (exfalso; omega)
              go_ret
              exact ⟨by first | (rw [hm]; rfl) | rfl, rfl⟩
            · by_cases u0 : s = -1
              · have du : (s == -1) = true := beq_iff_eq.2 u0
                have hm : mayB h v r u s = true := by unfold mayB; simp [k1, k2, k3, k4, k5, k6, u0]
                go_wp2_with fail
                try any_goals (exfalso; omega)
                go_ret
                exact ⟨by first | (rw [hm]; rfl) | rfl, rfl⟩
              · have du : (s == -1) = false := beq_eq_false_iff_ne.2 u0
                by_cases u1 : s ≥ 1
                · have du1 : decide (s ≥ 1) = true := decide_eq_true u1
                  by_cases u2 : s ≤ 1048576
                  · have du2 : decide (s ≤ 1048576) = true := decide_eq_true u2
                    have hm : mayB h v r u s = true := by unfold mayB; simp [k1, k2, k3, k4, k5, k6, u0, u1, u2]
                    go_wp2_with fail
                    try any_goals (exfalso; omega)
                    go_ret
                    exact ⟨by first | (rw [hm]; rfl) | rfl, rfl⟩
                  · have du2 : decide (s ≤ 1048576) = false := decide_eq_false u2
                    have hm : mayB h v r u s = false := by unfold mayB; simp [k1, k2, k3, k4, k5, k6, u0, u1, u2]
                    go_wp2_with fail
                    try any_goals (exfalso; omega)
                    go_ret
                    exact ⟨by first | (rw [hm]; rfl) | rfl, rfl⟩
                · have du1 : decide (s ≥ 1) = false := decide_eq_false u1
                  have hm : mayB h v r u s = false := by unfold mayB; simp [k1, k2, k3, k4, k5, k6, u0, u1]
                  go_wp2_with fail
                  try any_goals (exfalso; omega)
                  go_ret
                  exact ⟨by first | (rw [hm]; rfl) | rfl, rfl⟩
          · have dk5 : decide (r ≤ 3) = false := decide_eq_false k5
            have hm : mayB h v r u s = false := by unfold mayB; simp [k1, k2, k3, k4, k5]
            go_wp2_with fail
            try any_goals (exfalso; omega)
            go_ret
            exact ⟨by first | (rw [hm]; rfl) | rfl, rfl⟩
        · have dk4 : decide (r ≥ 1) = false := decide_eq_false k4
          have hm : mayB h v r u s = false := by unfold mayB; simp [k1, k2, k3, k4]
          go_wp2_with fail
          try any_goals (exfalso; omega)
          go_ret
          exact ⟨by first | (rw [hm]; rfl) | rfl, rfl⟩
      · have dk3 : decide (v < 65536) = false := decide_eq_false k3
        have hm : mayB h v r u s = false := by unfold mayB; simp [k1, k2, k3]
        go_wp2_with fail
        try any_goals (exfalso; omega)
        go_ret
        exact ⟨by first | (rw [hm]; rfl) | rfl, rfl⟩
    · have dk2 : decide (v ≥ 1) = false := decide_eq_false k2
      have hm : mayB h v r u s = false := by unfold mayB; simp [k1, k2]
      go_wp2_with fail
      try any_goals (exfalso; omega)
      go_ret
      exact ⟨by first | (rw [hm]; rfl) | rfl, rfl⟩
def gRG (G : List S39) (h v r u s : Int) : List S39 := if mayB h v r u s = true then putG G ⟨0, 0, 0, h, v, r, u, s, false⟩ else G
def gRN (G : List S39) (h v r u s : Int) : Int := if mayB h v r u s = true then putN G else 0
def gRC (G : List S39) (h v r u s : Int) : Int := if mayB h v r u s = true then putC G else 2
set_option maxHeartbeats 12800000 in
set_option maxRecDepth 100000 in
theorem Grant_r (P : Nat → Prop) (w : World) (AG : Option Addr) (cG : Nat) (G : List S39) (AE : Option Addr) (cE : Nat) (E : List S44) (day : Int) (h_ v r u s : Int) (hS : Stay P w AG cG G AE cE E) (hP : ∀ k, P k → k < w.heap.size) (hT : Tree G) (hlE : E.length ≤ 100) : Calls Try.prog 68 #[.agg #[.slice AG G.length cG, .slice AE E.length cE, .int .i64 day], .int .i64 h_, .int .i64 v, .int .i64 r, .int .i64 u, .int .i64 s] w fun e w' => ∃ b, e = .returned (.tuple #[b, .int .i64 (gRN G h_ v r u s), .int .i64 (gRC G h_ v r u s)]) ∧ Bok P w' (gRG G h_ v r u s) E day b ∧ Below w.heap.size w w' := by
  have HRW := lhid hS
  have HPW := lhid hP
  have HT := lhid hT
  have hgl := hT.1
  have HLE := lhid hlE
  clear hS hP hT hlE
  cases hm : mayB h_ v r u s
  · have hG : gRG G h_ v r u s = G ∧ gRN G h_ v r u s = 0 ∧ gRC G h_ v r u s = 2 := by unfold gRG gRN gRC; simp [hm]
    rw [hG.1, hG.2.1, hG.2.2]
    clear hG
    have hu51 := Try.underlying51
    have hu39 := Try.underlying39
    have hu44 := Try.underlying44
    go_enter Try.func68, Try.ntmps68
    have HB_1 := lhid (Below.refl w.heap.size w)
    go_upto_region 1 with (fail)
    have hb := below_alloc (Below.refl w.heap.size w) (.cells #[.slice AG G.length cG, .slice AE E.length cE, .int .i64 day] 51)
    have hn := blk_new w (.cells #[.slice AG G.length cG, .slice AE E.length cE, .int .i64 day] 51)
    have HZ1 := lhid (show (World.alloc w (.cells #[.slice AG G.length cG, .slice AE E.length cE, .int .i64 day] 51)).heap.size = w.heap.size + 1 from by simp)
    generalize hq : World.alloc w (.cells #[.slice AG G.length cG, .slice AE E.length cE, .int .i64 day] 51) = w1 at hb hn HZ1 ⊢
    clear hq
    have HB_2 := lhid (below_then HB_1.out HB_1.out.size hb)
    clear HB_1 hb
    have XB_3 := lhid (hn)
    clear hn
    obtain ⟨xb, hxb⟩ : ∃ q, q = w.heap.size := ⟨_, rfl⟩
    rw [← hxb] at XB_3 ⊢
    have Exb := lhid hxb
    clear hxb
    have hb := below_alloc (Below.refl w1.heap.size w1) (.cells #[.slice none 0 0, .slice none 0 0, .int .i64 0] 51)
    have hn := blk_new w1 (.cells #[.slice none 0 0, .slice none 0 0, .int .i64 0] 51)
    have HZ2 := lhid (show (World.alloc w1 (.cells #[.slice none 0 0, .slice none 0 0, .int .i64 0] 51)).heap.size = w1.heap.size + 1 from by simp)
    generalize hq : World.alloc w1 (.cells #[.slice none 0 0, .slice none 0 0, .int .i64 0] 51) = w2 at hb hn HZ2 ⊢
    clear hq
    have HB_4 := lhid (below_then HB_2.out HB_2.out.size hb)
    have XB_5 := lhid (blk_below XB_3.out hb)
    clear HB_2 XB_3 hb
    have RZ_6 := lhid (hn)
    clear hn
    obtain ⟨rb, hrb⟩ : ∃ q, q = xb + 1 := ⟨_, rfl⟩
    rw [show w1.heap.size = rb by rw [hrb]; have z1 := HZ1.out; have y0 := Exb.out; omega] at RZ_6
    rw [← hrb]
    have Erb := lhid hrb
    clear hrb
    have HNE := lhid (show xb = w.heap.size + 0 ∧ rb = w.heap.size + 1 ∧ w2.heap.size = w.heap.size + 2 by have z1 := HZ1.out; have z2 := HZ2.out; have y0 := Exb.out;  have y1 := Erb.out; omega)
    clear Exb Erb HZ1 HZ2
    have HRB := lhid (show w.heap.size ≤ rb by have := HNE.out; omega)
    go_wp2_with fail
    with_reducible refine (wide_r _ h_ v r u s).mono ?_
    rintro e w' ⟨rfl, rfl⟩
    rw [hm]
    obtain ⟨z0, z1, z2⟩ := three XB_5.out
    obtain ⟨r0, r1, r2⟩ := three RZ_6.out
    have hfz : ∀ o, w2.frozen? ⟨rb, o, none⟩ = false := fun o => blk_frozen RZ_6.out o
    go_wp2_with fail
    try any_goals (exfalso; omega)
    clear z0 z1 z2
    clear r0 r1 r2 hfz
    have hz1 := blk_put RZ_6.out 0 (.slice AG G.length cG) rfl
    have hz2 := blk_put hz1 1 (.slice AE E.length cE) rfl
    have hz3 := blk_put hz2 2 (.int .i64 day) rfl
    have hB := ((HB_4.out.setCell (p := ⟨rb, 0, none⟩) HRB.out (.slice AG G.length cG)).setCell (p := ⟨rb, 1, none⟩) HRB.out (.slice AE E.length cE)).setCell (p := ⟨rb, 2, none⟩) HRB.out (.int .i64 day)
    clear hz1 hz2
    generalize (World.setCell (World.setCell (World.setCell w2 ⟨rb, 0, none⟩ (.slice AG G.length cG)) ⟨rb, 1, none⟩ (.slice AE E.length cE)) ⟨rb, 2, none⟩ (.int .i64 day)) = w9 at hz3  hB ⊢
    refine bodyPost_ret (results_ctt rfl _ _ rb 51 #[(.slice AG G.length cG), (.slice AE E.length cE), (.int .i64 day)] (0, 0) _ rfl hz3 Try.underlying51 rfl (by kernel_rfl)) rfl ?_
    exact ⟨_, rfl, bok_same HRW.out hB, hB⟩
  · have hG : gRG G h_ v r u s = putG G ⟨0, 0, 0, h_, v, r, u, s, false⟩ ∧ gRN G h_ v r u s = putN G ∧ gRC G h_ v r u s = putC G := by unfold gRG gRN gRC; simp [hm]
    rw [hG.1, hG.2.1, hG.2.2]
    clear hG
    have hu51 := Try.underlying51
    have hu39 := Try.underlying39
    have hu44 := Try.underlying44
    go_enter Try.func68, Try.ntmps68
    have HB_7 := lhid (Below.refl w.heap.size w)
    go_upto_region 1 with (fail)
    have hb := below_alloc (Below.refl w.heap.size w) (.cells #[.slice AG G.length cG, .slice AE E.length cE, .int .i64 day] 51)
    have hn := blk_new w (.cells #[.slice AG G.length cG, .slice AE E.length cE, .int .i64 day] 51)
    have HZ1 := lhid (show (World.alloc w (.cells #[.slice AG G.length cG, .slice AE E.length cE, .int .i64 day] 51)).heap.size = w.heap.size + 1 from by simp)
    generalize hq : World.alloc w (.cells #[.slice AG G.length cG, .slice AE E.length cE, .int .i64 day] 51) = w1 at hb hn HZ1 ⊢
    clear hq
    have HB_8 := lhid (below_then HB_7.out HB_7.out.size hb)
    clear HB_7 hb
    have XB_9 := lhid (hn)
    clear hn
    obtain ⟨xb, hxb⟩ : ∃ q, q = w.heap.size := ⟨_, rfl⟩
    rw [← hxb] at XB_9 ⊢
    have Exb := lhid hxb
    clear hxb
    have hb := below_alloc (Below.refl w1.heap.size w1) (.cells #[.slice none 0 0, .slice none 0 0, .int .i64 0] 51)
    have hn := blk_new w1 (.cells #[.slice none 0 0, .slice none 0 0, .int .i64 0] 51)
    have HZ2 := lhid (show (World.alloc w1 (.cells #[.slice none 0 0, .slice none 0 0, .int .i64 0] 51)).heap.size = w1.heap.size + 1 from by simp)
    generalize hq : World.alloc w1 (.cells #[.slice none 0 0, .slice none 0 0, .int .i64 0] 51) = w2 at hb hn HZ2 ⊢
    clear hq
    have HB_10 := lhid (below_then HB_8.out HB_8.out.size hb)
    have XB_11 := lhid (blk_below XB_9.out hb)
    clear HB_8 XB_9 hb
    have RZ_12 := lhid (hn)
    clear hn
    obtain ⟨rb, hrb⟩ : ∃ q, q = xb + 1 := ⟨_, rfl⟩
    rw [show w1.heap.size = rb by rw [hrb]; have z1 := HZ1.out; have y0 := Exb.out; omega] at RZ_12
    rw [← hrb]
    have Erb := lhid hrb
    clear hrb
    have HNE := lhid (show xb = w.heap.size + 0 ∧ rb = w.heap.size + 1 ∧ w2.heap.size = w.heap.size + 2 by have z1 := HZ1.out; have z2 := HZ2.out; have y0 := Exb.out;  have y1 := Erb.out; omega)
    clear Exb Erb HZ1 HZ2
    have HRB := lhid (show w.heap.size ≤ rb by have := HNE.out; omega)
    go_wp2_with fail
    with_reducible refine (wide_r _ h_ v r u s).mono ?_
    rintro e w' ⟨rfl, rfl⟩
    rw [hm]
    obtain ⟨z0, z1, z2⟩ := three XB_11.out
    go_wp2_with fail
    try any_goals (exfalso; omega)
    clear z0 z1 z2
    have HW3 := lhid (show w2.heap.size = w.heap.size + 2 from HNE.out.2.2)
    have HIN := lhid (show P rb ∨ (w.heap.size ≤ rb ∧ rb < w2.heap.size) from Or.inr (by have h1 := HNE.out; have h3 := HW3.out; omega))
    have HS3 := lhid (show w.heap.size ≤ w2.heap.size from HB_10.out.size)
    with_reducible refine (put_r (fun k => P k ∨ (w.heap.size ≤ k ∧ k < w2.heap.size)) w2 AG cG G AE cE E day ⟨0, 0, 0, h_, v, r, u, s, false⟩ (stay_box HRW.out HB_10.out) (stay_lt HPW.out HB_10.out.size) HT.out HLE.out).mono ?_
    rintro e w20 ⟨vb, rfl, ⟨A1, c1, A2, c2, rfl, hR⟩, hb⟩
    have HRK := lhid hR
    clear hR
    have HB_13 := lhid (below_then HB_10.out HB_10.out.size hb)
    have XB_14 := lhid (blk_below XB_11.out hb)
    have RZ_15 := lhid (blk_below RZ_12.out hb)
    clear HB_10 XB_11 RZ_12 hb
    obtain ⟨G2, hG2⟩ : ∃ q, q = putG G ⟨0, 0, 0, h_, v, r, u, s, false⟩ := ⟨_, rfl⟩
    rw [← hG2] at HRK ⊢
    have HG2 := lhid hG2
    clear hG2
    obtain ⟨r0, r1, r2⟩ := three RZ_15.out
    have hfz : ∀ o, w20.frozen? ⟨rb, o, none⟩ = false := fun o => blk_frozen RZ_15.out o
    go_wp2_with fail
    try any_goals (exfalso; omega)
    clear r0 r1 r2 hfz
    have hz1 := blk_put RZ_15.out 0 (.slice A1 G2.length c1) rfl
    have hz2 := blk_put hz1 1 (.slice A2 E.length c2) rfl
    have hz3 := blk_put hz2 2 (.int .i64 day) rfl
    have hB := ((HB_13.out.setCell (p := ⟨rb, 0, none⟩) HRB.out (.slice A1 G2.length c1)).setCell (p := ⟨rb, 1, none⟩) HRB.out (.slice A2 E.length c2)).setCell (p := ⟨rb, 2, none⟩) HRB.out (.int .i64 day)
    clear hz1 hz2
    have hC := (((Chg.refl (fun k => P k ∨ (w.heap.size ≤ k ∧ k < w2.heap.size)) w20).set (p := ⟨rb, 0, none⟩) (Or.inr HIN.out) (.slice A1 G2.length c1)).set (p := ⟨rb, 1, none⟩) (Or.inr HIN.out) (.slice A2 E.length c2)).set (p := ⟨rb, 2, none⟩) (Or.inr HIN.out) (.int .i64 day)
    generalize (World.setCell (World.setCell (World.setCell w20 ⟨rb, 0, none⟩ (.slice A1 G2.length c1)) ⟨rb, 1, none⟩ (.slice A2 E.length c2)) ⟨rb, 2, none⟩ (.int .i64 day)) = w9 at hz3  hB hC ⊢
    refine bodyPost_ret (results_ctt rfl _ _ rb 51 #[(.slice A1 G2.length c1), (.slice A2 E.length c2), (.int .i64 day)] (0, 0) _ rfl hz3 Try.underlying51 rfl (by kernel_rfl)) rfl ?_
    exact ⟨_, rfl, by rw [← HG2.out]; exact bok_thru HRK.out hC (fun k z => Or.inl z), hB⟩
def nRD (day n : Int) : Int := if dayB n = false then day else if n < day then day else n
set_option maxHeartbeats 12800000 in
set_option maxRecDepth 100000 in
theorem Next_r (P : Nat → Prop) (w : World) (AG : Option Addr) (cG : Nat) (G : List S39) (AE : Option Addr) (cE : Nat) (E : List S44) (day : Int) (n : Int) (hS : Stay P w AG cG G AE cE E) (hP : ∀ k, P k → k < w.heap.size) (hT : Tree G) (hlE : E.length ≤ 100) : Calls Try.prog 71 #[.agg #[.slice AG G.length cG, .slice AE E.length cE, .int .i64 day], .int .i64 n] w fun e w' => ∃ b, e = .returned (.tuple #[b, .int .i64 (nextC day n)]) ∧ Bok P w' G E (nRD day n) b ∧ Below w.heap.size w w' := by
  have HRW := lhid hS
  have HPW := lhid hP
  have HT := lhid hT
  have hgl := hT.1
  have HLE := lhid hlE
  clear hS hP hT hlE
  cases hm : dayB n
  · have hG : nRD day n = day ∧ nextC day n = 2 := by unfold nRD nextC; rw [hm]; simp
    rw [hG.1, hG.2]
    clear hG
    have hu51 := Try.underlying51
    have hu39 := Try.underlying39
    have hu44 := Try.underlying44
    go_enter Try.func71, Try.ntmps71
    have HB_1 := lhid (Below.refl w.heap.size w)
    go_upto_region 1 with (fail)
    have hb := below_alloc (Below.refl w.heap.size w) (.cells #[.slice AG G.length cG, .slice AE E.length cE, .int .i64 day] 51)
    have hn := blk_new w (.cells #[.slice AG G.length cG, .slice AE E.length cE, .int .i64 day] 51)
    have HZ1 := lhid (show (World.alloc w (.cells #[.slice AG G.length cG, .slice AE E.length cE, .int .i64 day] 51)).heap.size = w.heap.size + 1 from by simp)
    generalize hq : World.alloc w (.cells #[.slice AG G.length cG, .slice AE E.length cE, .int .i64 day] 51) = w1 at hb hn HZ1 ⊢
    clear hq
    have HB_2 := lhid (below_then HB_1.out HB_1.out.size hb)
    clear HB_1 hb
    have XB_3 := lhid (hn)
    clear hn
    obtain ⟨xb, hxb⟩ : ∃ q, q = w.heap.size := ⟨_, rfl⟩
    rw [← hxb] at XB_3 ⊢
    have Exb := lhid hxb
    clear hxb
    have hb := below_alloc (Below.refl w1.heap.size w1) (.cells #[.slice none 0 0, .slice none 0 0, .int .i64 0] 51)
    have hn := blk_new w1 (.cells #[.slice none 0 0, .slice none 0 0, .int .i64 0] 51)
    have HZ2 := lhid (show (World.alloc w1 (.cells #[.slice none 0 0, .slice none 0 0, .int .i64 0] 51)).heap.size = w1.heap.size + 1 from by simp)
    generalize hq : World.alloc w1 (.cells #[.slice none 0 0, .slice none 0 0, .int .i64 0] 51) = w2 at hb hn HZ2 ⊢
    clear hq
    have HB_4 := lhid (below_then HB_2.out HB_2.out.size hb)
    have XB_5 := lhid (blk_below XB_3.out hb)
    clear HB_2 XB_3 hb
    have RZ_6 := lhid (hn)
    clear hn
    obtain ⟨rb, hrb⟩ : ∃ q, q = xb + 1 := ⟨_, rfl⟩
    rw [show w1.heap.size = rb by rw [hrb]; have z1 := HZ1.out; have y0 := Exb.out; omega] at RZ_6
    rw [← hrb]
    have Erb := lhid hrb
    clear hrb
    have HNE := lhid (show xb = w.heap.size + 0 ∧ rb = w.heap.size + 1 ∧ w2.heap.size = w.heap.size + 2 by have z1 := HZ1.out; have z2 := HZ2.out; have y0 := Exb.out;  have y1 := Erb.out; omega)
    clear Exb Erb HZ1 HZ2
    have HRB := lhid (show w.heap.size ≤ rb by have := HNE.out; omega)
    go_wp2_with fail
    with_reducible refine (day_r _ n).mono ?_
    rintro e w' ⟨rfl, rfl⟩
    rw [hm]
    obtain ⟨z0, z1, z2⟩ := three XB_5.out
    obtain ⟨r0, r1, r2⟩ := three RZ_6.out
    have hfz : ∀ o, w2.frozen? ⟨rb, o, none⟩ = false := fun o => blk_frozen RZ_6.out o
    go_wp2_with fail
    try any_goals (exfalso; omega)
    clear z0 z1 z2
    clear r0 r1 r2 hfz
    have hz1 := blk_put RZ_6.out 0 (.slice AG G.length cG) rfl
    have hz2 := blk_put hz1 1 (.slice AE E.length cE) rfl
    have hz3 := blk_put hz2 2 (.int .i64 day) rfl
    have hB := ((HB_4.out.setCell (p := ⟨rb, 0, none⟩) HRB.out (.slice AG G.length cG)).setCell (p := ⟨rb, 1, none⟩) HRB.out (.slice AE E.length cE)).setCell (p := ⟨rb, 2, none⟩) HRB.out (.int .i64 day)
    clear hz1 hz2
    generalize (World.setCell (World.setCell (World.setCell w2 ⟨rb, 0, none⟩ (.slice AG G.length cG)) ⟨rb, 1, none⟩ (.slice AE E.length cE)) ⟨rb, 2, none⟩ (.int .i64 day)) = w9 at hz3  hB ⊢
    refine bodyPost_ret (results_ct rfl _ _ rb 51 #[(.slice AG G.length cG), (.slice AE E.length cE), (.int .i64 day)] (0, 0) _ rfl hz3 Try.underlying51 rfl (by kernel_rfl)) rfl ?_
    exact ⟨_, rfl, bok_same HRW.out hB, hB⟩
  · by_cases hn : n < day
    · have hG : nRD day n = day ∧ nextC day n = 9 := by unfold nRD nextC; rw [hm, if_pos hn]; simp [hn]
      rw [hG.1, hG.2]
      clear hG
      have hu51 := Try.underlying51
      have hu39 := Try.underlying39
      have hu44 := Try.underlying44
      go_enter Try.func71, Try.ntmps71
      have HB_7 := lhid (Below.refl w.heap.size w)
      go_upto_region 1 with (fail)
      have hb := below_alloc (Below.refl w.heap.size w) (.cells #[.slice AG G.length cG, .slice AE E.length cE, .int .i64 day] 51)
      have hn := blk_new w (.cells #[.slice AG G.length cG, .slice AE E.length cE, .int .i64 day] 51)
      have HZ1 := lhid (show (World.alloc w (.cells #[.slice AG G.length cG, .slice AE E.length cE, .int .i64 day] 51)).heap.size = w.heap.size + 1 from by simp)
      generalize hq : World.alloc w (.cells #[.slice AG G.length cG, .slice AE E.length cE, .int .i64 day] 51) = w1 at hb hn HZ1 ⊢
      clear hq
      have HB_8 := lhid (below_then HB_7.out HB_7.out.size hb)
      clear HB_7 hb
      have XB_9 := lhid (hn)
      clear hn
      obtain ⟨xb, hxb⟩ : ∃ q, q = w.heap.size := ⟨_, rfl⟩
      rw [← hxb] at XB_9 ⊢
      have Exb := lhid hxb
      clear hxb
      have hb := below_alloc (Below.refl w1.heap.size w1) (.cells #[.slice none 0 0, .slice none 0 0, .int .i64 0] 51)
      have hn := blk_new w1 (.cells #[.slice none 0 0, .slice none 0 0, .int .i64 0] 51)
      have HZ2 := lhid (show (World.alloc w1 (.cells #[.slice none 0 0, .slice none 0 0, .int .i64 0] 51)).heap.size = w1.heap.size + 1 from by simp)
      generalize hq : World.alloc w1 (.cells #[.slice none 0 0, .slice none 0 0, .int .i64 0] 51) = w2 at hb hn HZ2 ⊢
      clear hq
      have HB_10 := lhid (below_then HB_8.out HB_8.out.size hb)
      have XB_11 := lhid (blk_below XB_9.out hb)
      clear HB_8 XB_9 hb
      have RZ_12 := lhid (hn)
      clear hn
      obtain ⟨rb, hrb⟩ : ∃ q, q = xb + 1 := ⟨_, rfl⟩
      rw [show w1.heap.size = rb by rw [hrb]; have z1 := HZ1.out; have y0 := Exb.out; omega] at RZ_12
      rw [← hrb]
      have Erb := lhid hrb
      clear hrb
      have HNE := lhid (show xb = w.heap.size + 0 ∧ rb = w.heap.size + 1 ∧ w2.heap.size = w.heap.size + 2 by have z1 := HZ1.out; have z2 := HZ2.out; have y0 := Exb.out;  have y1 := Erb.out; omega)
      clear Exb Erb HZ1 HZ2
      have HRB := lhid (show w.heap.size ≤ rb by have := HNE.out; omega)
      go_wp2_with fail
      with_reducible refine (day_r _ n).mono ?_
      rintro e w' ⟨rfl, rfl⟩
      rw [hm]
      have hd : decide (n < day) = true := decide_eq_true hn
      obtain ⟨z0, z1, z2⟩ := three XB_11.out
      obtain ⟨r0, r1, r2⟩ := three RZ_12.out
      have hfz : ∀ o, w2.frozen? ⟨rb, o, none⟩ = false := fun o => blk_frozen RZ_12.out o
      go_wp2_with fail
      try any_goals (exfalso; omega)
      clear z0 z1 z2
      clear r0 r1 r2 hfz
      have hz1 := blk_put RZ_12.out 0 (.slice AG G.length cG) rfl
      have hz2 := blk_put hz1 1 (.slice AE E.length cE) rfl
      have hz3 := blk_put hz2 2 (.int .i64 day) rfl
      have hB := ((HB_10.out.setCell (p := ⟨rb, 0, none⟩) HRB.out (.slice AG G.length cG)).setCell (p := ⟨rb, 1, none⟩) HRB.out (.slice AE E.length cE)).setCell (p := ⟨rb, 2, none⟩) HRB.out (.int .i64 day)
      clear hz1 hz2
      generalize (World.setCell (World.setCell (World.setCell w2 ⟨rb, 0, none⟩ (.slice AG G.length cG)) ⟨rb, 1, none⟩ (.slice AE E.length cE)) ⟨rb, 2, none⟩ (.int .i64 day)) = w9 at hz3  hB ⊢
      refine bodyPost_ret (results_ct rfl _ _ rb 51 #[(.slice AG G.length cG), (.slice AE E.length cE), (.int .i64 day)] (0, 0) _ rfl hz3 Try.underlying51 rfl (by kernel_rfl)) rfl ?_
      exact ⟨_, rfl, bok_same HRW.out hB, hB⟩
    · have hG : nRD day n = n ∧ nextC day n = 0 := by unfold nRD nextC; rw [hm, if_neg hn]; simp [hn]
      rw [hG.1, hG.2]
      clear hG
      have hu51 := Try.underlying51
      have hu39 := Try.underlying39
      have hu44 := Try.underlying44
      go_enter Try.func71, Try.ntmps71
      have HB_13 := lhid (Below.refl w.heap.size w)
      go_upto_region 1 with (fail)
      have hb := below_alloc (Below.refl w.heap.size w) (.cells #[.slice AG G.length cG, .slice AE E.length cE, .int .i64 day] 51)
      have hn := blk_new w (.cells #[.slice AG G.length cG, .slice AE E.length cE, .int .i64 day] 51)
      have HZ1 := lhid (show (World.alloc w (.cells #[.slice AG G.length cG, .slice AE E.length cE, .int .i64 day] 51)).heap.size = w.heap.size + 1 from by simp)
      generalize hq : World.alloc w (.cells #[.slice AG G.length cG, .slice AE E.length cE, .int .i64 day] 51) = w1 at hb hn HZ1 ⊢
      clear hq
      have HB_14 := lhid (below_then HB_13.out HB_13.out.size hb)
      clear HB_13 hb
      have XB_15 := lhid (hn)
      clear hn
      obtain ⟨xb, hxb⟩ : ∃ q, q = w.heap.size := ⟨_, rfl⟩
      rw [← hxb] at XB_15 ⊢
      have Exb := lhid hxb
      clear hxb
      have hb := below_alloc (Below.refl w1.heap.size w1) (.cells #[.slice none 0 0, .slice none 0 0, .int .i64 0] 51)
      have hn := blk_new w1 (.cells #[.slice none 0 0, .slice none 0 0, .int .i64 0] 51)
      have HZ2 := lhid (show (World.alloc w1 (.cells #[.slice none 0 0, .slice none 0 0, .int .i64 0] 51)).heap.size = w1.heap.size + 1 from by simp)
      generalize hq : World.alloc w1 (.cells #[.slice none 0 0, .slice none 0 0, .int .i64 0] 51) = w2 at hb hn HZ2 ⊢
      clear hq
      have HB_16 := lhid (below_then HB_14.out HB_14.out.size hb)
      have XB_17 := lhid (blk_below XB_15.out hb)
      clear HB_14 XB_15 hb
      have RZ_18 := lhid (hn)
      clear hn
      obtain ⟨rb, hrb⟩ : ∃ q, q = xb + 1 := ⟨_, rfl⟩
      rw [show w1.heap.size = rb by rw [hrb]; have z1 := HZ1.out; have y0 := Exb.out; omega] at RZ_18
      rw [← hrb]
      have Erb := lhid hrb
      clear hrb
      have HNE := lhid (show xb = w.heap.size + 0 ∧ rb = w.heap.size + 1 ∧ w2.heap.size = w.heap.size + 2 by have z1 := HZ1.out; have z2 := HZ2.out; have y0 := Exb.out;  have y1 := Erb.out; omega)
      clear Exb Erb HZ1 HZ2
      have HRB := lhid (show w.heap.size ≤ rb by have := HNE.out; omega)
      go_wp2_with fail
      with_reducible refine (day_r _ n).mono ?_
      rintro e w' ⟨rfl, rfl⟩
      rw [hm]
      have hd : decide (n < day) = false := decide_eq_false (by omega)
      obtain ⟨z0, z1, z2⟩ := three XB_17.out
      go_wp2_with fail
      try any_goals (exfalso; omega)
      with_reducible refine (copied_r w2 AG cG G AE cE E day (HRW.out.rb HB_16.out) (by omega) HLE.out).mono ?_
      rintro e w20 ⟨A1, c1, A2, c2, rfl, hG, hE, hb⟩
      have HG0 := lhid (Kd.R_lower hG HB_16.out.size)
      have HE0 := lhid (Kd.R_lower hE HB_16.out.size)
      have HS3 := lhid (show w2.heap.size ≤ w20.heap.size from hb.size)
      clear hG hE hd
      clear z0 z1 z2
      have HB_19 := lhid (below_then HB_16.out HB_16.out.size hb)
      have XB_20 := lhid (blk_below XB_17.out hb)
      have RZ_21 := lhid (blk_below RZ_18.out hb)
      clear HB_16 XB_17 RZ_18 hb
      go_upto_region 6 with (fail)
      try any_goals (exfalso; omega)
      have HZS := lhid (show w.heap.size + 2 ≤ w20.heap.size by have h1 := HNE.out; have h2 := HS3.out; omega)
      have hb := below_alloc (Below.refl w20.heap.size w20) (.cells #[.slice A1 G.length c1, .slice A2 E.length c2, .int .i64 day] 51)
      have hn := blk_new w20 (.cells #[.slice A1 G.length c1, .slice A2 E.length c2, .int .i64 day] 51)
      have HZ21 := lhid (show (World.alloc w20 (.cells #[.slice A1 G.length c1, .slice A2 E.length c2, .int .i64 day] 51)).heap.size = w20.heap.size + 1 from by simp)
      generalize hq : World.alloc w20 (.cells #[.slice A1 G.length c1, .slice A2 E.length c2, .int .i64 day] 51) = w21 at hb hn HZ21 ⊢
      clear hq
      have HB_22 := lhid (below_then HB_19.out HB_19.out.size hb)
      have XB_23 := lhid (blk_below XB_20.out hb)
      have RZ_24 := lhid (blk_below RZ_21.out hb)
      have HG_25 := lhid (Kd.R_below HG0.out hb)
      have HE_26 := lhid (Kd.R_below HE0.out hb)
      clear HB_19 XB_20 RZ_21 HG0 HE0 hb
      have NB_27 := lhid (hn)
      clear hn
      obtain ⟨nb, hnb⟩ : ∃ q, q = w20.heap.size := ⟨_, rfl⟩
      rw [← hnb] at NB_27 ⊢
      have HNN := lhid (show rb ≠ nb ∧ w.heap.size ≤ nb by have h1 := HNE.out; have h2 := HZS.out; omega)
      clear hnb
      obtain ⟨n0, n1, n2⟩ := three NB_27.out
      have hfz : ∀ o, w21.frozen? ⟨nb, o, none⟩ = false := fun o => blk_frozen NB_27.out o
      go_upto_region 7 with (fail)
      clear n0 n1 n2 hfz
      have NB6 := lhid (blk_put NB_27.out 2 (.int .i64 n) rfl)
      have RZ6 := lhid (blk_far RZ_24.out (p := ⟨nb, 2, none⟩) HNN.out.1 (.int .i64 n))
      have HG6 := lhid (Kd.R_set HG_25.out NB_27.out (by decide) 2 (.int .i64 n))
      have HE6 := lhid (Kd.R_set HE_26.out NB_27.out (by decide) 2 (.int .i64 n))
      have HB6 := lhid (HB_22.out.setCell (p := ⟨nb, 2, none⟩) HNN.out.2 (.int .i64 n))
      generalize World.setCell w21 ⟨nb, 2, none⟩ (.int .i64 n) = w6 at NB6 RZ6 HG6 HE6 HB6 ⊢
      obtain ⟨n0, n1, n2⟩ := three NB6.out
      obtain ⟨r0, r1, r2⟩ := three RZ6.out
      have hfz : ∀ o, w6.frozen? ⟨rb, o, none⟩ = false := fun o => blk_frozen RZ6.out o
      go_wp2_with fail
      clear n0 n1 n2 r0 r1 r2 hfz
      have hz1 := blk_put RZ6.out 0 (.slice A1 G.length c1) rfl
      have hz2 := blk_put hz1 1 (.slice A2 E.length c2) rfl
      have hz3 := blk_put hz2 2 (.int .i64 n) rfl
      have hHG := Kd.R_set (Kd.R_set (Kd.R_set HG6.out RZ6.out (by decide) 0 (.slice A1 G.length c1)) hz1 (by decide) 1 (.slice A2 E.length c2)) hz2 (by decide) 2 (.int .i64 n)
      have hHE := Kd.R_set (Kd.R_set (Kd.R_set HE6.out RZ6.out (by decide) 0 (.slice A1 G.length c1)) hz1 (by decide) 1 (.slice A2 E.length c2)) hz2 (by decide) 2 (.int .i64 n)
      have hB := ((HB6.out.setCell (p := ⟨rb, 0, none⟩) HRB.out (.slice A1 G.length c1)).setCell (p := ⟨rb, 1, none⟩) HRB.out (.slice A2 E.length c2)).setCell (p := ⟨rb, 2, none⟩) HRB.out (.int .i64 n)
      clear hz1 hz2
      generalize (World.setCell (World.setCell (World.setCell w6 ⟨rb, 0, none⟩ (.slice A1 G.length c1)) ⟨rb, 1, none⟩ (.slice A2 E.length c2)) ⟨rb, 2, none⟩ (.int .i64 n)) = w9 at hz3 hHG hHE hB ⊢
      refine bodyPost_ret (results_ct rfl _ _ rb 51 #[(.slice A1 G.length c1), (.slice A2 E.length c2), (.int .i64 n)] (0, 0) _ rfl hz3 Try.underlying51 rfl (by kernel_rfl)) rfl ?_
      exact ⟨_, rfl, bok_new HPW.out hHG hHE, hB⟩
end Go.Proofs.Ytfnlghjkjmppdaa.PC
end
