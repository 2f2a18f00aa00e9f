/-
  The texts that the theorem in YthfdjccdelbeeaaZRowAs rests on, merged (part 5); only what it reaches.
-/
import Derived.WalkMore
import Derived.Test.YthfdjccdelbeeaaZAs2
import Derived.Test.YthfdjccdelbeeaaZAs3
section
namespace Go.Proofs.Ythfdjccdelbeeaa.PT
open Go.RowKit Go.Proofs.YthfdjccdelbeeaaW.PrintWords Go.Proofs.YthfdjccdelbeeaaW.PrintLast Go.Proofs.YthfdjccdelbeeaaW.PrintMore Go.Proofs.Ythfdjccdelbeeaa.Gm
set_option linter.unusedVariables false
set_option linter.unusedSimpArgs false
theorem cnt_cut {f : Nat → Bool} {s : Nat} : ∀ {n : Nat}, s ≤ n → (∀ i, s ≤ i → i < n → f i = false) → cnt f n = cnt f s
  | 0, h, _ => by rw [show s = 0 by omega]
  | n + 1, h, hf => by
    by_cases c : s = n + 1
    · rw [c]
    · show cnt f n + _ = _
      rw [hf n (by omega) (by omega), if_neg (by simp), Nat.add_zero]
      exact cnt_cut (by omega) (fun i h1 h2 => hf i h1 (by omega))
theorem prC_side {n s : Nat} {G : Nat → Nat → Bool} {m : Nat → Nat} (hb : Bip n s G) (hm : Mat n G m) (hs : s ≤ n) : prC n m n = nprs n s m := by
  unfold prC nprs
  rw [cnt_cut (s := s) hs ?_]
  · refine cnt_congr fun i hi => ?_
    by_cases c : m i < n
    · have h1 := (hb.side _ _ (hm.ok i (by omega) c).1).1 hi
      simp [c]; omega
    · simp [c]
  · intro i h1 h2
    by_cases c : m i < n
    · have h3 := hb.side _ _ (hm.ok i h2 c).1
      simp; omega
    · simp; omega
theorem lit1 (W : World) (N0 : Nat) (h : N0 ≤ W.heap.size) (x : Int) : Kd.C (Kd.int .i64) (W.alloc (.cells #[.int .i64 x] 3)) (some ⟨W.heap.size, 0, none⟩) 1 [x] := (Kd.R_reads' (base := N0) (ok := fun _ => True) (Kd.R_of_own (by
    have := World.ownsRow_lit (base := N0) (e := 3) (size := 1) W #[.int .i64 x] 1 h (by simp [maxLen]) (by simp)
    simpa [encs] using this) (fun _ _ => trivial))).2.2
theorem lit2 (W : World) (N0 : Nat) (h : N0 ≤ W.heap.size) (x y : Int) : Kd.C (Kd.int .i64) (W.alloc (.cells #[.int .i64 x, .int .i64 y] 3)) (some ⟨W.heap.size, 0, none⟩) 2 [x, y] := (Kd.R_reads' (base := N0) (ok := fun _ => True) (Kd.R_of_own (by
    have := World.ownsRow_lit (base := N0) (e := 3) (size := 1) W #[.int .i64 x, .int .i64 y] 2 h (by simp [maxLen]) (by simp)
    simpa [encs] using this) (fun _ _ => trivial))).2.2
def MaP (n s : Nat) (es : List (Nat × Nat)) (w : World) (e : Ending) (w' : World) : Prop := Below w.heap.size w w' ∧ ∃ (m : Nat → Nat) (v : Value), e = .returned (.tuple #[v, .int .i64 (nprs n s m : Int), .int .i64 0]) ∧ Mat n (Ged es) m ∧ Mx (Ged es) s (nprs n s m)
set_option maxHeartbeats 12800000 in
set_option maxRecDepth 100000 in
theorem match_c (w : World) (A : Option Addr) (c n s : Nat) (es : List (Nat × Nat)) (hE : Kd.C kE w A es.length (ced es)) (hl : es.length ≤ 128) (hn24 : n ≤ 24) (hsn : s ≤ n) (hok : ∀ e ∈ es, e.1 < n ∧ e.2 < n ∧ e.1 ≠ e.2) (hbp : Bip n s (Ged es)) : Calls Try.prog 47 #[.int .i64 (n : Int), .slice A es.length c] w (MaP n s es w) := by
  have HE := lhid hE
  have HBP := lhid hbp
  have n24 : (n : Int) ≤ 24 := by omega
  have n0 : (0 : Int) ≤ (n : Int) := by omega
  have HN := lhid (And.intro hn24 hsn)
  have HL := lhid hl
  have HOK := lhid hok
  have hu128 := Try.underlying128
  have hu126 := Try.underlying126
  have hu125 := Try.underlying125
  have hu26 := Try.underlying26
  clear hE hbp hl hok
  go_enter Try.func47, Try.ntmps47
  go_wp2_with fail
  go_step3
  go_wp2_with fail
  with_reducible refine (checked_c w A c n es HE.out HL.out HN.out.1 HOK.out).mono ?_
  rintro e w1 ⟨hb, rfl, hg⟩
  have HB := lhid hb
  obtain ⟨gb, hgb⟩ : ∃ x, x = w.heap.size := ⟨_, rfl⟩
  rw [← hgb] at hg ⊢
  have HG := lhid hg
  clear hb hg hgb
  go_upto_region 4 with (fail)
  try any_goals (exfalso; omega)
  go_wp2_with fail
  with_reducible refine (most_c w1 gb n s (Ged es) HG.out HBP.out HN.out.1 HN.out.2).mono ?_
  rintro e w2 ⟨hb, m, A1, c1, rfl, hc1, hm, hx, hM⟩
  have GB_1 := lhid (blk_below HG.out hb)
  have BE_2 := lhid (below_then HB.out HB.out.size hb)
  clear HG HB hb
  have HM := lhid hm
  have HX := lhid hx
  go_wp2_with fail
  with_reducible refine (pairs_c w2 n m A1 c1 hM hc1 (by omega)).mono ?_
  rintro e w3 ⟨rfl, rfl⟩
  clear hM hc1 hm hx
  have HNU := lhid (prC_side HBP.out HM.out HN.out.2)
  have hpn : (prC n m n : Int) ≤ 24 := by have h1 := prC_le n m n; omega
  have hp0 : (0 : Int) ≤ (prC n m n : Int) := by omega
  obtain ⟨nu, hnu⟩ : ∃ x, x = prC n m n := ⟨_, rfl⟩
  rw [← hnu] at HNU hpn hp0 ⊢
  clear hnu
  go_upto_region 5 with (fail)
  try any_goals (exfalso; omega)
  have hb := below_drew1 (Below.refl w2.heap.size w2)
  have GB_3 := lhid (blk_below GB_1.out hb)
  have BE_4 := lhid (below_then BE_2.out BE_2.out.size hb)
  clear GB_1 BE_2 hb
  refine start_ (n := 5) (S := fun w' => True) (ds := []) (lsq 5 0) (by kernel_rfl) rfl rfl trivial (fun hHeld => ?_)
  generalize w2.drew = w2 at GB_3 BE_4 hHeld ⊢
  refine pure_ (i := 0) (N := some 28) (v := ?_) (a' := ?_) (lsq 5 1) rfl rfl (by as_aux_lemma => kernel_rfl) (fun _ _ _ h => h) (Or.inl ⟨by rfl, ?_⟩) ?_ ?_; rotate_left; (intro w'; go_simp; with_reducible rfl); rotate_left; (simp only [Act.put, List.setIfInBounds_toArray, List.set_cons_zero, List.set_cons_succ, i64_w, i32_w]; rfl)
  refine pure_ (i := 1) (N := some 29) (v := ?_) (a' := ?_) (lsq 5 3) rfl rfl (by as_aux_lemma => kernel_rfl) (fun _ _ _ h => h) (Or.inl ⟨by rfl, ?_⟩) ?_ ?_; rotate_left; (intro w'; go_simp; with_reducible rfl); rotate_left; (simp only [Act.put, List.setIfInBounds_toArray, List.set_cons_zero, List.set_cons_succ, i64_w, i32_w]; rfl)
  refine pure_ (i := 3) (N := some 10) (v := ?_) (a' := ?_) (lsq 5 11) rfl rfl (by as_aux_lemma => kernel_rfl) (fun _ _ _ h => h) (Or.inl ⟨by rfl, ?_⟩) ?_ ?_; rotate_left; (intro w'; go_simp; with_reducible rfl); rotate_left; (simp only [Act.put, List.setIfInBounds_toArray, List.set_cons_zero, List.set_cons_succ, i64_w, i32_w]; rfl)
  refine one_ (i := 2) (N := some 30) (lsq 5 15) rfl rfl (by kernel_rfl) (by decide) (fun K hK => ?_)
  refine Kd.R_make_step (Kd.int .i64) (w0 := w2) w.heap.size 3 (by rfl) rfl 26 _ _ rfl (n : Int) rfl rfl Try.underlying26 (.int .i64 0) 8 info3 rfl (by decide) (by decide) (0 : Int) (ok := fun _ => True) (okp := fun _ => True) rfl (fun _ hk => hk) trivial (by omega) (by omega) (Below.refl _ _) BE_4.out.size ?_
  intro v1 w10 ho1 hb1 hg1 hn1
  clear hn1
  obtain ⟨A1, c1, rfl⟩ := Kd.R_slice ho1
  rw [Int.toNat_natCast] at ho1
  have hln : (List.replicate n (0 : Int)).length = n := List.length_replicate ..
  rw [Int.toNat_natCast, hln]
  rw [hln] at ho1
  obtain ⟨xs, hxs⟩ : ∃ xs, xs = List.replicate n (0 : Int) := ⟨_, rfl⟩
  rw [← hxs] at ho1 hln
  clear hxs
  have HLN := lhid hln
  have MRa := lhid ho1
  have GBa := lhid (blk_grown GB_3.out hg1 (by simp))
  have BEa := lhid (BE_4.out.trans hb1)
  clear ho1 hb1 hg1 hln GB_3 BE_4
  refine hK.out _ _ trivial (fun hHeld => ?_)
  clear hK K
  refine norm_ (a' := ?_) ?_ ?_
  rotate_left
  · show Act.put _ (some 30) _ = _
    simp only [Act.put, List.setIfInBounds_toArray, List.set_cons_zero, List.set_cons_succ, i64_w, i32_w]
    rfl
  refine pure_ (i := 4) (N := some 11) (v := ?_) (a' := ?_) (lsq 5 31) rfl rfl (by as_aux_lemma => kernel_rfl) (fun _ _ _ h => h) (Or.inl ⟨by rfl, ?_⟩) ?_ ?_; rotate_left; (intro w'; go_simp; with_reducible rfl); rotate_left; (simp only [Act.put, List.setIfInBounds_toArray, List.set_cons_zero, List.set_cons_succ, i64_w, i32_w]; rfl)
  refine done_ (by kernel_rfl) ?_
  
  go_upto_region 7 with (fail)
  try any_goals (exfalso; omega)
  go_loopw [12, 33] (fun _ i wr => ∃ k : Nat, k ≤ n ∧ i = .int .i64 k ∧ ∃ xs : List Int, Hid (xs.length = n) ∧ Hid (wr.heap[gb]? = some (.cells (gcs n (Ged es)) 128)) ∧ Hid (Below w.heap.size w wr) ∧ Hid (Kd.R (Kd.int .i64) 3 wr w.heap.size (fun _ => True) (.slice A1 n c1) xs)) (fun _ i _ => n - (intOf i).toNat)
  case atStart => exact ⟨0, Nat.zero_le _, rfl, xs, HLN, GBa, BEa, MRa⟩
  case round =>
    clear HLN GBa BEa MRa xs
    obtain ⟨k, hk, rfl, xs, HLN, GBr, BEr, MRr⟩ := hrel
    by_cases hlt : k < n
    · have hki : (k : Int) < (n : Int) := by omega
      have hk0 : (0 : Int) ≤ (k : Int) := by omega
      obtain ⟨ab, c2, hv, hab, _, _⟩ := Kd.R_form MRr.out (by have h1 := HLN.out; omega)
      injection hv with hv1 hv2 hv3
      subst hv1 hv3
      clear hv2
      have HAB := lhid hab
      clear hab
      have HNG := lhid (show gb ≠ ab by rintro rfl; obtain ⟨cs, hcs⟩ := Kd.R_typed MRr.out gb rfl; exact blk_ne hcs GBr.out (by decide) rfl)
      obtain ⟨dc, df⟩ := Kd.R_celln (0 : Int) MRr.out (k : Int) (by omega) (by omega)
      rw [Int.toNat_natCast] at dc df
      go_upto_region 10 with (fail)
      try any_goals (exfalso; omega)
      clear dc df
      have MRs := lhid (show Kd.R (Kd.int .i64) 3 (World.setCell wr ⟨ab, k, none⟩ (.int .i64 (n : Int))) w.heap.size (fun _ => True) (.slice (some ⟨ab, 0, none⟩) n c1) (xs.set k (n : Int)) from by have h1 := Kd.R_putn MRr.out (k : Int) (n : Int); rwa [Int.toNat_natCast] at h1)
      have GBs := lhid (blk_far GBr.out (p := ⟨ab, k, none⟩) HNG.out (.int .i64 (n : Int)))
      have BEs := lhid (BEr.out.setCell (p := ⟨ab, k, none⟩) HAB.out (.int .i64 (n : Int)))
      clear GBr BEr MRr
      generalize World.setCell wr ⟨ab, k, none⟩ (.int .i64 (n : Int)) = wms at MRs GBs BEs ⊢
      go_wp2_with fail
      try any_goals (exfalso; omega)
      go_roundw
      case rel => exact ⟨k + 1, by omega, by simp, xs.set k (n : Int), lhid (by rw [List.length_set]; exact HLN.out), GBs, BEs, MRs⟩
      case measure => simp [intOf]; omega
    have hne : n = k := by omega
    subst hne
    clear hlt hk
    go_wp2_with fail
    go_step3
    go_upto_region 12 with (fail)
    try any_goals (exfalso; omega)
    clear HOK HE HL
    have HGE := lhid HBP.out
    clear HBP
    have hL1 : -((0 : Nat) : Int) ≤ (nu : Int) := by omega
    go_loopw [7, 10, 13, 43] (fun g l _ i wr => ∃ (k : Nat) (L : Int), k ≤ n ∧ i = .int .i64 k ∧ l = .int .i64 L ∧ -(k : Int) ≤ L ∧ L ≤ 24 ∧ ∃ (gb : Nat) (G : Nat → Nat → Bool) (xs : List Int), g = .pointer (some ⟨gb, 0, none⟩) ∧ Hid (Bip n s G) ∧ Hid (xs.length = n) ∧ Hid (wr.heap[gb]? = some (.cells (gcs n G) 128)) ∧ Hid (Below w.heap.size w wr) ∧ Hid (Kd.R (Kd.int .i64) 3 wr w.heap.size (fun _ => True) (.slice A1 n c1) xs)) (fun _ _ _ i _ => n - (intOf i).toNat)
    case atStart => exact ⟨0, (nu : Int), Nat.zero_le _, rfl, rfl, hL1, hpn, gb, Ged es, xs, rfl, HGE, HLN, GBr, BEr, MRr⟩
    case round =>
      clear HLN hL1 GBr BEr MRr
      obtain ⟨k, L, hk, rfl, rfl, hL1, hL2, gb, G, xs, rfl, HBP, HLN, GBr, BEr, MRr⟩ := hrel
      by_cases hlt : k < n
      · have hki : (k : Int) < (n : Int) := by omega
        have hk0 : (0 : Int) ≤ (k : Int) := by omega
        have HK := lhid hlt
        obtain ⟨ab, c2, hv, hab, _, _⟩ := Kd.R_form MRr.out (by have h1 := HLN.out; omega)
        injection hv with hv1 hv2 hv3
        subst hv1 hv3
        clear hv2
        have HAB := lhid hab
        clear hab
        have HNG := lhid (show gb ≠ ab by rintro rfl; obtain ⟨cs, hcs⟩ := Kd.R_typed MRr.out gb rfl; exact blk_ne hcs GBr.out (by decide) rfl)
        obtain ⟨dc, df⟩ := Kd.R_celln (0 : Int) MRr.out (k : Int) (by omega) (by omega)
        rw [Int.toNat_natCast] at dc df
        obtain ⟨z, hz⟩ : ∃ z, z = rdOf 0 xs (k : Int) := ⟨_, rfl⟩
        rw [← hz] at dc
        clear hz
        by_cases hzn : z < (n : Int)
        · go_wp2_with fail
          try any_goals (exfalso; omega)
          clear dc df
          go_roundw
          case rel => exact ⟨k + 1, L, by omega, by simp, rfl, by omega, hL2, gb, G, xs, rfl, HBP, HLN, GBr, BEr, MRr⟩
          case measure => simp [intOf]; omega
        · go_upto_region 16 with (fail)
          try any_goals (exfalso; omega)
          clear dc df
          go_loopw [7, 10, 14, 15, 53] (fun g l _ _ i wr => ∃ j : Nat, j ≤ n ∧ i = .int .i64 j ∧ l = .int .i64 L ∧ g = .pointer (some ⟨gb, 0, none⟩) ∧ Hid (wr.heap[gb]? = some (.cells (gcs n G) 128)) ∧ Hid (Below w.heap.size w wr) ∧ Hid (Kd.R (Kd.int .i64) 3 wr w.heap.size (fun _ => True) (.slice (some ⟨ab, 0, none⟩) n c1) xs)) (fun _ _ _ _ i _ => n - (intOf i).toNat)
          case atStart => exact ⟨0, Nat.zero_le _, rfl, rfl, rfl, GBr, BEr, MRr⟩
          case round =>
            clear GBr BEr MRr
            obtain ⟨j, hj, rfl, rfl, rfl, GBr, BEr, MRr⟩ := hrel
            by_cases hlj : j < n
            · have hji : (j : Int) < (n : Int) := by omega
              have hj0 : (0 : Int) ≤ (j : Int) := by omega
              have hj24 : (j : Int) < 24 := by omega
              have hk24 : (k : Int) < 24 := by omega
              have HJ := lhid hlj
              have gv := (blk_cell GBr.out (1 + k * 24 + j)).trans (gcs_get n G (show k < 24 by omega) (show j < 24 by omega))
              cases hg : G k j
              · rw [hg] at gv
                clear hg
                go_wp2_with fail
                try any_goals (exfalso; omega)
                clear gv
                go_roundw
                case rel => exact ⟨j + 1, by omega, by simp, rfl, rfl, GBr, BEr, MRr⟩
                case measure => simp [intOf]; omega
              · rw [hg] at gv
                have HKJ := lhid (HBP.out.ne hg)
                clear hg
                go_upto_region 19 with (fail)
                try any_goals (exfalso; omega)
                clear gv
                go_wp2_with fail
                have hq0 := lit2 wr w.heap.size BEr.out.size (k : Int) (j : Int)
                have hb := below_alloc (Below.refl wr.heap.size wr) (.cells #[.int .i64 (k : Int), .int .i64 (j : Int)] 3)
                have GB_5 := lhid (blk_below GBr.out hb)
                have BE_6 := lhid (below_then BEr.out BEr.out.size hb)
                have MR_7 := lhid (Kd.R_below MRr.out hb)
                clear GBr BEr MRr hb
                generalize World.alloc wr (.cells #[.int .i64 (k : Int), .int .i64 (j : Int)] 3) = w21 at hq0 GB_5 BE_6 MR_7 ⊢
                have hwo : Calls Try.prog 67 #[.pointer (some ⟨gb, 0, none⟩), .slice (some ⟨wr.heap.size, 0, none⟩) 2 2] w21 (WoP n s w21) := without_c w21 gb n s G _ _ [k, j] GB_5.out HBP.out hq0 (by simp) HN.out.1 (fun x hx => by simp at hx; rcases hx with rfl | rfl; exact HK.out; exact HJ.out)
                with_reducible refine hwo.mono ?_
                rintro e w22 ⟨hb, g2, G2, rfl, hg2, hbp2⟩
                clear hq0 hwo
                have GB_8 := lhid (blk_below GB_5.out hb)
                have BE_9 := lhid (below_then BE_6.out BE_6.out.size hb)
                have MR_10 := lhid (Kd.R_below MR_7.out hb)
                clear GB_5 BE_6 MR_7 hb
                have H2 := lhid hg2
                have HBP2 := lhid hbp2
                clear hg2 hbp2
                go_upto_region 20 with (fail)
                try any_goals (exfalso; omega)
                go_wp2_with fail
                with_reducible refine (most_c w22 g2 n s G2 H2.out HBP2.out HN.out.1 HN.out.2).mono ?_
                rintro e w23 ⟨hb, m2, A2, c2, rfl, hc2, _, _, hM2⟩
                have GB_11 := lhid (blk_below GB_8.out hb)
                have BE_12 := lhid (below_then BE_9.out BE_9.out.size hb)
                have MR_13 := lhid (Kd.R_below MR_10.out hb)
                have G2_14 := lhid (blk_below H2.out hb)
                clear GB_8 BE_9 MR_10 H2 hb
                go_wp2_with fail
                have hpl := prC_le n m2 n
                by_cases he : (prC n m2 n : Int) = L - 1
                · have d := beq_iff_eq.2 he
                  with_reducible refine (pairs_c w23 n m2 A2 c2 hM2 hc2 (by omega)).mono ?_
                  rintro e ww ⟨rfl, rfl⟩
                  clear hM2 hc2
                  have hkj : ¬ k = j := HKJ.out
                  have hjk : ¬ j = k := fun e => HKJ.out e.symm
                  obtain ⟨dc, df⟩ := Kd.R_celln (0 : Int) MR_13.out (k : Int) (by omega) (by omega)
                  obtain ⟨dc2, df2⟩ := Kd.R_celln (0 : Int) MR_13.out (j : Int) (by omega) (by omega)
                  rw [Int.toNat_natCast] at dc df dc2 df2
                  go_upto_region 22 with (fail)
                  try any_goals (exfalso; omega)
                  clear dc df dc2 df2 hkj hjk d
                  have HN2 := lhid (show g2 ≠ ab by rintro rfl; obtain ⟨cs, hcs⟩ := Kd.R_typed MR_13.out g2 rfl; exact blk_ne hcs G2_14.out (by decide) rfl)
                  have GZa := lhid (blk_far G2_14.out (p := ⟨ab, k, none⟩) HN2.out (.int .i64 (j : Int)))
                  have GZb := lhid (blk_far GZa.out (p := ⟨ab, j, none⟩) HN2.out (.int .i64 (k : Int)))
                  clear GZa
                  have MRx := lhid (show Kd.R (Kd.int .i64) 3 (World.setCell w23 ⟨ab, k, none⟩ (.int .i64 (j : Int))) w.heap.size (fun _ => True) (.slice (some ⟨ab, 0, none⟩) n c1) (xs.set k (j : Int)) from by have h1 := Kd.R_putn MR_13.out (k : Int) (j : Int); rwa [Int.toNat_natCast] at h1)
                  have BEx := lhid (BE_12.out.setCell (p := ⟨ab, k, none⟩) HAB.out (.int .i64 (j : Int)))
                  generalize World.setCell w23 ⟨ab, k, none⟩ (.int .i64 (j : Int)) = wmx at GZb MRx BEx ⊢
                  have MRy := lhid (show Kd.R (Kd.int .i64) 3 (World.setCell wmx ⟨ab, j, none⟩ (.int .i64 (k : Int))) w.heap.size (fun _ => True) (.slice (some ⟨ab, 0, none⟩) n c1) ((xs.set k (j : Int)).set j (k : Int)) from by have h1 := Kd.R_putn MRx.out (j : Int) (k : Int); rwa [Int.toNat_natCast] at h1)
                  have BEy := lhid (BEx.out.setCell (p := ⟨ab, j, none⟩) HAB.out (.int .i64 (k : Int)))
                  generalize World.setCell wmx ⟨ab, j, none⟩ (.int .i64 (k : Int)) = wmy at GZb MRy BEy ⊢
                  go_wp2_with fail
                  try any_goals (exfalso; omega)
                  go_roundw
                  case rel => exact ⟨k + 1, L - 1, by omega, by simp, rfl, by omega, by omega, g2, G2, ((xs.set k (j : Int)).set j (k : Int)), rfl, HBP2, lhid (by rw [List.length_set, List.length_set]; exact HLN.out), GZb, BEy, MRy⟩
                  case measure => simp [intOf]; omega
                · have d := beq_eq_false_iff_ne.2 he
                  with_reducible refine (pairs_c w23 n m2 A2 c2 hM2 hc2 (by omega)).mono ?_
                  rintro e ww ⟨rfl, rfl⟩
                  clear hM2 hc2
                  go_wp2_with fail
                  try any_goals (exfalso; omega)
                  go_roundw
                  case rel => exact ⟨j + 1, by omega, by simp, rfl, rfl, GB_11, BE_12, MR_13⟩
                  case measure => simp [intOf]; omega
            have hne : n = j := by omega
            subst hne
            clear hlj hj
            go_upto_region 24 with (fail)
            try any_goals (exfalso; omega)
            go_wp2_with fail
            have hq0 := lit1 wr w.heap.size BEr.out.size (k : Int)
            have hb := below_alloc (Below.refl wr.heap.size wr) (.cells #[.int .i64 (k : Int)] 3)
            have GB_15 := lhid (blk_below GBr.out hb)
            have BE_16 := lhid (below_then BEr.out BEr.out.size hb)
            have MR_17 := lhid (Kd.R_below MRr.out hb)
            clear GBr BEr MRr hb
            generalize World.alloc wr (.cells #[.int .i64 (k : Int)] 3) = w21 at hq0 GB_15 BE_16 MR_17 ⊢
            have hwo : Calls Try.prog 67 #[.pointer (some ⟨gb, 0, none⟩), .slice (some ⟨wr.heap.size, 0, none⟩) 1 1] w21 (WoP n s w21) := without_c w21 gb n s G _ _ [k] GB_15.out HBP.out hq0 (by simp) HN.out.1 (fun x hx => by simp at hx; rw [hx]; exact HK.out)
            with_reducible refine hwo.mono ?_
            rintro e w22 ⟨hb, g2, G2, rfl, hg2, hbp2⟩
            clear hq0 hwo
            have GB_18 := lhid (blk_below GB_15.out hb)
            have BE_19 := lhid (below_then BE_16.out BE_16.out.size hb)
            have MR_20 := lhid (Kd.R_below MR_17.out hb)
            clear GB_15 BE_16 MR_17 hb
            have H2 := lhid hg2
            have HBP2 := lhid hbp2
            clear hg2 hbp2
            go_wp2_with fail
            try any_goals (exfalso; omega)
            go_roundw
            case rel => exact ⟨k + 1, L, by omega, by simp, rfl, by omega, hL2, g2, G2, xs, rfl, HBP2, HLN, H2, BE_19, MR_20⟩
            case measure => simp [intOf]; omega
      have hne : n = k := by omega
      subst hne
      clear hlt hk
      go_wp2_with fail
      try any_goals (exfalso; omega)
      rw [Exit.noGoto_ret]
      go_ret3
      exact ⟨BEr.out, m, .slice A1 n c1, by rw [← HNU.out]; rfl, HM.out, HX.out⟩
end Go.Proofs.Ythfdjccdelbeeaa.PT
end
section
namespace Go.Proofs.Ythfdjccdelbeeaa.TPl
set_option linter.unusedVariables false
/-- An offer: buyer, lots as a set, price. -/
structure Of where
  b : Nat
  l : Nat
  p : Nat
def nok (wo : Int) (L B : Nat) (o : Of) : Prop := (o.b : Int) ≠ wo ∧ L &&& o.l = 0 ∧ B.testBit o.b = false
instance (wo : Int) (L B : Nat) (o : Of) : Decidable (nok wo L B o) := inferInstanceAs (Decidable (_ ∧ _ ∧ _))
def feas (wo : Int) : List Of → List Bool → Nat → Nat → Prop
  | [], [], _, _ => True
  | o :: os, true :: s, L, B => nok wo L B o ∧ feas wo os s (L ||| o.l) (B ||| 2 ^ o.b)
  | _ :: os, false :: s, L, B => feas wo os s L B
  | _, _, _, _ => False
def val : List Of → List Bool → Nat
  | o :: os, true :: s => o.p + val os s
  | _ :: os, false :: s => val os s
  | _, _ => 0
def tot : List Of → Nat
  | [] => 0
  | o :: os => o.p + tot os
def num : List Bool → Nat
  | [] => 0
  | true :: s => 2 ^ s.length + num s
  | false :: s => num s
def idx : Int → List Bool → List Int
  | _, [] => []
  | i, true :: s => i :: idx (i + 1) s
  | i, false :: s => idx (i + 1) s
theorem num_lt : ∀ s : List Bool, num s < 2 ^ s.length
  | [] => by simp [num]
  | true :: s => by have := num_lt s; simp only [num, List.length_cons, Nat.pow_succ]; omega
  | false :: s => by have := num_lt s; simp only [num, List.length_cons, Nat.pow_succ]; omega
theorem num_inj : ∀ s t : List Bool, s.length = t.length → num s = num t → s = t
  | [], [], _, _ => rfl
  | true :: s, true :: t, hl, h => by
    have hl' : s.length = t.length := by simpa using hl
    simp only [num, hl'] at h
    rw [num_inj s t hl' (by omega)]
  | false :: s, false :: t, hl, h => by rw [num_inj s t (by simpa using hl) h]
  | true :: s, false :: t, hl, h => by
    have hl' : s.length = t.length := by simpa using hl
    have := num_lt t
    simp only [num, hl'] at h; omega
  | false :: s, true :: t, hl, h => by
    have hl' : s.length = t.length := by simpa using hl
    have := num_lt s
    simp only [num] at h; rw [hl'] at this; omega
theorem feas_len (wo : Int) : ∀ (os : List Of) (s : List Bool) (L B : Nat), feas wo os s L B → s.length = os.length
  | [], [], _, _, _ => rfl
  | _ :: os, true :: s, L, B, h => by simp [feas_len wo os s _ _ h.2]
  | _ :: os, false :: s, L, B, h => by simp [feas_len wo os s _ _ h]
  | [], _ :: _, _, _, h => h.elim
  | _ :: _, [], _, _, h => h.elim
theorem feas_none (wo : Int) : ∀ (os : List Of) (L B : Nat), feas wo os (List.replicate os.length false) L B
  | [], _, _ => trivial
  | _ :: os, L, B => feas_none wo os L B
theorem val_le : ∀ (os : List Of) (s : List Bool), val os s ≤ tot os
  | [], [] => by simp [val]
  | [], _ :: _ => by simp [val]
  | _ :: _, [] => by simp [val]
  | o :: os, true :: s => by have := val_le os s; simp only [val, tot]; omega
  | o :: os, false :: s => by have := val_le os s; simp only [val, tot]; omega
/-- The best choice: none is worth more, and of those worth the same none comes earlier. -/
def IsBest (wo : Int) (os : List Of) (L B : Nat) (s : List Bool) : Prop := feas wo os s L B ∧ ∀ t, feas wo os t L B → val os t < val os s ∨ (val os t = val os s ∧ num t ≤ num s)
theorem IsBest.uniq {wo : Int} {os : List Of} {L B : Nat} {s t : List Bool} (hs : IsBest wo os L B s) (ht : IsBest wo os L B t) : s = t := by
  have h1 := hs.2 t ht.1
  have h2 := ht.2 s hs.1
  exact num_inj _ _ (by rw [feas_len _ _ _ _ _ hs.1, feas_len _ _ _ _ _ ht.1]) (by omega)
theorem isBest_cons {wo : Int} {o : Of} {os : List Of} {L B : Nat} {s0 s1 : List Bool} (h0 : IsBest wo os L B s0) (hk : nok wo L B o) (h1 : IsBest wo os (L ||| o.l) (B ||| 2 ^ o.b) s1) :
    IsBest wo (o :: os) L B (if val os s0 ≤ o.p + val os s1 then true :: s1 else false :: s0) := by
  have l0 := feas_len _ _ _ _ _ h0.1
  have l1 := feas_len _ _ _ _ _ h1.1
  split
  · rename_i hle
    refine ⟨⟨hk, h1.1⟩, fun t ht => ?_⟩
    match t, ht with
    | true :: t, ht =>
      have := h1.2 t ht.2
      have lt := feas_len _ _ _ _ _ ht.2
      simp only [val, num, l1, lt]; omega
    | false :: t, ht =>
      have := h0.2 t ht
      have lt := feas_len wo os t L B ht
      have := num_lt t
      simp only [val, num, l1]; rw [lt] at this; omega
  · rename_i hle
    refine ⟨h0.1, fun t ht => ?_⟩
    match t, ht with
    | true :: t, ht =>
      have := h1.2 t ht.2
      simp only [val]; omega
    | false :: t, ht =>
      have := h0.2 t ht
      simpa only [val, num] using this
theorem isBest_skip {wo : Int} {o : Of} {os : List Of} {L B : Nat} {s0 : List Bool} (h0 : IsBest wo os L B s0) (hk : ¬ nok wo L B o) : IsBest wo (o :: os) L B (false :: s0) := by
  refine ⟨h0.1, fun t ht => ?_⟩
  match t, ht with
  | true :: t, ht => exact absurd ht.1 hk
  | false :: t, ht => simpa only [val, num] using h0.2 t ht
/-- The search. -/
def nGo (wo : Int) : List Of → Int → Nat → Nat → Nat → List Int → List Int × Int → List Int × Int
  | [], _, _, _, sum, now, tw => if (sum : Int) ≤ tw.2 then tw else (now, sum)
  | o :: os, i, L, B, sum, now, tw =>
    if ((sum + tot (o :: os) : Nat) : Int) ≤ tw.2 then tw
    else nGo wo os (i + 1) L B sum now (if nok wo L B o then nGo wo os (i + 1) (L ||| o.l) (B ||| 2 ^ o.b) (sum + o.p) (now ++ [i]) tw else tw)
theorem nGo_best (wo : Int) : ∀ (os : List Of) (L B : Nat), ∃ s, IsBest wo os L B s ∧ ∀ (i : Int) (sum : Nat) (now : List Int) (tw : List Int × Int),
    nGo wo os i L B sum now tw = if ((sum + val os s : Nat) : Int) ≤ tw.2 then tw else (now ++ idx i s, ((sum + val os s : Nat) : Int))
  | [], L, B => ⟨[], ⟨trivial, fun t ht => by
      match t, ht with
      | [], _ => simp [val]⟩, fun i sum now tw => by simp [nGo, val, idx]⟩
  | o :: os, L, B => by
    obtain ⟨s0, h0, e0⟩ := nGo_best wo os L B
    have v0 := val_le os s0
    by_cases hk : nok wo L B o
    · obtain ⟨s1, h1, e1⟩ := nGo_best wo os (L ||| o.l) (B ||| 2 ^ o.b)
      have v1 := val_le os s1
      refine ⟨_, isBest_cons h0 hk h1, fun i sum now tw => ?_⟩
      simp only [nGo, if_pos hk, e0, e1, tot]
      by_cases hle : val os s0 ≤ o.p + val os s1
      · rw [if_pos hle]
        by_cases hp : ((sum + (o.p + tot os) : Nat) : Int) ≤ tw.2
        · rw [if_pos hp, if_pos (by simp only [val]; omega)]
        · rw [if_neg hp]
          by_cases hq : ((sum + o.p + val os s1 : Nat) : Int) ≤ tw.2
          · rw [if_pos hq, if_pos (by omega), if_pos (by simp only [val]; omega)]
          · rw [if_neg hq, if_pos (by dsimp only; omega), if_neg (by simp only [val]; omega)]
            simp [val, idx, Nat.add_assoc]
      · rw [if_neg hle]
        by_cases hp : ((sum + (o.p + tot os) : Nat) : Int) ≤ tw.2
        · rw [if_pos hp, if_pos (by simp only [val]; omega)]
        · rw [if_neg hp]
          by_cases hq : ((sum + o.p + val os s1 : Nat) : Int) ≤ tw.2
          · rw [if_pos hq]; rfl
          · rw [if_neg hq, if_neg (by dsimp only; omega), if_neg (by simp only [val]; omega)]; rfl
    · refine ⟨_, isBest_skip h0 hk, fun i sum now tw => ?_⟩
      simp only [nGo, if_neg hk, e0, tot]
      by_cases hp : ((sum + (o.p + tot os) : Nat) : Int) ≤ tw.2
      · rw [if_pos hp, if_pos (by simp only [val]; omega)]
      · rw [if_neg hp]; rfl
end Go.Proofs.Ythfdjccdelbeeaa.TPl
end
section
namespace Go.Proofs.Ythfdjccdelbeeaa.PT
open Go.RowKit Go.Proofs.YthfdjccdelbeeaaW.PrintWords Go.Proofs.YthfdjccdelbeeaaW.PrintLast Go.Proofs.YthfdjccdelbeeaaW.PrintMore
attribute [local go_sem] max2_int min2_int max_two min_two max_three min_three max_four min_four   -- for this text's walks alone
set_option linter.unusedVariables false
set_option linter.unusedSimpArgs false
def tender_valid.f (a0_0 : Int) (a0_1 : Int) (a0_2 : Int) (a1 : Int) : Option (Bool) := if a0_0 ≥ 0 then (if a0_0 ≤ 7 then (if a0_1 ≥ 1 then (if 0 ≤ a1 then (if a0_1 < (shl .i64 1 a1) then (if a0_2 ≥ 1 then (some (decide (a0_2 ≤ 1073741824))) else (some false)) else (some false)) else (none)) else (some false)) else (some false)) else (some false)
set_option maxHeartbeats 8000000 in
set_option maxRecDepth 100000 in
theorem tender_valid.calls (a0_0 : Int) (a0_1 : Int) (a0_2 : Int) (a1 : Int) (r : Bool) (w : World) (h : tender_valid.f a0_0 a0_1 a0_2 a1 = some r) :
    Calls Try.prog 57 #[.agg #[.int .i64 a0_0, .int .i64 a0_1, .int .i64 a0_2], .int .i64 a1] w fun e w' => e = .returned (.bool r) ∧ Below w.heap.size w w' := by
  have hu50 := Try.underlying50
  have HB := Aside0.mk (Below.refl w.heap.size w)
  have H : (if a0_0 ≥ 0 then (if a0_0 ≤ 7 then (if a0_1 ≥ 1 then (if 0 ≤ a1 then (if a0_1 < (shl .i64 1 a1) then (if a0_2 ≥ 1 then (some (decide (a0_2 ≤ 1073741824))) else (some false)) else (some false)) else (none)) else (some false)) else (some false)) else (some false)) = some r := h
  clear h
  by_cases c3 : a0_0 ≥ 0
  · rw [if_pos c3] at H
    have c3b0 : decide (0 ≤ a0_0) = true := decide_eq_true c3
    clear c3
    by_cases c4 : a0_0 ≤ 7
    · rw [if_pos c4] at H
      have c4b0 : decide (a0_0 ≤ 7) = true := decide_eq_true c4
      clear c4
      by_cases c5 : a0_1 ≥ 1
      · rw [if_pos c5] at H
        have c5b0 : decide (1 ≤ a0_1) = true := decide_eq_true c5
        clear c5
        by_cases c6 : 0 ≤ a1
        · rw [if_pos c6] at H
          have c6b0 := eq_true c6
          have c6b1 : decide (0 ≤ a1) = true := decide_eq_true c6
          clear c6
          obtain ⟨ji7, hji7⟩ : ∃ j_ : Int, (shl .i64 1 a1) = j_ := ⟨_, rfl⟩
          replace H : (if a0_1 < (ji7) then (if a0_2 ≥ 1 then (some (decide (a0_2 ≤ 1073741824))) else (some false)) else (some false)) = some r := by first | (rw [hji7] at H; exact H) | (simp only [hji7] at H ⊢; exact H)
          have hji7_ : (IntKind.i64.wrap (1 * 2 ^ min a1.toNat 64)) = ji7 := hji7
          have hji7z : a1 ≤ 64 → (IntKind.i64.wrap (1 * 2 ^ a1.toNat)) = ji7 := shl_small hji7
          have hji7u : (IntKind.i64.wrap (2 ^ min a1.toNat 64)) = ji7 := by have h_ := hji7_; rw [Int.one_mul] at h_; exact h_
          have hji7v : a1 ≤ 64 → (IntKind.i64.wrap (2 ^ a1.toNat)) = ji7 := fun hle_ => by have h_ := hji7z hle_; rw [Int.one_mul] at h_; exact h_
          have hji7y : (wrap64 (1 * 2 ^ min a1.toNat 64)) = ji7 := (i64_w _).symm.trans hji7_
          have hji7x : a1 ≤ 64 → (wrap64 (1 * 2 ^ a1.toNat)) = ji7 := fun h_ => (i64_w _).symm.trans (hji7z h_)
          by_cases c8 : a0_1 < (ji7)
          · rw [if_pos c8] at H
            have c8b0 : decide (a0_1 < (ji7)) = true := decide_eq_true c8
            clear c8
            by_cases c9 : a0_2 ≥ 1
            · rw [if_pos c9] at H
              have c9b0 : decide (1 ≤ a0_2) = true := decide_eq_true c9
              clear c9
              obtain rfl := Option.some.inj H
              go_enter Try.func57, Try.ntmps57
              go_wp2_with (first | ((with_reducible refine gate_dst (N := 2) rfl ?_); refine box_event ?hg (N := 2) ?hd (cs := #[.int .i64 a0_0, .int .i64 a0_1, .int .i64 a0_2]) (t := 50) ?hr ?_; (case hd => rfl); (case hg => rfl); (case hr => first | (go_simp; done) | (go_simp; rfl)); intro gb103 hg w10 hbox hb; have n0_ := Aside0.mk (below_step (by repeat (first | (with_reducible first | exact HB.out | apply below_alloc | apply pw_below_drewN | apply below_drew1) | exact HB.out)) hb); have n1_ := Aside0.mk (hbox); have n2_ := Aside0.mk ((by rw [hg]; exact (below_size (by repeat (first | (with_reducible first | exact HB.out | apply below_alloc | apply pw_below_drewN | apply below_drew1) | exact HB.out))) : w.heap.size ≤ gb103)); have n3_ := Aside0.mk ((by rw [hg]; exact (below_size (by repeat (first | (with_reducible first | exact HB.out | apply below_alloc | apply pw_below_drewN | apply below_drew1) | exact HB.out))) : w.heap.size ≤ gb103)); clear HB; have HB := n0_; have BK103 := n1_; have GW103 := n2_; have GE103 := n3_; clear n0_ n1_ n2_ n3_; clear hb hbox hg; have hcz11_0 : w10.cell? ⟨gb103, 0, none⟩ = some (.int .i64 a0_0) := (blk_cell BK103.out 0).trans rfl; have hcz11_1 : w10.cell? ⟨gb103, 1, none⟩ = some (.int .i64 a0_1) := (blk_cell BK103.out 1).trans rfl; have hcz11_2 : w10.cell? ⟨gb103, 2, none⟩ = some (.int .i64 a0_2) := (blk_cell BK103.out 2).trans rfl; have hfz11_0 := blk_frozen BK103.out 0; have hfz11_1 := blk_frozen BK103.out 1; have hfz11_2 := blk_frozen BK103.out 2))
              repeat (go_quiet (first | ((with_reducible refine gate_dst (N := 2) rfl ?_); refine box_event ?hg (N := 2) ?hd (cs := #[.int .i64 a0_0, .int .i64 a0_1, .int .i64 a0_2]) (t := 50) ?hr ?_; (case hd => rfl); (case hg => rfl); (case hr => first | (go_simp; done) | (go_simp; rfl)); intro gb103 hg w10 hbox hb; have n0_ := Aside0.mk (below_step (by repeat (first | (with_reducible first | exact HB.out | apply below_alloc | apply pw_below_drewN | apply below_drew1) | exact HB.out)) hb); have n1_ := Aside0.mk (hbox); have n2_ := Aside0.mk ((by rw [hg]; exact (below_size (by repeat (first | (with_reducible first | exact HB.out | apply below_alloc | apply pw_below_drewN | apply below_drew1) | exact HB.out))) : w.heap.size ≤ gb103)); have n3_ := Aside0.mk ((by rw [hg]; exact (below_size (by repeat (first | (with_reducible first | exact HB.out | apply below_alloc | apply pw_below_drewN | apply below_drew1) | exact HB.out))) : w.heap.size ≤ gb103)); clear HB; have HB := n0_; have BK103 := n1_; have GW103 := n2_; have GE103 := n3_; clear n0_ n1_ n2_ n3_; clear hb hbox hg; have hcz11_0 : w10.cell? ⟨gb103, 0, none⟩ = some (.int .i64 a0_0) := (blk_cell BK103.out 0).trans rfl; have hcz11_1 : w10.cell? ⟨gb103, 1, none⟩ = some (.int .i64 a0_1) := (blk_cell BK103.out 1).trans rfl; have hcz11_2 : w10.cell? ⟨gb103, 2, none⟩ = some (.int .i64 a0_2) := (blk_cell BK103.out 2).trans rfl; have hfz11_0 := blk_frozen BK103.out 0; have hfz11_1 := blk_frozen BK103.out 1; have hfz11_2 := blk_frozen BK103.out 2)); try go_wp2_with (first | ((with_reducible refine gate_dst (N := 2) rfl ?_); refine box_event ?hg (N := 2) ?hd (cs := #[.int .i64 a0_0, .int .i64 a0_1, .int .i64 a0_2]) (t := 50) ?hr ?_; (case hd => rfl); (case hg => rfl); (case hr => first | (go_simp; done) | (go_simp; rfl)); intro gb103 hg w10 hbox hb; have n0_ := Aside0.mk (below_step (by repeat (first | (with_reducible first | exact HB.out | apply below_alloc | apply pw_below_drewN | apply below_drew1) | exact HB.out)) hb); have n1_ := Aside0.mk (hbox); have n2_ := Aside0.mk ((by rw [hg]; exact (below_size (by repeat (first | (with_reducible first | exact HB.out | apply below_alloc | apply pw_below_drewN | apply below_drew1) | exact HB.out))) : w.heap.size ≤ gb103)); have n3_ := Aside0.mk ((by rw [hg]; exact (below_size (by repeat (first | (with_reducible first | exact HB.out | apply below_alloc | apply pw_below_drewN | apply below_drew1) | exact HB.out))) : w.heap.size ≤ gb103)); clear HB; have HB := n0_; have BK103 := n1_; have GW103 := n2_; have GE103 := n3_; clear n0_ n1_ n2_ n3_; clear hb hbox hg; have hcz11_0 : w10.cell? ⟨gb103, 0, none⟩ = some (.int .i64 a0_0) := (blk_cell BK103.out 0).trans rfl; have hcz11_1 : w10.cell? ⟨gb103, 1, none⟩ = some (.int .i64 a0_1) := (blk_cell BK103.out 1).trans rfl; have hcz11_2 : w10.cell? ⟨gb103, 2, none⟩ = some (.int .i64 a0_2) := (blk_cell BK103.out 2).trans rfl; have hfz11_0 := blk_frozen BK103.out 0; have hfz11_1 := blk_frozen BK103.out 1; have hfz11_2 := blk_frozen BK103.out 2)))
              go_ret
              exact ⟨by first | rfl | (simp [errW_none, errW_some] <;> rfl) | (simp only [← hji7]; first | rfl | (simp [errW_none, errW_some] <;> rfl)) | (simp [*, errW_none, errW_some] <;> rfl), by repeat (first | (with_reducible first | exact HB.out | apply below_alloc | apply pw_below_drewN | apply below_drew1 | refine below_set ?_ GE103.out) | exact HB.out)⟩
            · rw [if_neg c9] at H
              have c9b0 : decide (1 ≤ a0_2) = false := decide_eq_false c9
              clear c9
              obtain rfl := Option.some.inj H
              go_enter Try.func57, Try.ntmps57
              go_wp2_with (first | ((with_reducible refine gate_dst (N := 2) rfl ?_); refine box_event ?hg (N := 2) ?hd (cs := #[.int .i64 a0_0, .int .i64 a0_1, .int .i64 a0_2]) (t := 50) ?hr ?_; (case hd => rfl); (case hg => rfl); (case hr => first | (go_simp; done) | (go_simp; rfl)); intro gb103 hg w12 hbox hb; have n0_ := Aside0.mk (below_step (by repeat (first | (with_reducible first | exact HB.out | apply below_alloc | apply pw_below_drewN | apply below_drew1) | exact HB.out)) hb); have n1_ := Aside0.mk (hbox); have n2_ := Aside0.mk ((by rw [hg]; exact (below_size (by repeat (first | (with_reducible first | exact HB.out | apply below_alloc | apply pw_below_drewN | apply below_drew1) | exact HB.out))) : w.heap.size ≤ gb103)); have n3_ := Aside0.mk ((by rw [hg]; exact (below_size (by repeat (first | (with_reducible first | exact HB.out | apply below_alloc | apply pw_below_drewN | apply below_drew1) | exact HB.out))) : w.heap.size ≤ gb103)); clear HB; have HB := n0_; have BK103 := n1_; have GW103 := n2_; have GE103 := n3_; clear n0_ n1_ n2_ n3_; clear hb hbox hg; have hcz13_0 : w12.cell? ⟨gb103, 0, none⟩ = some (.int .i64 a0_0) := (blk_cell BK103.out 0).trans rfl; have hcz13_1 : w12.cell? ⟨gb103, 1, none⟩ = some (.int .i64 a0_1) := (blk_cell BK103.out 1).trans rfl; have hcz13_2 : w12.cell? ⟨gb103, 2, none⟩ = some (.int .i64 a0_2) := (blk_cell BK103.out 2).trans rfl; have hfz13_0 := blk_frozen BK103.out 0; have hfz13_1 := blk_frozen BK103.out 1; have hfz13_2 := blk_frozen BK103.out 2))
              repeat (go_quiet (first | ((with_reducible refine gate_dst (N := 2) rfl ?_); refine box_event ?hg (N := 2) ?hd (cs := #[.int .i64 a0_0, .int .i64 a0_1, .int .i64 a0_2]) (t := 50) ?hr ?_; (case hd => rfl); (case hg => rfl); (case hr => first | (go_simp; done) | (go_simp; rfl)); intro gb103 hg w12 hbox hb; have n0_ := Aside0.mk (below_step (by repeat (first | (with_reducible first | exact HB.out | apply below_alloc | apply pw_below_drewN | apply below_drew1) | exact HB.out)) hb); have n1_ := Aside0.mk (hbox); have n2_ := Aside0.mk ((by rw [hg]; exact (below_size (by repeat (first | (with_reducible first | exact HB.out | apply below_alloc | apply pw_below_drewN | apply below_drew1) | exact HB.out))) : w.heap.size ≤ gb103)); have n3_ := Aside0.mk ((by rw [hg]; exact (below_size (by repeat (first | (with_reducible first | exact HB.out | apply below_alloc | apply pw_below_drewN | apply below_drew1) | exact HB.out))) : w.heap.size ≤ gb103)); clear HB; have HB := n0_; have BK103 := n1_; have GW103 := n2_; have GE103 := n3_; clear n0_ n1_ n2_ n3_; clear hb hbox hg; have hcz13_0 : w12.cell? ⟨gb103, 0, none⟩ = some (.int .i64 a0_0) := (blk_cell BK103.out 0).trans rfl; have hcz13_1 : w12.cell? ⟨gb103, 1, none⟩ = some (.int .i64 a0_1) := (blk_cell BK103.out 1).trans rfl; have hcz13_2 : w12.cell? ⟨gb103, 2, none⟩ = some (.int .i64 a0_2) := (blk_cell BK103.out 2).trans rfl; have hfz13_0 := blk_frozen BK103.out 0; have hfz13_1 := blk_frozen BK103.out 1; have hfz13_2 := blk_frozen BK103.out 2)); try go_wp2_with (first | ((with_reducible refine gate_dst (N := 2) rfl ?_); refine box_event ?hg (N := 2) ?hd (cs := #[.int .i64 a0_0, .int .i64 a0_1, .int .i64 a0_2]) (t := 50) ?hr ?_; (case hd => rfl); (case hg => rfl); (case hr => first | (go_simp; done) | (go_simp; rfl)); intro gb103 hg w12 hbox hb; have n0_ := Aside0.mk (below_step (by repeat (first | (with_reducible first | exact HB.out | apply below_alloc | apply pw_below_drewN | apply below_drew1) | exact HB.out)) hb); have n1_ := Aside0.mk (hbox); have n2_ := Aside0.mk ((by rw [hg]; exact (below_size (by repeat (first | (with_reducible first | exact HB.out | apply below_alloc | apply pw_below_drewN | apply below_drew1) | exact HB.out))) : w.heap.size ≤ gb103)); have n3_ := Aside0.mk ((by rw [hg]; exact (below_size (by repeat (first | (with_reducible first | exact HB.out | apply below_alloc | apply pw_below_drewN | apply below_drew1) | exact HB.out))) : w.heap.size ≤ gb103)); clear HB; have HB := n0_; have BK103 := n1_; have GW103 := n2_; have GE103 := n3_; clear n0_ n1_ n2_ n3_; clear hb hbox hg; have hcz13_0 : w12.cell? ⟨gb103, 0, none⟩ = some (.int .i64 a0_0) := (blk_cell BK103.out 0).trans rfl; have hcz13_1 : w12.cell? ⟨gb103, 1, none⟩ = some (.int .i64 a0_1) := (blk_cell BK103.out 1).trans rfl; have hcz13_2 : w12.cell? ⟨gb103, 2, none⟩ = some (.int .i64 a0_2) := (blk_cell BK103.out 2).trans rfl; have hfz13_0 := blk_frozen BK103.out 0; have hfz13_1 := blk_frozen BK103.out 1; have hfz13_2 := blk_frozen BK103.out 2)))
              go_ret
              exact ⟨by first | rfl | (simp [errW_none, errW_some] <;> rfl) | (simp only [← hji7]; first | rfl | (simp [errW_none, errW_some] <;> rfl)) | (simp [*, errW_none, errW_some] <;> rfl), by repeat (first | (with_reducible first | exact HB.out | apply below_alloc | apply pw_below_drewN | apply below_drew1 | refine below_set ?_ GE103.out) | exact HB.out)⟩
          · rw [if_neg c8] at H
            have c8b0 : decide (a0_1 < (ji7)) = false := decide_eq_false c8
            clear c8
            obtain rfl := Option.some.inj H
            go_enter Try.func57, Try.ntmps57
            go_wp2_with (first | ((with_reducible refine gate_dst (N := 2) rfl ?_); refine box_event ?hg (N := 2) ?hd (cs := #[.int .i64 a0_0, .int .i64 a0_1, .int .i64 a0_2]) (t := 50) ?hr ?_; (case hd => rfl); (case hg => rfl); (case hr => first | (go_simp; done) | (go_simp; rfl)); intro gb103 hg w14 hbox hb; have n0_ := Aside0.mk (below_step (by repeat (first | (with_reducible first | exact HB.out | apply below_alloc | apply pw_below_drewN | apply below_drew1) | exact HB.out)) hb); have n1_ := Aside0.mk (hbox); have n2_ := Aside0.mk ((by rw [hg]; exact (below_size (by repeat (first | (with_reducible first | exact HB.out | apply below_alloc | apply pw_below_drewN | apply below_drew1) | exact HB.out))) : w.heap.size ≤ gb103)); have n3_ := Aside0.mk ((by rw [hg]; exact (below_size (by repeat (first | (with_reducible first | exact HB.out | apply below_alloc | apply pw_below_drewN | apply below_drew1) | exact HB.out))) : w.heap.size ≤ gb103)); clear HB; have HB := n0_; have BK103 := n1_; have GW103 := n2_; have GE103 := n3_; clear n0_ n1_ n2_ n3_; clear hb hbox hg; have hcz15_0 : w14.cell? ⟨gb103, 0, none⟩ = some (.int .i64 a0_0) := (blk_cell BK103.out 0).trans rfl; have hcz15_1 : w14.cell? ⟨gb103, 1, none⟩ = some (.int .i64 a0_1) := (blk_cell BK103.out 1).trans rfl; have hcz15_2 : w14.cell? ⟨gb103, 2, none⟩ = some (.int .i64 a0_2) := (blk_cell BK103.out 2).trans rfl; have hfz15_0 := blk_frozen BK103.out 0; have hfz15_1 := blk_frozen BK103.out 1; have hfz15_2 := blk_frozen BK103.out 2))
            repeat (go_quiet (first | ((with_reducible refine gate_dst (N := 2) rfl ?_); refine box_event ?hg (N := 2) ?hd (cs := #[.int .i64 a0_0, .int .i64 a0_1, .int .i64 a0_2]) (t := 50) ?hr ?_; (case hd => rfl); (case hg => rfl); (case hr => first | (go_simp; done) | (go_simp; rfl)); intro gb103 hg w14 hbox hb; have n0_ := Aside0.mk (below_step (by repeat (first | (with_reducible first | exact HB.out | apply below_alloc | apply pw_below_drewN | apply below_drew1) | exact HB.out)) hb); have n1_ := Aside0.mk (hbox); have n2_ := Aside0.mk ((by rw [hg]; exact (below_size (by repeat (first | (with_reducible first | exact HB.out | apply below_alloc | apply pw_below_drewN | apply below_drew1) | exact HB.out))) : w.heap.size ≤ gb103)); have n3_ := Aside0.mk ((by rw [hg]; exact (below_size (by repeat (first | (with_reducible first | exact HB.out | apply below_alloc | apply pw_below_drewN | apply below_drew1) | exact HB.out))) : w.heap.size ≤ gb103)); clear HB; have HB := n0_; have BK103 := n1_; have GW103 := n2_; have GE103 := n3_; clear n0_ n1_ n2_ n3_; clear hb hbox hg; have hcz15_0 : w14.cell? ⟨gb103, 0, none⟩ = some (.int .i64 a0_0) := (blk_cell BK103.out 0).trans rfl; have hcz15_1 : w14.cell? ⟨gb103, 1, none⟩ = some (.int .i64 a0_1) := (blk_cell BK103.out 1).trans rfl; have hcz15_2 : w14.cell? ⟨gb103, 2, none⟩ = some (.int .i64 a0_2) := (blk_cell BK103.out 2).trans rfl; have hfz15_0 := blk_frozen BK103.out 0; have hfz15_1 := blk_frozen BK103.out 1; have hfz15_2 := blk_frozen BK103.out 2)); try go_wp2_with (first | ((with_reducible refine gate_dst (N := 2) rfl ?_); refine box_event ?hg (N := 2) ?hd (cs := #[.int .i64 a0_0, .int .i64 a0_1, .int .i64 a0_2]) (t := 50) ?hr ?_; (case hd => rfl); (case hg => rfl); (case hr => first | (go_simp; done) | (go_simp; rfl)); intro gb103 hg w14 hbox hb; have n0_ := Aside0.mk (below_step (by repeat (first | (with_reducible first | exact HB.out | apply below_alloc | apply pw_below_drewN | apply below_drew1) | exact HB.out)) hb); have n1_ := Aside0.mk (hbox); have n2_ := Aside0.mk ((by rw [hg]; exact (below_size (by repeat (first | (with_reducible first | exact HB.out | apply below_alloc | apply pw_below_drewN | apply below_drew1) | exact HB.out))) : w.heap.size ≤ gb103)); have n3_ := Aside0.mk ((by rw [hg]; exact (below_size (by repeat (first | (with_reducible first | exact HB.out | apply below_alloc | apply pw_below_drewN | apply below_drew1) | exact HB.out))) : w.heap.size ≤ gb103)); clear HB; have HB := n0_; have BK103 := n1_; have GW103 := n2_; have GE103 := n3_; clear n0_ n1_ n2_ n3_; clear hb hbox hg; have hcz15_0 : w14.cell? ⟨gb103, 0, none⟩ = some (.int .i64 a0_0) := (blk_cell BK103.out 0).trans rfl; have hcz15_1 : w14.cell? ⟨gb103, 1, none⟩ = some (.int .i64 a0_1) := (blk_cell BK103.out 1).trans rfl; have hcz15_2 : w14.cell? ⟨gb103, 2, none⟩ = some (.int .i64 a0_2) := (blk_cell BK103.out 2).trans rfl; have hfz15_0 := blk_frozen BK103.out 0; have hfz15_1 := blk_frozen BK103.out 1; have hfz15_2 := blk_frozen BK103.out 2)))
            go_ret
            exact ⟨by first | rfl | (simp [errW_none, errW_some] <;> rfl) | (simp only [← hji7]; first | rfl | (simp [errW_none, errW_some] <;> rfl)) | (simp [*, errW_none, errW_some] <;> rfl), by repeat (first | (with_reducible first | exact HB.out | apply below_alloc | apply pw_below_drewN | apply below_drew1 | refine below_set ?_ GE103.out) | exact HB.out)⟩
        · rw [if_neg c6] at H
          exact absurd H (by simp)
      · rw [if_neg c5] at H
        have c5b0 : decide (1 ≤ a0_1) = false := decide_eq_false c5
        clear c5
        obtain rfl := Option.some.inj H
        go_enter Try.func57, Try.ntmps57
        go_wp2_with (first | ((with_reducible refine gate_dst (N := 2) rfl ?_); refine box_event ?hg (N := 2) ?hd (cs := #[.int .i64 a0_0, .int .i64 a0_1, .int .i64 a0_2]) (t := 50) ?hr ?_; (case hd => rfl); (case hg => rfl); (case hr => first | (go_simp; done) | (go_simp; rfl)); intro gb103 hg w16 hbox hb; have n0_ := Aside0.mk (below_step (by repeat (first | (with_reducible first | exact HB.out | apply below_alloc | apply pw_below_drewN | apply below_drew1) | exact HB.out)) hb); have n1_ := Aside0.mk (hbox); have n2_ := Aside0.mk ((by rw [hg]; exact (below_size (by repeat (first | (with_reducible first | exact HB.out | apply below_alloc | apply pw_below_drewN | apply below_drew1) | exact HB.out))) : w.heap.size ≤ gb103)); have n3_ := Aside0.mk ((by rw [hg]; exact (below_size (by repeat (first | (with_reducible first | exact HB.out | apply below_alloc | apply pw_below_drewN | apply below_drew1) | exact HB.out))) : w.heap.size ≤ gb103)); clear HB; have HB := n0_; have BK103 := n1_; have GW103 := n2_; have GE103 := n3_; clear n0_ n1_ n2_ n3_; clear hb hbox hg; have hcz17_0 : w16.cell? ⟨gb103, 0, none⟩ = some (.int .i64 a0_0) := (blk_cell BK103.out 0).trans rfl; have hcz17_1 : w16.cell? ⟨gb103, 1, none⟩ = some (.int .i64 a0_1) := (blk_cell BK103.out 1).trans rfl; have hcz17_2 : w16.cell? ⟨gb103, 2, none⟩ = some (.int .i64 a0_2) := (blk_cell BK103.out 2).trans rfl; have hfz17_0 := blk_frozen BK103.out 0; have hfz17_1 := blk_frozen BK103.out 1; have hfz17_2 := blk_frozen BK103.out 2))
        repeat (go_quiet (first | ((with_reducible refine gate_dst (N := 2) rfl ?_); refine box_event ?hg (N := 2) ?hd (cs := #[.int .i64 a0_0, .int .i64 a0_1, .int .i64 a0_2]) (t := 50) ?hr ?_; (case hd => rfl); (case hg => rfl); (case hr => first | (go_simp; done) | (go_simp; rfl)); intro gb103 hg w16 hbox hb; have n0_ := Aside0.mk (below_step (by repeat (first | (with_reducible first | exact HB.out | apply below_alloc | apply pw_below_drewN | apply below_drew1) | exact HB.out)) hb); have n1_ := Aside0.mk (hbox); have n2_ := Aside0.mk ((by rw [hg]; exact (below_size (by repeat (first | (with_reducible first | exact HB.out | apply below_alloc | apply pw_below_drewN | apply below_drew1) | exact HB.out))) : w.heap.size ≤ gb103)); have n3_ := Aside0.mk ((by rw [hg]; exact (below_size (by repeat (first | (with_reducible first | exact HB.out | apply below_alloc | apply pw_below_drewN | apply below_drew1) | exact HB.out))) : w.heap.size ≤ gb103)); clear HB; have HB := n0_; have BK103 := n1_; have GW103 := n2_; have GE103 := n3_; clear n0_ n1_ n2_ n3_; clear hb hbox hg; have hcz17_0 : w16.cell? ⟨gb103, 0, none⟩ = some (.int .i64 a0_0) := (blk_cell BK103.out 0).trans rfl; have hcz17_1 : w16.cell? ⟨gb103, 1, none⟩ = some (.int .i64 a0_1) := (blk_cell BK103.out 1).trans rfl; have hcz17_2 : w16.cell? ⟨gb103, 2, none⟩ = some (.int .i64 a0_2) := (blk_cell BK103.out 2).trans rfl; have hfz17_0 := blk_frozen BK103.out 0; have hfz17_1 := blk_frozen BK103.out 1; have hfz17_2 := blk_frozen BK103.out 2)); try go_wp2_with (first | ((with_reducible refine gate_dst (N := 2) rfl ?_); refine box_event ?hg (N := 2) ?hd (cs := #[.int .i64 a0_0, .int .i64 a0_1, .int .i64 a0_2]) (t := 50) ?hr ?_; (case hd => rfl); (case hg => rfl); (case hr => first | (go_simp; done) | (go_simp; rfl)); intro gb103 hg w16 hbox hb; have n0_ := Aside0.mk (below_step (by repeat (first | (with_reducible first | exact HB.out | apply below_alloc | apply pw_below_drewN | apply below_drew1) | exact HB.out)) hb); have n1_ := Aside0.mk (hbox); have n2_ := Aside0.mk ((by rw [hg]; exact (below_size (by repeat (first | (with_reducible first | exact HB.out | apply below_alloc | apply pw_below_drewN | apply below_drew1) | exact HB.out))) : w.heap.size ≤ gb103)); have n3_ := Aside0.mk ((by rw [hg]; exact (below_size (by repeat (first | (with_reducible first | exact HB.out | apply below_alloc | apply pw_below_drewN | apply below_drew1) | exact HB.out))) : w.heap.size ≤ gb103)); clear HB; have HB := n0_; have BK103 := n1_; have GW103 := n2_; have GE103 := n3_; clear n0_ n1_ n2_ n3_; clear hb hbox hg; have hcz17_0 : w16.cell? ⟨gb103, 0, none⟩ = some (.int .i64 a0_0) := (blk_cell BK103.out 0).trans rfl; have hcz17_1 : w16.cell? ⟨gb103, 1, none⟩ = some (.int .i64 a0_1) := (blk_cell BK103.out 1).trans rfl; have hcz17_2 : w16.cell? ⟨gb103, 2, none⟩ = some (.int .i64 a0_2) := (blk_cell BK103.out 2).trans rfl; have hfz17_0 := blk_frozen BK103.out 0; have hfz17_1 := blk_frozen BK103.out 1; have hfz17_2 := blk_frozen BK103.out 2)))
        go_ret
        exact ⟨by first | rfl | (simp [errW_none, errW_some] <;> rfl) | (simp [*, errW_none, errW_some] <;> rfl), by repeat (first | (with_reducible first | exact HB.out | apply below_alloc | apply pw_below_drewN | apply below_drew1 | refine below_set ?_ GE103.out) | exact HB.out)⟩
    · rw [if_neg c4] at H
      have c4b0 : decide (a0_0 ≤ 7) = false := decide_eq_false c4
      clear c4
      obtain rfl := Option.some.inj H
      go_enter Try.func57, Try.ntmps57
      go_wp2_with (first | ((with_reducible refine gate_dst (N := 2) rfl ?_); refine box_event ?hg (N := 2) ?hd (cs := #[.int .i64 a0_0, .int .i64 a0_1, .int .i64 a0_2]) (t := 50) ?hr ?_; (case hd => rfl); (case hg => rfl); (case hr => first | (go_simp; done) | (go_simp; rfl)); intro gb103 hg w18 hbox hb; have n0_ := Aside0.mk (below_step (by repeat (first | (with_reducible first | exact HB.out | apply below_alloc | apply pw_below_drewN | apply below_drew1) | exact HB.out)) hb); have n1_ := Aside0.mk (hbox); have n2_ := Aside0.mk ((by rw [hg]; exact (below_size (by repeat (first | (with_reducible first | exact HB.out | apply below_alloc | apply pw_below_drewN | apply below_drew1) | exact HB.out))) : w.heap.size ≤ gb103)); have n3_ := Aside0.mk ((by rw [hg]; exact (below_size (by repeat (first | (with_reducible first | exact HB.out | apply below_alloc | apply pw_below_drewN | apply below_drew1) | exact HB.out))) : w.heap.size ≤ gb103)); clear HB; have HB := n0_; have BK103 := n1_; have GW103 := n2_; have GE103 := n3_; clear n0_ n1_ n2_ n3_; clear hb hbox hg; have hcz19_0 : w18.cell? ⟨gb103, 0, none⟩ = some (.int .i64 a0_0) := (blk_cell BK103.out 0).trans rfl; have hcz19_1 : w18.cell? ⟨gb103, 1, none⟩ = some (.int .i64 a0_1) := (blk_cell BK103.out 1).trans rfl; have hcz19_2 : w18.cell? ⟨gb103, 2, none⟩ = some (.int .i64 a0_2) := (blk_cell BK103.out 2).trans rfl; have hfz19_0 := blk_frozen BK103.out 0; have hfz19_1 := blk_frozen BK103.out 1; have hfz19_2 := blk_frozen BK103.out 2))
      repeat (go_quiet (first | ((with_reducible refine gate_dst (N := 2) rfl ?_); refine box_event ?hg (N := 2) ?hd (cs := #[.int .i64 a0_0, .int .i64 a0_1, .int .i64 a0_2]) (t := 50) ?hr ?_; (case hd => rfl); (case hg => rfl); (case hr => first | (go_simp; done) | (go_simp; rfl)); intro gb103 hg w18 hbox hb; have n0_ := Aside0.mk (below_step (by repeat (first | (with_reducible first | exact HB.out | apply below_alloc | apply pw_below_drewN | apply below_drew1) | exact HB.out)) hb); have n1_ := Aside0.mk (hbox); have n2_ := Aside0.mk ((by rw [hg]; exact (below_size (by repeat (first | (with_reducible first | exact HB.out | apply below_alloc | apply pw_below_drewN | apply below_drew1) | exact HB.out))) : w.heap.size ≤ gb103)); have n3_ := Aside0.mk ((by rw [hg]; exact (below_size (by repeat (first | (with_reducible first | exact HB.out | apply below_alloc | apply pw_below_drewN | apply below_drew1) | exact HB.out))) : w.heap.size ≤ gb103)); clear HB; have HB := n0_; have BK103 := n1_; have GW103 := n2_; have GE103 := n3_; clear n0_ n1_ n2_ n3_; clear hb hbox hg; have hcz19_0 : w18.cell? ⟨gb103, 0, none⟩ = some (.int .i64 a0_0) := (blk_cell BK103.out 0).trans rfl; have hcz19_1 : w18.cell? ⟨gb103, 1, none⟩ = some (.int .i64 a0_1) := (blk_cell BK103.out 1).trans rfl; have hcz19_2 : w18.cell? ⟨gb103, 2, none⟩ = some (.int .i64 a0_2) := (blk_cell BK103.out 2).trans rfl; have hfz19_0 := blk_frozen BK103.out 0; have hfz19_1 := blk_frozen BK103.out 1; have hfz19_2 := blk_frozen BK103.out 2)); try go_wp2_with (first | ((with_reducible refine gate_dst (N := 2) rfl ?_); refine box_event ?hg (N := 2) ?hd (cs := #[.int .i64 a0_0, .int .i64 a0_1, .int .i64 a0_2]) (t := 50) ?hr ?_; (case hd => rfl); (case hg => rfl); (case hr => first | (go_simp; done) | (go_simp; rfl)); intro gb103 hg w18 hbox hb; have n0_ := Aside0.mk (below_step (by repeat (first | (with_reducible first | exact HB.out | apply below_alloc | apply pw_below_drewN | apply below_drew1) | exact HB.out)) hb); have n1_ := Aside0.mk (hbox); have n2_ := Aside0.mk ((by rw [hg]; exact (below_size (by repeat (first | (with_reducible first | exact HB.out | apply below_alloc | apply pw_below_drewN | apply below_drew1) | exact HB.out))) : w.heap.size ≤ gb103)); have n3_ := Aside0.mk ((by rw [hg]; exact (below_size (by repeat (first | (with_reducible first | exact HB.out | apply below_alloc | apply pw_below_drewN | apply below_drew1) | exact HB.out))) : w.heap.size ≤ gb103)); clear HB; have HB := n0_; have BK103 := n1_; have GW103 := n2_; have GE103 := n3_; clear n0_ n1_ n2_ n3_; clear hb hbox hg; have hcz19_0 : w18.cell? ⟨gb103, 0, none⟩ = some (.int .i64 a0_0) := (blk_cell BK103.out 0).trans rfl; have hcz19_1 : w18.cell? ⟨gb103, 1, none⟩ = some (.int .i64 a0_1) := (blk_cell BK103.out 1).trans rfl; have hcz19_2 : w18.cell? ⟨gb103, 2, none⟩ = some (.int .i64 a0_2) := (blk_cell BK103.out 2).trans rfl; have hfz19_0 := blk_frozen BK103.out 0; have hfz19_1 := blk_frozen BK103.out 1; have hfz19_2 := blk_frozen BK103.out 2)))
      go_ret
      exact ⟨by first | rfl | (simp [errW_none, errW_some] <;> rfl) | (simp [*, errW_none, errW_some] <;> rfl), by repeat (first | (with_reducible first | exact HB.out | apply below_alloc | apply pw_below_drewN | apply below_drew1 | refine below_set ?_ GE103.out) | exact HB.out)⟩
  · rw [if_neg c3] at H
    have c3b0 : decide (0 ≤ a0_0) = false := decide_eq_false c3
    clear c3
    obtain rfl := Option.some.inj H
    go_enter Try.func57, Try.ntmps57
    go_wp2_with (first | ((with_reducible refine gate_dst (N := 2) rfl ?_); refine box_event ?hg (N := 2) ?hd (cs := #[.int .i64 a0_0, .int .i64 a0_1, .int .i64 a0_2]) (t := 50) ?hr ?_; (case hd => rfl); (case hg => rfl); (case hr => first | (go_simp; done) | (go_simp; rfl)); intro gb103 hg w20 hbox hb; have n0_ := Aside0.mk (below_step (by repeat (first | (with_reducible first | exact HB.out | apply below_alloc | apply pw_below_drewN | apply below_drew1) | exact HB.out)) hb); have n1_ := Aside0.mk (hbox); have n2_ := Aside0.mk ((by rw [hg]; exact (below_size (by repeat (first | (with_reducible first | exact HB.out | apply below_alloc | apply pw_below_drewN | apply below_drew1) | exact HB.out))) : w.heap.size ≤ gb103)); have n3_ := Aside0.mk ((by rw [hg]; exact (below_size (by repeat (first | (with_reducible first | exact HB.out | apply below_alloc | apply pw_below_drewN | apply below_drew1) | exact HB.out))) : w.heap.size ≤ gb103)); clear HB; have HB := n0_; have BK103 := n1_; have GW103 := n2_; have GE103 := n3_; clear n0_ n1_ n2_ n3_; clear hb hbox hg; have hcz21_0 : w20.cell? ⟨gb103, 0, none⟩ = some (.int .i64 a0_0) := (blk_cell BK103.out 0).trans rfl; have hcz21_1 : w20.cell? ⟨gb103, 1, none⟩ = some (.int .i64 a0_1) := (blk_cell BK103.out 1).trans rfl; have hcz21_2 : w20.cell? ⟨gb103, 2, none⟩ = some (.int .i64 a0_2) := (blk_cell BK103.out 2).trans rfl; have hfz21_0 := blk_frozen BK103.out 0; have hfz21_1 := blk_frozen BK103.out 1; have hfz21_2 := blk_frozen BK103.out 2))
    repeat (go_quiet (first | ((with_reducible refine gate_dst (N := 2) rfl ?_); refine box_event ?hg (N := 2) ?hd (cs := #[.int .i64 a0_0, .int .i64 a0_1, .int .i64 a0_2]) (t := 50) ?hr ?_; (case hd => rfl); (case hg => rfl); (case hr => first | (go_simp; done) | (go_simp; rfl)); intro gb103 hg w20 hbox hb; have n0_ := Aside0.mk (below_step (by repeat (first | (with_reducible first | exact HB.out | apply below_alloc | apply pw_below_drewN | apply below_drew1) | exact HB.out)) hb); have n1_ := Aside0.mk (hbox); have n2_ := Aside0.mk ((by rw [hg]; exact (below_size (by repeat (first | (with_reducible first | exact HB.out | apply below_alloc | apply pw_below_drewN | apply below_drew1) | exact HB.out))) : w.heap.size ≤ gb103)); have n3_ := Aside0.mk ((by rw [hg]; exact (below_size (by repeat (first | (with_reducible first | exact HB.out | apply below_alloc | apply pw_below_drewN | apply below_drew1) | exact HB.out))) : w.heap.size ≤ gb103)); clear HB; have HB := n0_; have BK103 := n1_; have GW103 := n2_; have GE103 := n3_; clear n0_ n1_ n2_ n3_; clear hb hbox hg; have hcz21_0 : w20.cell? ⟨gb103, 0, none⟩ = some (.int .i64 a0_0) := (blk_cell BK103.out 0).trans rfl; have hcz21_1 : w20.cell? ⟨gb103, 1, none⟩ = some (.int .i64 a0_1) := (blk_cell BK103.out 1).trans rfl; have hcz21_2 : w20.cell? ⟨gb103, 2, none⟩ = some (.int .i64 a0_2) := (blk_cell BK103.out 2).trans rfl; have hfz21_0 := blk_frozen BK103.out 0; have hfz21_1 := blk_frozen BK103.out 1; have hfz21_2 := blk_frozen BK103.out 2)); try go_wp2_with (first | ((with_reducible refine gate_dst (N := 2) rfl ?_); refine box_event ?hg (N := 2) ?hd (cs := #[.int .i64 a0_0, .int .i64 a0_1, .int .i64 a0_2]) (t := 50) ?hr ?_; (case hd => rfl); (case hg => rfl); (case hr => first | (go_simp; done) | (go_simp; rfl)); intro gb103 hg w20 hbox hb; have n0_ := Aside0.mk (below_step (by repeat (first | (with_reducible first | exact HB.out | apply below_alloc | apply pw_below_drewN | apply below_drew1) | exact HB.out)) hb); have n1_ := Aside0.mk (hbox); have n2_ := Aside0.mk ((by rw [hg]; exact (below_size (by repeat (first | (with_reducible first | exact HB.out | apply below_alloc | apply pw_below_drewN | apply below_drew1) | exact HB.out))) : w.heap.size ≤ gb103)); have n3_ := Aside0.mk ((by rw [hg]; exact (below_size (by repeat (first | (with_reducible first | exact HB.out | apply below_alloc | apply pw_below_drewN | apply below_drew1) | exact HB.out))) : w.heap.size ≤ gb103)); clear HB; have HB := n0_; have BK103 := n1_; have GW103 := n2_; have GE103 := n3_; clear n0_ n1_ n2_ n3_; clear hb hbox hg; have hcz21_0 : w20.cell? ⟨gb103, 0, none⟩ = some (.int .i64 a0_0) := (blk_cell BK103.out 0).trans rfl; have hcz21_1 : w20.cell? ⟨gb103, 1, none⟩ = some (.int .i64 a0_1) := (blk_cell BK103.out 1).trans rfl; have hcz21_2 : w20.cell? ⟨gb103, 2, none⟩ = some (.int .i64 a0_2) := (blk_cell BK103.out 2).trans rfl; have hfz21_0 := blk_frozen BK103.out 0; have hfz21_1 := blk_frozen BK103.out 1; have hfz21_2 := blk_frozen BK103.out 2)))
    go_ret
    exact ⟨by first | rfl | (simp [errW_none, errW_some] <;> rfl) | (simp [*, errW_none, errW_some] <;> rfl), by repeat (first | (with_reducible first | exact HB.out | apply below_alloc | apply pw_below_drewN | apply below_drew1 | refine below_set ?_ GE103.out) | exact HB.out)⟩
mutual
def tender_checked.j0 : Nat → Int → List (S50) → Bool → Option (Int)
  | 0, _, _, _ => none
  | k + 1, x0, x1, x12 => if x12 = true then (some 2) else (if (x1.length : Int) > 16 then (some 3) else (tender_checked.l0 k x0 x1 (x1.length : Int) 0))
def tender_checked.l0 : Nat → Int → List (S50) → Int → Int → Option (Int)
  | 0, _, _, _, _ => none
  | k + 1, x0, x16, x17, x18 => if x18 < x17 then (if 0 ≤ x18 then (if x18 < (x16.length : Int) then ((tender_valid.f ((rd_T50 x16 x18).f0) ((rd_T50 x16 x18).f1) ((rd_T50 x16 x18).f2) x0).bind fun t106 => (if t106 = true then (tender_checked.l0 k x0 x16 x17 (wrap64 (x18 + 1))) else (some 2))) else (none)) else (none)) else (some 0)
end
def tender_checked.f (k : Nat) (a0 : Int) (l1 : List (S50)) : Option (Int) := if a0 < 1 then (tender_checked.j0 k a0 l1 true) else (tender_checked.j0 k a0 l1 (decide (a0 > 12)))
theorem tender_checked.mono_l : ∀ k, (∀ y0 y1 y2, LeO (tender_checked.j0 k y0 y1 y2) (tender_checked.j0 (k + 1) y0 y1 y2)) ∧ (∀ y0 y1 y2 y3, LeO (tender_checked.l0 k y0 y1 y2 y3) (tender_checked.l0 (k + 1) y0 y1 y2 y3))
  | 0 => ⟨fun _ _ _ r h => by simp [tender_checked.j0] at h, fun _ _ _ _ r h => by simp [tender_checked.l0] at h⟩
  | k + 1 => by
    obtain ⟨ih0, ih1⟩ := tender_checked.mono_l k
    refine ⟨?_, ?_⟩
    · intro y0 y1 y2
      unfold tender_checked.j0
      repeat' first
      | (with_reducible exact ih0 _ _ _)
      | (with_reducible exact ih1 _ _ _ _)
      | (with_reducible exact LeO.refl _)
      | (with_reducible exact LeO.none _)
      | (with_reducible refine LeO.ite ?_ ?_)
      | (with_reducible refine LeO.bind ?_ (fun _ => ?_))
      | exact ih0 _ _ _
      | exact ih1 _ _ _ _
      | exact LeO.none _
      | refine LeO.ite ?_ ?_
      | refine LeO.bind ?_ (fun _ => ?_)
    · intro y0 y1 y2 y3
      unfold tender_checked.l0
      repeat' first
      | (with_reducible exact ih0 _ _ _)
      | (with_reducible exact ih1 _ _ _ _)
      | (with_reducible exact LeO.refl _)
      | (with_reducible exact LeO.none _)
      | (with_reducible refine LeO.ite ?_ ?_)
      | (with_reducible refine LeO.bind ?_ (fun _ => ?_))
      | exact ih0 _ _ _
      | exact ih1 _ _ _ _
      | exact LeO.none _
      | refine LeO.ite ?_ ?_
      | refine LeO.bind ?_ (fun _ => ?_)
theorem tender_checked.mono : ∀ a0 a1 k, LeO (tender_checked.f k a0 a1) (tender_checked.f (k + 1) a0 a1) := by
  intro a0 a1 k
  obtain ⟨ih0, ih1⟩ := tender_checked.mono_l k
  unfold tender_checked.f
  repeat' first
      | (with_reducible exact ih0 _ _ _)
      | (with_reducible exact ih1 _ _ _ _)
      | (with_reducible exact LeO.refl _)
      | (with_reducible exact LeO.none _)
      | (with_reducible refine LeO.ite ?_ ?_)
      | (with_reducible refine LeO.bind ?_ (fun _ => ?_))
      | exact ih0 _ _ _
      | exact ih1 _ _ _ _
      | exact LeO.none _
      | refine LeO.ite ?_ ?_
      | refine LeO.bind ?_ (fun _ => ?_)
set_option maxHeartbeats 8000000 in
set_option maxRecDepth 100000 in
theorem tender_checked.calls (k : Nat) (a0 : Int) (A1 : Option Addr) (c1 : Nat) (l1 : List (S50)) (r : Int) (w : World) (hr1 : Kd.C k50 w A1 l1.length l1) (hc1 : l1.length ≤ c1) (h : tender_checked.f k a0 l1 = some r) :
    Calls Try.prog 49 #[.int .i64 a0, .slice A1 l1.length c1] w fun e w' => e = .returned (.int .i64 r) ∧ Below w.heap.size w w' := by
  have hu50 := Try.underlying50
  have HR1 := Aside0.mk hr1
  have HC1 := Aside0.mk hc1
  clear hr1 hc1
  have HB := Aside0.mk (Below.refl w.heap.size w)
  have H : (if a0 < 1 then (tender_checked.j0 k a0 l1 true) else (tender_checked.j0 k a0 l1 (decide (a0 > 12)))) = some r := h
  clear h
  have HC3 := Aside0.mk H
  clear H
  go_enter Try.func49, Try.ntmps49
  go_upto_region 1 with (fail)
  go_cut [12] (fun v12 wc => ∃ (kq : Nat) (x12_2 : Bool), v12 = .bool x12_2 ∧ Aside0 (tender_checked.j0 kq a0 l1 x12_2 = some r) ∧ Aside0 (kq ≤ k) ∧ Aside0 (Below w.heap.size w wc))
  case first =>
    have H := HC3.out
    clear HC3
    by_cases c4 : a0 < 1
    · rw [if_pos c4] at H
      have c4b0 : decide (a0 < 1) = true := decide_eq_true c4
      clear c4
      (first | rw [c4b0] | (simp only [i64_w, i32_w]; rw [c4b0]) | skip)
      have H' := Aside0.mk H
      clear H
      go_wp2
      go_meet
      case rel => exact ⟨_, (true), (by first | rfl | (simp; done) | (simp [*]; done)), H', ⟨by first | omega | exact Nat.le_refl _⟩, ⟨by repeat (first | (with_reducible first | exact HB.out | apply below_alloc | apply pw_below_drewN | apply below_drew1) | exact HB.out)⟩⟩
    · rw [if_neg c4] at H
      have c4b0 : decide (a0 < 1) = false := decide_eq_false c4
      clear c4
      (first | rw [c4b0] | (simp only [i64_w, i32_w]; rw [c4b0]) | skip)
      have H' := Aside0.mk H
      clear H
      go_wp2
      go_meet
      case rel => exact ⟨_, (decide (a0 > 12)), (by first | rfl | (simp; done) | (simp [*]; done)), H', ⟨by first | omega | exact Nat.le_refl _⟩, ⟨by repeat (first | (with_reducible first | exact HB.out | apply below_alloc | apply pw_below_drewN | apply below_drew1) | exact HB.out)⟩⟩
  case rest =>
    clear HC3
    try clear c1
    try clear p2
    try clear c4
    try clear c4b0
    obtain ⟨kq, x12_2, rfl, HA, HJ2, HB⟩ := hcut
    cases kq with
    | zero => exact absurd HA.out (by simp [tender_checked.j0])
    | succ kj2 =>
      have H := HA.out
      clear HA
      simp only [tender_checked.j0] at H
      by_cases c5 : x12_2 = true
      · subst c5
        have H1 : (some 2) = some r := by rw [if_pos rfl] at H; exact H
        clear H
        have H := H1
        clear H1
        obtain rfl := Option.some.inj H
        go_wp2
        go_ret
        exact ⟨by first | rfl | (simp [errW_none, errW_some] <;> rfl) | (simp [*, errW_none, errW_some] <;> rfl), by repeat (first | (with_reducible first | exact HB.out | apply below_alloc | apply pw_below_drewN | apply below_drew1) | exact HB.out)⟩
      · replace c5 := Bool.eq_false_iff.mpr c5
        subst c5
        have H1 : (if (l1.length : Int) > 16 then (some 3) else (tender_checked.l0 kj2 a0 l1 (l1.length : Int) 0)) = some r := by rw [if_neg (show ¬ (false = true) by decide)] at H; exact H
        clear H
        have H := H1
        clear H1
        by_cases c6 : (l1.length : Int) > 16
        · rw [if_pos c6] at H
          have c6b0 : decide (16 < (l1.length : Int)) = true := decide_eq_true c6
          have c6b1 : decide (16 < l1.length) = true := decide_eq_true (by omega)
          clear c6
          obtain rfl := Option.some.inj H
          go_wp2
          go_ret
          exact ⟨by first | rfl | (simp [errW_none, errW_some] <;> rfl) | (simp [*, errW_none, errW_some] <;> rfl), by repeat (first | (with_reducible first | exact HB.out | apply below_alloc | apply pw_below_drewN | apply below_drew1) | exact HB.out)⟩
        · rw [if_neg c6] at H
          have c6b0 : decide (16 < (l1.length : Int)) = false := decide_eq_false c6
          have c6b1 : decide (16 < l1.length) = false := decide_eq_false (by omega)
          clear c6
          have H' := Aside0.mk H
          clear H
          go_wp2
          go_loopg [18] kj2 (fun kq v18 w' => ∃ (x18_2 : Int), v18 = .int .i64 x18_2 ∧ Aside0 (tender_checked.l0 kq a0 l1 (l1.length : Int) x18_2 = some r) ∧ Aside0 (kq ≤ kj2) ∧ Aside0 (Below w.heap.size w w'))
          case atStart => exact ⟨(0), (by first | rfl | (simp; done) | (simp [*]; done)), H', ⟨Nat.le_refl _⟩, ⟨by repeat (first | (with_reducible first | exact HB.out | apply below_alloc | apply pw_below_drewN | apply below_drew1) | exact HB.out)⟩⟩
          case round =>
            clear H'
            try clear c1
            try clear p2
            try clear c4
            try clear c4b0
            try clear c5
            try clear c6
            try clear c6b0
            try clear c6b1
            try clear p2
            obtain ⟨x18_2, rfl, HA, HK2, HB⟩ := hrel
            cases gk with
            | zero => exact absurd HA.out (by simp [tender_checked.l0])
            | succ k2 =>
              have H := HA.out
              clear HA
              simp only [tender_checked.l0] at H
              by_cases c7 : x18_2 < (l1.length : Int)
              · rw [if_pos c7] at H
                have c7b0 : decide (x18_2 < (l1.length : Int)) = true := decide_eq_true c7
                clear c7
                by_cases c8 : 0 ≤ x18_2
                · rw [if_pos c8] at H
                  have c8b0 : decide (0 ≤ x18_2) = true := decide_eq_true c8
                  clear c8
                  by_cases c9 : x18_2 < (l1.length : Int)
                  · rw [if_pos c9] at H
                    have c9b0 : decide (x18_2 < (l1.length : Int)) = true := decide_eq_true c9
                    clear c9
                    replace H := Option.bind_eq_some_iff.mp H
                    obtain ⟨t106, A100, H⟩ := H
                    replace H : (if t106 = true then (tender_checked.l0 k2 a0 l1 (l1.length : Int) (wrap64 (x18_2 + 1))) else (some 2)) = some r := H
                    have A10 := Aside0.mk A100
                    clear A100
                    by_cases c11 : t106 = true
                    · subst c11
                      have H1 : (tender_checked.l0 k2 a0 l1 (l1.length : Int) (wrap64 (x18_2 + 1))) = some r := by rw [if_pos rfl] at H; exact H
                      clear H
                      have H := H1
                      clear H1
                      have H' := Aside0.mk H
                      clear H
                      have p104 : 0 ≤ (x18_2 : Int) := of_decide_eq_true (by first | (with_reducible assumption) | assumption)
                      have q104 : x18_2 < (l1.length : Int) := of_decide_eq_true (by first | (with_reducible assumption) | assumption)
                      obtain ⟨ad104, e104, hx104_0, hx104_1, hx104_2⟩ := at_T50 HR1.out x18_2 p104 q104
                      cases e104
                      replace hx104_0 := (HB.out.cell (World.block_lt_of_cell? w _ hx104_0)).trans hx104_0
                      replace hx104_1 := (HB.out.cell (World.block_lt_of_cell? w _ hx104_1)).trans hx104_1
                      replace hx104_2 := (HB.out.cell (World.block_lt_of_cell? w _ hx104_2)).trans hx104_2
                      replace p104 := eq_true p104
                      replace q104 := eq_true q104
                      go_wp2_with (first | ((with_reducible refine gate_dst (N := 6) rfl ?_); refine box_event ?hg (N := 6) ?hd (cs := #[.int .i64 0, .int .i64 0, .int .i64 0]) (t := 50) ?hr ?_; (case hd => rfl); (case hg => rfl); (case hr => first | (go_simp; done) | (go_simp; rfl)); intro gb105 hg w12 hbox hb; have n0_ := Aside0.mk (below_step (by repeat (first | (with_reducible first | exact HB.out | apply below_alloc | apply pw_below_drewN | apply below_drew1) | exact HB.out)) hb); have n1_ := Aside0.mk (hbox); have n2_ := Aside0.mk ((by rw [hg]; exact (below_size (by repeat (first | (with_reducible first | exact HB.out | apply below_alloc | apply pw_below_drewN | apply below_drew1) | exact HB.out))) : w.heap.size ≤ gb105)); have n3_ := Aside0.mk ((by rw [hg]; exact (below_size (by repeat (first | (with_reducible first | exact HB.out | apply below_alloc | apply pw_below_drewN | apply below_drew1) | exact HB.out))) : w.heap.size ≤ gb105)); clear HB; have HB := n0_; have BK105 := n1_; have GW105 := n2_; have GE105 := n3_; clear n0_ n1_ n2_ n3_; clear hb hbox hg; have hcz13_0 : w12.cell? ⟨gb105, 0, none⟩ = some (.int .i64 0) := (blk_cell BK105.out 0).trans rfl; have hcz13_1 : w12.cell? ⟨gb105, 1, none⟩ = some (.int .i64 0) := (blk_cell BK105.out 1).trans rfl; have hcz13_2 : w12.cell? ⟨gb105, 2, none⟩ = some (.int .i64 0) := (blk_cell BK105.out 2).trans rfl; have hfz13_0 := blk_frozen BK105.out 0; have hfz13_1 := blk_frozen BK105.out 1; have hfz13_2 := blk_frozen BK105.out 2) | ((with_reducible refine gate_callee (f := 57) rfl ?_); refine goesL_ (some 24) rfl rfl Try.func57 (by kernel_rfl) rfl #[.agg #[.int .i64 ((rd_T50 l1 x18_2).f0), .int .i64 ((rd_T50 l1 x18_2).f1), .int .i64 ((rd_T50 l1 x18_2).f2)], .int .i64 a0] rfl (by (try simp only [List.map_toArray, List.map_cons, List.map_nil]); first | done | rfl | (simp only [List.length_drop, List.length_take]; rfl)) ?_; (with_reducible refine (tender_valid.calls ((rd_T50 l1 x18_2).f0) ((rd_T50 l1 x18_2).f1) ((rd_T50 l1 x18_2).f2) a0 true _ A10.out).mono ?_); rintro e w14 ⟨rfl, hb⟩; refine ⟨_, rfl, ?_⟩; have n0_ := Aside0.mk (blk_below (g := gb105) (o := .cells #[.int .i64 ((rd_T50 l1 x18_2).f0), .int .i64 ((rd_T50 l1 x18_2).f1), .int .i64 ((rd_T50 l1 x18_2).f2)] 50 (0, 0)) (by (with_reducible repeat (first | refine blk_drewN ?_ _ | refine blk_drew ?_ | refine blk_alloc ?_ _)); refine blk_put (cs := #[.int .i64 ((rd_T50 l1 x18_2).f0), .int .i64 ((rd_T50 l1 x18_2).f1), .int .i64 0]) ?_ 2 _ rfl; (with_reducible repeat (first | refine blk_drewN ?_ _ | refine blk_drew ?_ | refine blk_alloc ?_ _)); refine blk_put (cs := #[.int .i64 ((rd_T50 l1 x18_2).f0), .int .i64 0, .int .i64 0]) ?_ 1 _ rfl; (with_reducible repeat (first | refine blk_drewN ?_ _ | refine blk_drew ?_ | refine blk_alloc ?_ _)); refine blk_put (cs := #[.int .i64 0, .int .i64 0, .int .i64 0]) ?_ 0 _ rfl; (with_reducible repeat (first | refine blk_drewN ?_ _ | refine blk_drew ?_ | refine blk_alloc ?_ _)); exact BK105.out) hb); have n1_ := Aside0.mk (below_step (by repeat (first | (with_reducible first | exact HB.out | apply below_alloc | apply pw_below_drewN | apply below_drew1 | refine below_set ?_ GE105.out) | exact HB.out)) hb); clear BK105; clear HB; have BK105 := n0_; have HB := n1_; clear n0_ n1_; (try clear hb); (try clear hb2); (try clear hk); (try clear hi)))
                      go_roundg k2
                      case measure => have := HJ2.out; have := HK2.out; omega
                      case rel => exact ⟨(wrap64 (x18_2 + 1)), (by first | rfl | (simp; done) | (simp [*]; done)), H', ⟨by have := HJ2.out; have := HK2.out; omega⟩, ⟨by repeat (first | (with_reducible first | exact HB.out | apply below_alloc | apply pw_below_drewN | apply below_drew1 | refine below_set ?_ GE105.out) | exact HB.out)⟩⟩
                    · replace c11 := Bool.eq_false_iff.mpr c11
                      subst c11
                      have H1 : (some 2) = some r := by rw [if_neg (show ¬ (false = true) by decide)] at H; exact H
                      clear H
                      have H := H1
                      clear H1
                      obtain rfl := Option.some.inj H
                      have p104 : 0 ≤ (x18_2 : Int) := of_decide_eq_true (by first | (with_reducible assumption) | assumption)
                      have q104 : x18_2 < (l1.length : Int) := of_decide_eq_true (by first | (with_reducible assumption) | assumption)
                      obtain ⟨ad104, e104, hx104_0, hx104_1, hx104_2⟩ := at_T50 HR1.out x18_2 p104 q104
                      cases e104
                      replace hx104_0 := (HB.out.cell (World.block_lt_of_cell? w _ hx104_0)).trans hx104_0
                      replace hx104_1 := (HB.out.cell (World.block_lt_of_cell? w _ hx104_1)).trans hx104_1
                      replace hx104_2 := (HB.out.cell (World.block_lt_of_cell? w _ hx104_2)).trans hx104_2
                      replace p104 := eq_true p104
                      replace q104 := eq_true q104
                      go_wp2_with (first | ((with_reducible refine gate_dst (N := 6) rfl ?_); refine box_event ?hg (N := 6) ?hd (cs := #[.int .i64 0, .int .i64 0, .int .i64 0]) (t := 50) ?hr ?_; (case hd => rfl); (case hg => rfl); (case hr => first | (go_simp; done) | (go_simp; rfl)); intro gb105 hg w15 hbox hb; have n0_ := Aside0.mk (below_step (by repeat (first | (with_reducible first | exact HB.out | apply below_alloc | apply pw_below_drewN | apply below_drew1) | exact HB.out)) hb); have n1_ := Aside0.mk (hbox); have n2_ := Aside0.mk ((by rw [hg]; exact (below_size (by repeat (first | (with_reducible first | exact HB.out | apply below_alloc | apply pw_below_drewN | apply below_drew1) | exact HB.out))) : w.heap.size ≤ gb105)); have n3_ := Aside0.mk ((by rw [hg]; exact (below_size (by repeat (first | (with_reducible first | exact HB.out | apply below_alloc | apply pw_below_drewN | apply below_drew1) | exact HB.out))) : w.heap.size ≤ gb105)); clear HB; have HB := n0_; have BK105 := n1_; have GW105 := n2_; have GE105 := n3_; clear n0_ n1_ n2_ n3_; clear hb hbox hg; have hcz16_0 : w15.cell? ⟨gb105, 0, none⟩ = some (.int .i64 0) := (blk_cell BK105.out 0).trans rfl; have hcz16_1 : w15.cell? ⟨gb105, 1, none⟩ = some (.int .i64 0) := (blk_cell BK105.out 1).trans rfl; have hcz16_2 : w15.cell? ⟨gb105, 2, none⟩ = some (.int .i64 0) := (blk_cell BK105.out 2).trans rfl; have hfz16_0 := blk_frozen BK105.out 0; have hfz16_1 := blk_frozen BK105.out 1; have hfz16_2 := blk_frozen BK105.out 2) | ((with_reducible refine gate_callee (f := 57) rfl ?_); refine goesL_ (some 24) rfl rfl Try.func57 (by kernel_rfl) rfl #[.agg #[.int .i64 ((rd_T50 l1 x18_2).f0), .int .i64 ((rd_T50 l1 x18_2).f1), .int .i64 ((rd_T50 l1 x18_2).f2)], .int .i64 a0] rfl (by (try simp only [List.map_toArray, List.map_cons, List.map_nil]); first | done | rfl | (simp only [List.length_drop, List.length_take]; rfl)) ?_; (with_reducible refine (tender_valid.calls ((rd_T50 l1 x18_2).f0) ((rd_T50 l1 x18_2).f1) ((rd_T50 l1 x18_2).f2) a0 false _ A10.out).mono ?_); rintro e w17 ⟨rfl, hb⟩; refine ⟨_, rfl, ?_⟩; have n0_ := Aside0.mk (blk_below (g := gb105) (o := .cells #[.int .i64 ((rd_T50 l1 x18_2).f0), .int .i64 ((rd_T50 l1 x18_2).f1), .int .i64 ((rd_T50 l1 x18_2).f2)] 50 (0, 0)) (by (with_reducible repeat (first | refine blk_drewN ?_ _ | refine blk_drew ?_ | refine blk_alloc ?_ _)); refine blk_put (cs := #[.int .i64 ((rd_T50 l1 x18_2).f0), .int .i64 ((rd_T50 l1 x18_2).f1), .int .i64 0]) ?_ 2 _ rfl; (with_reducible repeat (first | refine blk_drewN ?_ _ | refine blk_drew ?_ | refine blk_alloc ?_ _)); refine blk_put (cs := #[.int .i64 ((rd_T50 l1 x18_2).f0), .int .i64 0, .int .i64 0]) ?_ 1 _ rfl; (with_reducible repeat (first | refine blk_drewN ?_ _ | refine blk_drew ?_ | refine blk_alloc ?_ _)); refine blk_put (cs := #[.int .i64 0, .int .i64 0, .int .i64 0]) ?_ 0 _ rfl; (with_reducible repeat (first | refine blk_drewN ?_ _ | refine blk_drew ?_ | refine blk_alloc ?_ _)); exact BK105.out) hb); have n1_ := Aside0.mk (below_step (by repeat (first | (with_reducible first | exact HB.out | apply below_alloc | apply pw_below_drewN | apply below_drew1 | refine below_set ?_ GE105.out) | exact HB.out)) hb); clear BK105; clear HB; have BK105 := n0_; have HB := n1_; clear n0_ n1_; (try clear hb); (try clear hb2); (try clear hk); (try clear hi)))
                      go_ret
                      exact ⟨by first | rfl | (simp [errW_none, errW_some] <;> rfl) | (simp [*, errW_none, errW_some] <;> rfl), by repeat (first | (with_reducible first | exact HB.out | apply below_alloc | apply pw_below_drewN | apply below_drew1 | refine below_set ?_ GE105.out) | exact HB.out)⟩
                  · rw [if_neg c9] at H
                    exact absurd H (by simp)
                · rw [if_neg c8] at H
                  exact absurd H (by simp)
              · rw [if_neg c7] at H
                have c7b0 : decide (x18_2 < (l1.length : Int)) = false := decide_eq_false c7
                clear c7
                obtain rfl := Option.some.inj H
                go_wp2
                go_ret
                exact ⟨by first | rfl | (simp [errW_none, errW_some] <;> rfl) | (simp [*, errW_none, errW_some] <;> rfl), by repeat (first | (with_reducible first | exact HB.out | apply below_alloc | apply pw_below_drewN | apply below_drew1) | exact HB.out)⟩
end Go.Proofs.Ythfdjccdelbeeaa.PT
end
