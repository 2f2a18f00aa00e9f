/-
  opened: its walk. What the group could open, the search opens.
-/
import Derived.Test.YtfnlghjkjmppdaaCCo
import Derived.Test.YtfnlghjkjmppdaaCUm
import Derived.Test.YtfnlghjkjmppdaaPCx20
namespace Go.Proofs.Ytfnlghjkjmppdaa.PC
open Go.RowKit Go.Proofs.YtfnlghjkjmppdaaW.PrintWords Go.Proofs.YtfnlghjkjmppdaaW.PrintLast Go.Proofs.YtfnlghjkjmppdaaW.PrintMore
set_option linter.unusedVariables false
set_option linter.unusedSimpArgs false
theorem inB2_nat {p : Int} {q : Nat} (h : q ≤ 15) : inB2 p (q : Int) = tb p q := by
  unfold inB2
  rw [decide_eq_true (show (0 : Int) ≤ (q : Int) by omega), decide_eq_true (show (q : Int) ≤ 15 by omega), Int.toNat_natCast]; rfl
theorem inB2_ok {p h : Int} (h0 : 0 ≤ h) (h1 : h ≤ 15) : inB2 p h = tb p h.toNat := by
  unfold inB2
  rw [decide_eq_true h0, decide_eq_true h1]; rfl
theorem wit_in {day : Int} {G : List S39} {p : Int} {v i k : Nat} (hI : Inv G) (h : Wit day G p v i k) : inB2 p (gr G i).f3 = true ∧ inB2 p (gr G k).f3 = true := by
  obtain ⟨⟨⟨h1, h2⟩, h3, _⟩, ⟨⟨k1, k2⟩, k3, _⟩, _⟩ := h
  obtain ⟨o1, o2, _⟩ := hI.2 i h1 h2
  obtain ⟨p1, p2, _⟩ := hI.2 k k1 k2
  rw [inB2_ok o1 o2, inB2_ok p1 p2]; exact ⟨h3, k3⟩
/-- The search at person q, of a pair: the copy's state; for a pair that will do, none before q was of the group. -/
def Seek (W w : World) (c : Nat) (day : Int) (G : List S39) (E : List S44) (p : Int) (v i k q : Nat) : Prop := ∃ sc : St, Has W.heap.size W w c sc ∧ Inv sc.G ∧ sc.day = day ∧ sc.E = E ∧ sc.G.length ≤ G.length + q ∧ (Wit day G p v i k → sc.G = G ∧ ∀ r : Nat, r < q → (r : Int) ≠ (gr G k).f3 → tb p r = false)
theorem seek_skip {W w w' : World} {c : Nat} {day : Int} {G : List S39} {E : List S44} {p : Int} {v i k q : Nat} (h : Seek W w c day G E p v i k q) (hb : Below w.heap.size w w') (hs : (q : Int) = (gr G k).f3 ∨ tb p q = false) : Seek W w' c day G E p v i k (q + 1) := by
  obtain ⟨sc, h1, h2, h3, h4, h5, h6⟩ := h
  refine ⟨sc, h1.next hb, h2, h3, h4, by omega, fun hw => ⟨(h6 hw).1, fun r hr hn => ?_⟩⟩
  by_cases c : r = q
  · subst c
    exact hs.resolve_left hn
  · exact (h6 hw).2 r (by omega) hn
theorem seek_end {W w : World} {c : Nat} {day : Int} {G : List S39} {E : List S44} {p : Int} {v i k : Nat} (hI : Inv G) (hv : v ≤ 15) (hE : E.length < 4096) (h : Seek W w c day G E p v i k 16) (ho : openC day G E (v : Int) (i : Int) (gr G i).f3 (k : Int) (gr G k).f3 ≠ 0) : ¬ Wit day G p v i k := fun hw => by
  obtain ⟨sc, h1, h2, h3, h4, h5, h6⟩ := h
  rcases hw.2.2.2 with q | ⟨q1, q2, r, r1, r2, r3⟩
  · exact ho (wit_open hI hv hE hw q)
  · rw [(h6 hw).2 r (by omega) r2] at r3; cases r3
set_option maxHeartbeats 12800000 in
set_option maxRecDepth 100000 in
theorem opened_calls (base g : Nat) (F : Nat → Prop) (w : World) (day : Int) (G : List S39) (E : List S44) (v : Nat) (p : Int) (h : BK base F w g day G E) (hI : Inv G) (hd : DayOk day) (hp : Sm p) (hv : v ≤ 15) (hE : E.length ≤ 40) (hG : G.length ≤ 40) (hw : ∃ i k, Wit day G p v i k) : Calls Try.prog 33 #[.pointer (some ⟨g, 0, none⟩), .int .i64 (v : Int), .int .i64 p] w fun e w' => e = .returned (.bool true) ∧ Below w.heap.size w w' := by
  have hu39 := Try.underlying39
  obtain ⟨i0, k0, hw0⟩ := hw
  have hlen : 1 ≤ G.length := by have := hw0.1.1; omega
  have HWT := lhid (show ∃ i k, Wit day G p v i k from ⟨i0, k0, hw0⟩)
  have HBK0 := lhid h
  have HI := lhid hI
  have HT := lhid hI.1
  have HD := lhid hd
  have HP := lhid hp
  have hl128 := hI.1.1
  clear h hI hd hp hw0
  have HB_1 := lhid (Below.refl w.heap.size w)
  go_enter Try.func33, Try.ntmps33
  go_wp2_with fail
  with_reducible refine (grants_calls base g F w day G E HBK0.out HT.out).mono ?_
  rintro e w1 ⟨vG, rfl, hG, hb⟩
  obtain ⟨AG, cG, rfl⟩ := Kd.R_slice hG
  have HG0 := lhid hG
  clear hG
  have HBK_2 := lhid (HBK0.out.next hb)
  have HB_3 := lhid (below_then HB_1.out HB_1.out.size hb)
  clear HBK0 HB_1 hb
  obtain ⟨gb, hA⟩ := row_ad HG0.out (by omega)
  subst hA
  go_upto_region 3 with (fail)
  have HN0 := lhid (show ∀ a, a ≤ 0 → ∀ b, ¬ Wit day G p v a b from fun a ha b q => by have := q.1.1.1; omega)
  go_loopw [8] (fun t wr => ∃ i : Nat, i ≤ G.length ∧ t = .int .i64 (i : Int) ∧ Hid (BK base F wr g day G E) ∧ Hid (Below w.heap.size w wr) ∧ Hid (Kd.R k39 39 wr w.heap.size (fun _ => True) (.slice (some ⟨gb, 0, none⟩) G.length cG) G) ∧ Hid (∀ a, a ≤ i → ∀ b, ¬ Wit day G p v a b)) (fun t _ => G.length - (intOf t).toNat)
  case atStart => exact ⟨0, Nat.zero_le _, rfl, HBK_2, HB_3, HG0, HN0⟩
  case round =>
    obtain ⟨i, hi, rfl, HBKr_4, HBr_5, HGr_6, HNr_7⟩ := hrel
    clear HBK_2 HB_3 HG0 HN0
    obtain ⟨wi, hwz⟩ : ∃ q : World, q = wr := ⟨_, rfl⟩
    subst hwz
    by_cases hlt : i < G.length
    · have hlt2 : (i : Int) < (G.length : Int) := by omega
      obtain ⟨x3, hx3⟩ : ∃ q, q = (gr G (i + 1)).f3 := ⟨_, rfl⟩
      have HX3 := lhid hx3
      have HXI0 := lhid (show (G.getD i z39).f0 = ((i : Int) + 1) by rw [← gr_getD]; have := (HT.out.2 (i + 1) (by omega) (by omega)).1; omega)
      have HXI3 := lhid (show (G.getD i z39).f3 = x3 by rw [← gr_getD, hx3])
      clear hx3
      go_upto_region 6 with (fail)
      have HM0 := lhid (show ∀ b, b ≤ 0 → ¬ Wit day G p v (i + 1) b from fun b hb q => by have := q.2.1.1.1; omega)
      go_loopw [9] (fun t wr => ∃ k : Nat, k ≤ G.length ∧ t = .int .i64 (k : Int) ∧ Hid (BK base F wr g day G E) ∧ Hid (Below w.heap.size w wr) ∧ Hid (Kd.R k39 39 wr w.heap.size (fun _ => True) (.slice (some ⟨gb, 0, none⟩) G.length cG) G) ∧ Hid (∀ b, b ≤ k → ¬ Wit day G p v (i + 1) b)) (fun t _ => G.length - (intOf t).toNat)
      case atStart => exact ⟨0, Nat.zero_le _, rfl, HBKr_4, HBr_5, HGr_6, HM0⟩
      case round =>
        obtain ⟨k, hk, rfl, HBKr_8, HBr_9, HGr_10, HMr_11⟩ := hrel
        clear HBKr_4 HBr_5 HGr_6 HM0
        obtain ⟨wk, hwz⟩ : ∃ q : World, q = wr := ⟨_, rfl⟩
        subst hwz
        by_cases hlk : k < G.length
        · have HMK := HMr_11
          have hlk2 : (k : Int) < (G.length : Int) := by omega
          obtain ⟨y3, hy3⟩ : ∃ q, q = (gr G (k + 1)).f3 := ⟨_, rfl⟩
          have HY3 := lhid hy3
          have HYI0 := lhid (show (G.getD k z39).f0 = ((k : Int) + 1) by rw [← gr_getD]; have := (HT.out.2 (k + 1) (by omega) (by omega)).1; omega)
          have HYI3 := lhid (show (G.getD k z39).f3 = y3 by rw [← gr_getD, hy3])
          clear hy3
          have cx := (row_cells HGr_10.out i hlt).2.2.2.1
          rw [HXI3.out] at cx
          have cy := (row_cells HGr_10.out k hlk).2.2.2.1
          rw [HYI3.out] at cy
          cases hin : inB2 p x3
          · go_wp2_with fail
            with_reducible refine (kimberlitelaw06_in.calls p x3 false wk (by rw [in_f HP.out, hin])).mono ?_
            rintro e w2 ⟨rfl, nd, hq⟩
            have hb := pw_below_drewN (Below.refl wk.heap.size wk) nd
            rw [← hq] at hb
            clear hq
            have HBK_12 := lhid (HBKr_8.out.next hb)
            have HB_13 := lhid (below_then HBr_9.out HBr_9.out.size hb)
            have HG_14 := lhid (Kd.R_below HGr_10.out hb)
            have cx_15 := pw_cell_below hb cx
            have cy_16 := pw_cell_below hb cy
            clear HBKr_8 HBr_9 HGr_10 cx cy hb
            have HMN := lhid (show ∀ b, b ≤ k + 1 → ¬ Wit day G p v (i + 1) b from fun b hb q => by
              by_cases z : b = k + 1
              · subst z; exact (fun z => by have := (wit_in HI.out z).1; rw [← HX3.out, hin] at this; cases this) q
              · exact HMK.out b (by omega) q)
            go_wp2_with fail
            try any_goals (exfalso; omega)
            go_roundw
            case rel => exact ⟨k + 1, by omega, by simp, HBK_12, HB_13, HG_14, HMN⟩
            case measure => simp [intOf]; omega
          · go_wp2_with fail
            with_reducible refine (kimberlitelaw06_in.calls p x3 true wk (by rw [in_f HP.out, hin])).mono ?_
            rintro e w2 ⟨rfl, nd, hq⟩
            have hb := pw_below_drewN (Below.refl wk.heap.size wk) nd
            rw [← hq] at hb
            clear hq
            have HBK_17 := lhid (HBKr_8.out.next hb)
            have HB_18 := lhid (below_then HBr_9.out HBr_9.out.size hb)
            have HG_19 := lhid (Kd.R_below HGr_10.out hb)
            have cx_20 := pw_cell_below hb cx
            have cy_21 := pw_cell_below hb cy
            clear HBKr_8 HBr_9 HGr_10 cx cy hb
            cases hin2 : inB2 p y3
            · go_wp2_with fail
              with_reducible refine (kimberlitelaw06_in.calls p y3 false w2 (by rw [in_f HP.out, hin2])).mono ?_
              rintro e w3 ⟨rfl, nd, hq⟩
              have hb := pw_below_drewN (Below.refl w2.heap.size w2) nd
              rw [← hq] at hb
              clear hq
              have HBK_22 := lhid (HBK_17.out.next hb)
              have HB_23 := lhid (below_then HB_18.out HB_18.out.size hb)
              have HG_24 := lhid (Kd.R_below HG_19.out hb)
              have cx_25 := pw_cell_below hb cx_20
              have cy_26 := pw_cell_below hb cy_21
              clear HBK_17 HB_18 HG_19 cx_20 cy_21 hb
              have HMN := lhid (show ∀ b, b ≤ k + 1 → ¬ Wit day G p v (i + 1) b from fun b hb q => by
                by_cases z : b = k + 1
                · subst z; exact (fun z => by have := (wit_in HI.out z).2; rw [← HY3.out, hin2] at this; cases this) q
                · exact HMK.out b (by omega) q)
              go_wp2_with fail
              try any_goals (exfalso; omega)
              go_roundw
              case rel => exact ⟨k + 1, by omega, by simp, HBK_22, HB_23, HG_24, HMN⟩
              case measure => simp [intOf]; omega
            · go_wp2_with fail
              with_reducible refine (kimberlitelaw06_in.calls p y3 true w2 (by rw [in_f HP.out, hin2])).mono ?_
              rintro e w3 ⟨rfl, nd, hq⟩
              have hb := pw_below_drewN (Below.refl w2.heap.size w2) nd
              rw [← hq] at hb
              clear hq
              have HBK_27 := lhid (HBK_17.out.next hb)
              have HB_28 := lhid (below_then HB_18.out HB_18.out.size hb)
              have HG_29 := lhid (Kd.R_below HG_19.out hb)
              have cx_30 := pw_cell_below hb cx_20
              have cy_31 := pw_cell_below hb cy_21
              clear HBK_17 HB_18 HG_19 cx_20 cy_21 hb
              clear cx_30 cy_31
              go_wp2_with fail
              with_reducible refine (Copy_ok base g F w3 day G E HBK_27.out (by omega) (by omega)).mono ?_
              rintro e w60 ⟨c, F1, rfl, hbk, hb⟩
              have HBK1 := lhid hbk
              have HB1 := lhid hb
              clear hbk hb
              go_upto_region 10 with (fail)
              have hb := below_drew1 (Below.refl w60.heap.size w60)
              have HBK_32 := lhid (HBK1.out.next hb)
              have HB_33 := lhid (below_then HB1.out HB1.out.size hb)
              clear HBK1 HB1 hb
              refine start_ (n := 24) (S := fun w' => w'.cell? ⟨gb, i * 9, none⟩ = some (.int .i64 ((i : Int) + 1)) ∧ w'.cell? ⟨gb, i * 9 + 3, none⟩ = some (.int .i64 x3) ∧ w'.cell? ⟨gb, k * 9, none⟩ = some (.int .i64 ((k : Int) + 1)) ∧ w'.cell? ⟨gb, k * 9 + 3, none⟩ = some (.int .i64 y3)) (ds := [22]) (lsb 24 0) (by kernel_rfl) rfl (by kernel_rfl) ⟨((row_cells (Kd.R_below HG_29.out HB_33.out) i hlt).1.trans (by rw [HXI0.out])), ((row_cells (Kd.R_below HG_29.out HB_33.out) i hlt).2.2.2.1.trans (by rw [HXI3.out])), ((row_cells (Kd.R_below HG_29.out HB_33.out) k hlk).1.trans (by rw [HYI0.out])), ((row_cells (Kd.R_below HG_29.out HB_33.out) k hlk).2.2.2.1.trans (by rw [HYI3.out]))⟩ (fun hHeld => ?_)
              generalize w60.drew = w61 at HBK_32 HB_33 hHeld ⊢
              refine pure_ (i := 0) (N := some 48) (v := ?_) (a' := ?_) (lsb 24 1) rfl rfl (by as_aux_lemma => kernel_rfl) (fun _ _ _ h => h) (Or.inl ⟨by rfl, ?_⟩) ?_ ?_; rotate_left; (intro w'; go_simp; with_reducible rfl); rotate_left; (simp only [Act.put, List.setIfInBounds_toArray, List.set_cons_zero, List.set_cons_succ, i64_w, i32_w]; rfl)
              refine pure_ (i := 1) (N := some 49) (v := ?_) (a' := ?_) (lsb 24 3) rfl rfl (by as_aux_lemma => kernel_rfl) (fun _ _ _ h => h) (Or.inl ⟨by rfl, ?_⟩) ?_ ?_; rotate_left; (intro w'; go_simp; with_reducible rfl); rotate_left; (simp only [Act.put, List.setIfInBounds_toArray, List.set_cons_zero, List.set_cons_succ, i64_w, i32_w]; rfl)
              refine pure_ (i := 2) (N := some 50) (v := ?_) (a' := ?_) (lsb 24 7) rfl rfl (by as_aux_lemma => kernel_rfl) (fun _ _ _ h => h) (Or.inl ⟨by rfl, ?_⟩) ?_ ?_; rotate_left; (intro w'; go_simp; with_reducible rfl); rotate_left; (simp only [Act.put, List.setIfInBounds_toArray, List.set_cons_zero, List.set_cons_succ, i64_w, i32_w]; rfl)
              refine pure_ (i := 3) (N := some 51) (v := ?_) (a' := ?_) (lsb 24 15) rfl rfl (by as_aux_lemma => kernel_rfl) (fun _ _ _ h => h) (Or.inl ⟨by rfl, ?_⟩) ?_ ?_; rotate_left; (intro w'; go_simp; with_reducible rfl); rotate_left; (simp only [Act.put, List.setIfInBounds_toArray, List.set_cons_zero, List.set_cons_succ, i64_w, i32_w]; rfl)
              refine pure_ (i := 4) (N := some 52) (v := ?_) (a' := ?_) (lsb 24 31) rfl rfl (by as_aux_lemma => kernel_rfl) (fun _ _ _ h => h) (Or.inl ⟨by rfl, ?_⟩) ?_ ?_; rotate_left; (intro w'; go_simp; with_reducible rfl); rotate_left; (simp only [Act.put, List.setIfInBounds_toArray, List.set_cons_zero, List.set_cons_succ, i64_w, i32_w]; rfl)
              refine pure_ (i := 5) (N := some 53) (v := ?_) (a' := ?_) (lsb 24 63) rfl rfl (by as_aux_lemma => kernel_rfl) (fun _ _ _ h => h) (Or.inl ⟨by rfl, ?_⟩) ?_ ?_; rotate_left; (intro w'; go_simp; with_reducible rfl); rotate_left; (simp only [Act.put, List.setIfInBounds_toArray, List.set_cons_zero, List.set_cons_succ, i64_w, i32_w]; rfl)
              refine pure_ (i := 7) (N := some 55) (v := ?_) (a' := ?_) (lsb 24 191) rfl rfl (by as_aux_lemma => kernel_rfl) (fun _ _ _ h => h) (Or.inl ⟨by rfl, ?_⟩) ?_ ?_; rotate_left; (intro w'; go_simp; with_reducible rfl); rotate_left; (simp only [Act.put, List.setIfInBounds_toArray, List.set_cons_zero, List.set_cons_succ, i64_w, i32_w]; rfl)
              refine pure_ (i := 8) (N := some 56) (v := ?_) (a' := ?_) (lsb 24 447) rfl rfl (by as_aux_lemma => kernel_rfl) (fun _ _ _ h => h) (Or.inl ⟨by rfl, ?_⟩) ?_ ?_; rotate_left; (intro w'; go_simp; with_reducible rfl); rotate_left; (simp only [Act.put, List.setIfInBounds_toArray, List.set_cons_zero, List.set_cons_succ, i64_w, i32_w]; rfl)
              refine pure_ (i := 9) (N := some 57) (v := ?_) (a' := ?_) (lsb 24 959) rfl rfl (by as_aux_lemma => kernel_rfl) (fun _ _ _ h => h) (Or.inl ⟨by rfl, ?_⟩) ?_ ?_; rotate_left; (intro w'; go_simp; with_reducible rfl); rotate_left; (simp only [Act.put, List.setIfInBounds_toArray, List.set_cons_zero, List.set_cons_succ, i64_w, i32_w]; rfl)
              refine pure_ (i := 10) (N := some 58) (v := ?_) (a' := ?_) (lsb 24 1983) rfl rfl (by as_aux_lemma => kernel_rfl) (fun _ _ _ h => h) (Or.inl ⟨by rfl, ?_⟩) ?_ ?_; rotate_left; (intro w'; go_simp; with_reducible rfl); rotate_left; (simp only [Act.put, List.setIfInBounds_toArray, List.set_cons_zero, List.set_cons_succ, i64_w, i32_w]; rfl)
              refine pure_ (i := 12) (N := some 60) (v := ?_) (a' := ?_) (lsb 24 6079) rfl rfl (by as_aux_lemma => kernel_rfl) (fun _ _ _ h => h) (Or.inl ⟨by rfl, ?_⟩) ?_ ?_; rotate_left; (intro w'; go_simp; with_reducible rfl); rotate_left; (simp only [Act.put, List.setIfInBounds_toArray, List.set_cons_zero, List.set_cons_succ, i64_w, i32_w]; rfl)
              refine pure_ (i := 13) (N := some 61) (v := ?_) (a' := ?_) (lsb 24 14271) rfl rfl (by as_aux_lemma => kernel_rfl) (fun _ _ _ h => h) (Or.inl ⟨by rfl, ?_⟩) ?_ ?_; rotate_left; (intro w'; go_simp; with_reducible rfl); rotate_left; (simp only [Act.put, List.setIfInBounds_toArray, List.set_cons_zero, List.set_cons_succ, i64_w, i32_w]; rfl)
              refine pure_ (i := 14) (N := some 62) (v := ?_) (a' := ?_) (lsb 24 30655) rfl rfl (by as_aux_lemma => kernel_rfl) (fun _ _ _ h => h) (Or.inl ⟨by rfl, ?_⟩) ?_ ?_; rotate_left; (intro w'; go_simp; with_reducible rfl); rotate_left; (simp only [Act.put, List.setIfInBounds_toArray, List.set_cons_zero, List.set_cons_succ, i64_w, i32_w]; rfl)
              refine pure_ (i := 15) (N := some 63) (v := ?_) (a' := ?_) (lsb 24 63423) rfl rfl (by as_aux_lemma => kernel_rfl) (fun _ _ _ h => h) (Or.inl ⟨by rfl, ?_⟩) ?_ ?_; rotate_left; (intro w'; go_simp; with_reducible rfl); rotate_left; (simp only [Act.put, List.setIfInBounds_toArray, List.set_cons_zero, List.set_cons_succ, i64_w, i32_w]; rfl)
              refine pure_ (i := 17) (N := some 65) (v := ?_) (a' := ?_) (lsb 24 194495) rfl rfl (by as_aux_lemma => kernel_rfl) (fun _ _ _ h => h) (Or.inl ⟨by rfl, ?_⟩) ?_ ?_; rotate_left; (intro w'; go_simp; with_reducible rfl); rotate_left; (simp only [Act.put, List.setIfInBounds_toArray, List.set_cons_zero, List.set_cons_succ, i64_w, i32_w]; rfl)
              refine pure_ (i := 18) (N := some 66) (v := ?_) (a' := ?_) (lsb 24 456639) rfl rfl (by as_aux_lemma => kernel_rfl) (fun _ _ _ h => h) (Or.inl ⟨by rfl, ?_⟩) ?_ ?_; rotate_left; (intro w'; go_simp; with_reducible rfl); rotate_left; (simp only [Act.put, List.setIfInBounds_toArray, List.set_cons_zero, List.set_cons_succ, i64_w, i32_w]; rfl)
              refine pure_ (i := 19) (N := some 67) (v := ?_) (a' := ?_) (lsb 24 980927) rfl rfl (by as_aux_lemma => kernel_rfl) (fun _ _ _ h => h) (Or.inl ⟨by rfl, ?_⟩) ?_ ?_; rotate_left; (intro w'; go_simp; with_reducible rfl); rotate_left; (simp only [Act.put, List.setIfInBounds_toArray, List.set_cons_zero, List.set_cons_succ, i64_w, i32_w]; rfl)
              refine pure_ (i := 20) (N := some 68) (v := ?_) (a' := ?_) (lsb 24 2029503) rfl rfl (by as_aux_lemma => kernel_rfl) (fun _ _ _ h => h) (Or.inl ⟨by rfl, ?_⟩) ?_ ?_; rotate_left; (intro w'; go_simp; with_reducible rfl); rotate_left; (simp only [Act.put, List.setIfInBounds_toArray, List.set_cons_zero, List.set_cons_succ, i64_w, i32_w]; rfl)
              refine take_ (i := 6) (N := some 54) (v := ?_) (a' := ?_) (lsb 24 2029567) rfl rfl (by as_aux_lemma => kernel_rfl) (fun _ _ _ h => h) (Or.inl ⟨by rfl, ?_⟩) hHeld ?_ ?_; rotate_left; (rintro w' ⟨s0, s1, s2, s3⟩; go_simp; with_reducible rfl); rotate_left; (simp only [Act.put, List.setIfInBounds_toArray, List.set_cons_zero, List.set_cons_succ, i64_w, i32_w]; rfl)
              refine take_ (i := 11) (N := some 59) (v := ?_) (a' := ?_) (lsb 24 2031615) rfl rfl (by as_aux_lemma => kernel_rfl) (fun _ _ _ h => h) (Or.inl ⟨by rfl, ?_⟩) hHeld ?_ ?_; rotate_left; (rintro w' ⟨s0, s1, s2, s3⟩; go_simp; with_reducible rfl); rotate_left; (simp only [Act.put, List.setIfInBounds_toArray, List.set_cons_zero, List.set_cons_succ, i64_w, i32_w]; rfl)
              refine take_ (i := 16) (N := some 64) (v := ?_) (a' := ?_) (lsb 24 2097151) rfl rfl (by as_aux_lemma => kernel_rfl) (fun _ _ _ h => h) (Or.inl ⟨by rfl, ?_⟩) hHeld ?_ ?_; rotate_left; (rintro w' ⟨s0, s1, s2, s3⟩; go_simp; with_reducible rfl); rotate_left; (simp only [Act.put, List.setIfInBounds_toArray, List.set_cons_zero, List.set_cons_succ, i64_w, i32_w]; rfl)
              refine take_ (i := 21) (N := some 69) (v := ?_) (a' := ?_) (lsb 24 4194303) rfl rfl (by as_aux_lemma => kernel_rfl) (fun _ _ _ h => h) (Or.inl ⟨by rfl, ?_⟩) hHeld ?_ ?_; rotate_left; (rintro w' ⟨s0, s1, s2, s3⟩; go_simp; with_reducible rfl); rotate_left; (simp only [Act.put, List.setIfInBounds_toArray, List.set_cons_zero, List.set_cons_succ, i64_w, i32_w]; rfl)
              refine last_ (i := 22) (N := some 70) (lsb 24 8388607) rfl rfl (by kernel_rfl) (by decide) (fun K hK => ?_)
              refine goes_ Try.func38 (by kernel_rfl) rfl #[.pointer (some ⟨c, 0, none⟩), .int .i64 (v : Int), .int .i64 ((i : Int) + 1), .int .i64 x3, .int .i64 ((k : Int) + 1), .int .i64 y3] (by rfl) rfl rfl (by (try simp only [List.map_toArray, List.map_cons, List.map_nil]); first | done | rfl) ?_
              with_reducible refine (Open_calls w3.heap.size c F1 _ day G E (v : Int) ((i : Int) + 1) x3 ((k : Int) + 1) y3 HBK_32.out HI.out).mono ?_
              rintro e w9 ⟨rfl, hg⟩
              refine ⟨_, rfl, ?_⟩
              have HGT := lhid hg
              clear hg
              refine hK.out _ _ ?_
              clear hK K
              refine norm_ (a' := ?_) ?_ ?_
              rotate_left
              · show Act.put _ (some 70) _ = _
                simp only [Act.put, List.setIfInBounds_toArray, List.set_cons_zero, List.set_cons_succ, i64_w, i32_w]
                rfl
              refine pure_ (i := 23) (N := some 71) (v := ?_) (a' := ?_) (lsb 24 16777215) rfl rfl (by as_aux_lemma => kernel_rfl) (fun _ _ _ h => h) (Or.inl ⟨by rfl, ?_⟩) ?_ ?_; rotate_left; (intro w'; go_simp; with_reducible rfl); rotate_left; (simp only [Act.put, List.setIfInBounds_toArray, List.set_cons_zero, List.set_cons_succ, i64_w, i32_w]; rfl)
              refine done_ (by kernel_rfl) ?_
              
              obtain ⟨oc, hoc⟩ : ∃ q, q = openC day G E (v : Int) ((i : Int) + 1) x3 ((k : Int) + 1) y3 := ⟨_, rfl⟩
              rw [← hoc] at HGT ⊢
              have HOC := lhid hoc
              clear hoc
              have HAS := lhid (Has.got HBK_32.out HB_33.out (Nat.le_refl _) HGT.out)
              clear HGT HBK_32 HB_33
              by_cases ho : oc = 0
              · have hz : (oc == 0) = true := beq_iff_eq.2 ho
                have HB9 := lhid HAS.out.2.1
                go_wp2_with fail
                go_ret
                exact ⟨rfl, below_then HB_28.out HB_28.out.size HB9.out⟩
              · have hz : (oc == 0) = false := beq_eq_false_iff_ne.2 ho
                rw [hz]
                rw [if_neg ho, if_neg ho] at HAS
                have HNO := lhid (show openC day G E (v : Int) ((i + 1 : Nat) : Int) (gr G (i + 1)).f3 ((k + 1 : Nat) : Int) (gr G (k + 1)).f3 ≠ 0 by rw [← HX3.out, ← HY3.out, show ((i + 1 : Nat) : Int) = (i : Int) + 1 by omega, show ((k + 1 : Nat) : Int) = (k : Int) + 1 by omega, ← HOC.out]; exact ho)
                go_upto_region 13 with (fail)
                clear hz
                have HSK := lhid (show Seek w3 w9 c day G E p v (i + 1) (k + 1) 0 from ⟨⟨day, G, E⟩, HAS.out, HI.out, rfl, rfl, Nat.le_refl _, fun _ => ⟨rfl, fun r hr => absurd hr (Nat.not_lt_zero r)⟩⟩)
                clear HAS
                go_loopw [11] (fun t wr => ∃ q : Nat, q ≤ 16 ∧ t = .int .i64 (q : Int) ∧ Hid (Seek w3 wr c day G E p v (i + 1) (k + 1) q)) (fun t _ => 16 - (intOf t).toNat)
                case atStart => exact ⟨0, Nat.zero_le _, rfl, HSK⟩
                case round =>
                  obtain ⟨q, hq, rfl, HSr_34⟩ := hrel
                  clear HSK
                  obtain ⟨wq, hwz⟩ : ∃ q : World, q = wr := ⟨_, rfl⟩
                  subst hwz
                  by_cases hlq : q < 16
                  · have HBq := lhid (show Below w3.heap.size w3 wq from by obtain ⟨_, z, _⟩ := HSr_34.out; exact z.2.1)
                    have hlq2 : (q : Int) ≤ 15 := by omega
                    have HQ0 := lhid (Below.refl wq.heap.size wq)
                    cases hiq : inB2 p (q : Int)
                    · go_wp2_with fail
                      with_reducible refine (kimberlitelaw06_in.calls p (q : Int) false wq (by rw [in_f HP.out, hiq])).mono ?_
                      rintro e w62 ⟨rfl, nd, hq⟩
                      have hb := pw_below_drewN (Below.refl wq.heap.size wq) nd
                      rw [← hq] at hb
                      clear hq
                      have HB_35 := lhid (below_then HBq.out HBq.out.size hb)
                      have HQ_36 := lhid (below_then HQ0.out HQ0.out.size hb)
                      clear HBq HQ0 hb
                      go_wp2_with fail
                      try any_goals (exfalso; omega)
                      go_roundw
                      case rel => exact ⟨q + 1, by omega, by simp, lhid (seek_skip HSr_34.out HQ_36.out (Or.inr (by rw [← inB2_nat (by omega)]; exact hiq)))⟩
                      case measure => simp [intOf]; omega
                    · go_wp2_with fail
                      with_reducible refine (kimberlitelaw06_in.calls p (q : Int) true wq (by rw [in_f HP.out, hiq])).mono ?_
                      rintro e w62 ⟨rfl, nd, hq⟩
                      have hb := pw_below_drewN (Below.refl wq.heap.size wq) nd
                      rw [← hq] at hb
                      clear hq
                      have HB_37 := lhid (below_then HBq.out HBq.out.size hb)
                      have HQ_38 := lhid (below_then HQ0.out HQ0.out.size hb)
                      clear HBq HQ0 hb
                      have cy := (row_cells (Kd.R_below HG_29.out HB_37.out) k hlk).2.2.2.1
                      rw [HYI3.out] at cy
                      by_cases hqy : (q : Int) = y3
                      · have hqz : ((q : Int) == y3) = true := beq_iff_eq.2 hqy
                        go_wp2_with fail
                        try any_goals (exfalso; omega)
                        go_roundw
                        case rel => exact ⟨q + 1, by omega, by first | (simp; done) | (rw [← hqy]; simp), lhid (seek_skip HSr_34.out HQ_38.out (Or.inl (by rw [← HY3.out]; exact hqy)))⟩
                        case measure => simp [intOf]; omega
                      · have hqz : ((q : Int) == y3) = false := beq_eq_false_iff_ne.2 hqy
                        go_upto_region 16 with (fail)
                        try any_goals (exfalso; omega)
                        clear hqz cy
                        obtain ⟨⟨dc, Gc, Ec⟩, ⟨⟨Fc, hkc⟩, hbc, -⟩, hi1, hde, hee, hlc, hwc⟩ := HSr_34.out
                        have hde' : day = dc := hde.symm
                        subst hde'
                        have hee' : E = Ec := hee.symm
                        subst hee'
                        clear hde hee
                        have HBKc := lhid (BK.next (show BK w3.heap.size Fc wq c day Gc E from hkc) HQ_38.out)
                        have HIC := lhid hi1
                        have HLC := lhid (show Gc.length ≤ G.length + q from hlc)
                        have HWC := lhid hwc
                        clear hkc hbc hi1 hlc hwc
                        have HTC := lhid HIC.out.1
                        go_upto_region 16 with (fail)
                        have hb := below_drew1 (Below.refl w62.heap.size w62)
                        have HB_39 := lhid (below_then HB_37.out HB_37.out.size hb)
                        have HQ_40 := lhid (below_then HQ_38.out HQ_38.out.size hb)
                        have HBK_41 := lhid (HBKc.out.next hb)
                        clear HB_37 HQ_38 HBKc hb
                        refine start_ (n := 22) (S := fun w' => w'.cell? ⟨gb, i * 9, none⟩ = some (.int .i64 ((i : Int) + 1)) ∧ w'.cell? ⟨gb, i * 9 + 3, none⟩ = some (.int .i64 x3)) (ds := [16]) (lsb 22 0) (by kernel_rfl) rfl (by kernel_rfl) ⟨((row_cells (Kd.R_below HG_29.out HB_39.out) i hlt).1.trans (by rw [HXI0.out])), ((row_cells (Kd.R_below HG_29.out HB_39.out) i hlt).2.2.2.1.trans (by rw [HXI3.out]))⟩ (fun hHeld => ?_)
                        generalize w62.drew = w63 at HB_39 HQ_40 HBK_41 hHeld ⊢
                        refine pure_ (i := 0) (N := some 90) (v := ?_) (a' := ?_) (lsb 22 1) rfl rfl (by as_aux_lemma => kernel_rfl) (fun _ _ _ h => h) (Or.inl ⟨by rfl, ?_⟩) ?_ ?_; rotate_left; (intro w'; go_simp; with_reducible rfl); rotate_left; (simp only [Act.put, List.setIfInBounds_toArray, List.set_cons_zero, List.set_cons_succ, i64_w, i32_w]; rfl)
                        refine pure_ (i := 1) (N := some 91) (v := ?_) (a' := ?_) (lsb 22 3) rfl rfl (by as_aux_lemma => kernel_rfl) (fun _ _ _ h => h) (Or.inl ⟨by rfl, ?_⟩) ?_ ?_; rotate_left; (intro w'; go_simp; with_reducible rfl); rotate_left; (simp only [Act.put, List.setIfInBounds_toArray, List.set_cons_zero, List.set_cons_succ, i64_w, i32_w]; rfl)
                        refine pure_ (i := 2) (N := some 92) (v := ?_) (a' := ?_) (lsb 22 7) rfl rfl (by as_aux_lemma => kernel_rfl) (fun _ _ _ h => h) (Or.inl ⟨by rfl, ?_⟩) ?_ ?_; rotate_left; (intro w'; go_simp; with_reducible rfl); rotate_left; (simp only [Act.put, List.setIfInBounds_toArray, List.set_cons_zero, List.set_cons_succ, i64_w, i32_w]; rfl)
                        refine pure_ (i := 3) (N := some 93) (v := ?_) (a' := ?_) (lsb 22 15) rfl rfl (by as_aux_lemma => kernel_rfl) (fun _ _ _ h => h) (Or.inl ⟨by rfl, ?_⟩) ?_ ?_; rotate_left; (intro w'; go_simp; with_reducible rfl); rotate_left; (simp only [Act.put, List.setIfInBounds_toArray, List.set_cons_zero, List.set_cons_succ, i64_w, i32_w]; rfl)
                        refine pure_ (i := 4) (N := some 94) (v := ?_) (a' := ?_) (lsb 22 31) rfl rfl (by as_aux_lemma => kernel_rfl) (fun _ _ _ h => h) (Or.inl ⟨by rfl, ?_⟩) ?_ ?_; rotate_left; (intro w'; go_simp; with_reducible rfl); rotate_left; (simp only [Act.put, List.setIfInBounds_toArray, List.set_cons_zero, List.set_cons_succ, i64_w, i32_w]; rfl)
                        refine pure_ (i := 6) (N := some 96) (v := ?_) (a' := ?_) (lsb 22 95) rfl rfl (by as_aux_lemma => kernel_rfl) (fun _ _ _ h => h) (Or.inl ⟨by rfl, ?_⟩) ?_ ?_; rotate_left; (intro w'; go_simp; with_reducible rfl); rotate_left; (simp only [Act.put, List.setIfInBounds_toArray, List.set_cons_zero, List.set_cons_succ, i64_w, i32_w]; rfl)
                        refine pure_ (i := 7) (N := some 97) (v := ?_) (a' := ?_) (lsb 22 223) rfl rfl (by as_aux_lemma => kernel_rfl) (fun _ _ _ h => h) (Or.inl ⟨by rfl, ?_⟩) ?_ ?_; rotate_left; (intro w'; go_simp; with_reducible rfl); rotate_left; (simp only [Act.put, List.setIfInBounds_toArray, List.set_cons_zero, List.set_cons_succ, i64_w, i32_w]; rfl)
                        refine pure_ (i := 8) (N := some 98) (v := ?_) (a' := ?_) (lsb 22 479) rfl rfl (by as_aux_lemma => kernel_rfl) (fun _ _ _ h => h) (Or.inl ⟨by rfl, ?_⟩) ?_ ?_; rotate_left; (intro w'; go_simp; with_reducible rfl); rotate_left; (simp only [Act.put, List.setIfInBounds_toArray, List.set_cons_zero, List.set_cons_succ, i64_w, i32_w]; rfl)
                        refine pure_ (i := 9) (N := some 99) (v := ?_) (a' := ?_) (lsb 22 991) rfl rfl (by as_aux_lemma => kernel_rfl) (fun _ _ _ h => h) (Or.inl ⟨by rfl, ?_⟩) ?_ ?_; rotate_left; (intro w'; go_simp; with_reducible rfl); rotate_left; (simp only [Act.put, List.setIfInBounds_toArray, List.set_cons_zero, List.set_cons_succ, i64_w, i32_w]; rfl)
                        refine pure_ (i := 11) (N := some 101) (v := ?_) (a' := ?_) (lsb 22 3039) rfl rfl (by as_aux_lemma => kernel_rfl) (fun _ _ _ h => h) (Or.inl ⟨by rfl, ?_⟩) ?_ ?_; rotate_left; (intro w'; go_simp; with_reducible rfl); rotate_left; (simp only [Act.put, List.setIfInBounds_toArray, List.set_cons_zero, List.set_cons_succ, i64_w, i32_w]; rfl)
                        refine pure_ (i := 12) (N := some 102) (v := ?_) (a' := ?_) (lsb 22 7135) rfl rfl (by as_aux_lemma => kernel_rfl) (fun _ _ _ h => h) (Or.inl ⟨by rfl, ?_⟩) ?_ ?_; rotate_left; (intro w'; go_simp; with_reducible rfl); rotate_left; (simp only [Act.put, List.setIfInBounds_toArray, List.set_cons_zero, List.set_cons_succ, i64_w, i32_w]; rfl)
                        refine pure_ (i := 13) (N := some 103) (v := ?_) (a' := ?_) (lsb 22 15327) rfl rfl (by as_aux_lemma => kernel_rfl) (fun _ _ _ h => h) (Or.inl ⟨by rfl, ?_⟩) ?_ ?_; rotate_left; (intro w'; go_simp; with_reducible rfl); rotate_left; (simp only [Act.put, List.setIfInBounds_toArray, List.set_cons_zero, List.set_cons_succ, i64_w, i32_w]; rfl)
                        refine pure_ (i := 14) (N := some 104) (v := ?_) (a' := ?_) (lsb 22 31711) rfl rfl (by as_aux_lemma => kernel_rfl) (fun _ _ _ h => h) (Or.inl ⟨by rfl, ?_⟩) ?_ ?_; rotate_left; (intro w'; go_simp; with_reducible rfl); rotate_left; (simp only [Act.put, List.setIfInBounds_toArray, List.set_cons_zero, List.set_cons_succ, i64_w, i32_w]; rfl)
                        refine take_ (i := 5) (N := some 95) (v := ?_) (a' := ?_) (lsb 22 31743) rfl rfl (by as_aux_lemma => kernel_rfl) (fun _ _ _ h => h) (Or.inl ⟨by rfl, ?_⟩) hHeld ?_ ?_; rotate_left; (rintro w' ⟨s0, s1⟩; go_simp; with_reducible rfl); rotate_left; (simp only [Act.put, List.setIfInBounds_toArray, List.set_cons_zero, List.set_cons_succ, i64_w, i32_w]; rfl)
                        refine take_ (i := 10) (N := some 100) (v := ?_) (a' := ?_) (lsb 22 32767) rfl rfl (by as_aux_lemma => kernel_rfl) (fun _ _ _ h => h) (Or.inl ⟨by rfl, ?_⟩) hHeld ?_ ?_; rotate_left; (rintro w' ⟨s0, s1⟩; go_simp; with_reducible rfl); rotate_left; (simp only [Act.put, List.setIfInBounds_toArray, List.set_cons_zero, List.set_cons_succ, i64_w, i32_w]; rfl)
                        refine one_ (i := 15) (N := some 105) (lsb 22 65535) rfl rfl (by kernel_rfl) (by decide) (fun K hK => ?_)
                        refine goes_ Try.func26 (by kernel_rfl) rfl #[.pointer (some ⟨c, 0, none⟩)] (by rfl) rfl rfl (by (try simp only [List.map_toArray, List.map_cons, List.map_nil]); first | done | rfl) ?_
                        with_reducible refine (day_calls w3.heap.size c Fc _ day Gc E HBK_41.out).mono ?_
                        rintro e w8 ⟨rfl, rfl⟩
                        refine ⟨_, rfl, ?_⟩
                        refine hK.out _ _ ⟨((row_cells (Kd.R_below HG_29.out HB_39.out) i hlt).1.trans (by rw [HXI0.out])), ((row_cells (Kd.R_below HG_29.out HB_39.out) i hlt).2.2.2.1.trans (by rw [HXI3.out]))⟩ (fun hHeld => ?_)
                        clear hK K
                        refine norm_ (a' := ?_) ?_ ?_
                        rotate_left
                        · show Act.put _ (some 105) _ = _
                          simp only [Act.put, List.setIfInBounds_toArray, List.set_cons_zero, List.set_cons_succ, i64_w, i32_w]
                          rfl
                        refine last_ (i := 16) (N := some 106) (lsb 22 131071) rfl rfl (by kernel_rfl) (by decide) (fun K hK => ?_)
                        refine goes_ Try.func16 (by kernel_rfl) rfl #[.pointer (some ⟨c, 0, none⟩), .int .i64 ((i : Int) + 1), .int .i64 x3, .int .i64 (q : Int), .int .i64 (wrap64 ((2 : Int) ^ v)), .int .i64 1, .int .i64 day, .int .i64 1] (by rfl) rfl rfl (by (try simp only [List.map_toArray, List.map_cons, List.map_nil]); first | done | rfl) ?_
                        with_reducible refine (Pass_calls w3.heap.size c Fc _ day Gc E ((i : Int) + 1) x3 (q : Int) (wrap64 ((2 : Int) ^ v)) 1 day 1 HBK_41.out HTC.out).mono ?_
                        rintro e w9 ⟨rfl, hg⟩
                        refine ⟨_, rfl, ?_⟩
                        have HGP := lhid hg
                        clear hg
                        refine hK.out _ _ ?_
                        clear hK K
                        refine norm_ (a' := ?_) ?_ ?_
                        rotate_left
                        · show Act.put _ (some 106) _ = _
                          simp only [Act.put, List.setIfInBounds_toArray, List.set_cons_zero, List.set_cons_succ, i64_w, i32_w]
                          rfl
                        refine pure_ (i := 17) (N := some 89) (v := ?_) (a' := ?_) (lsb 22 262143) rfl rfl (by as_aux_lemma => kernel_rfl) (fun _ _ _ h => h) (Or.inl ⟨by rfl, ?_⟩) ?_ ?_; rotate_left; (intro w'; go_simp; with_reducible rfl); rotate_left; (simp only [Act.put, List.setIfInBounds_toArray, List.set_cons_zero, List.set_cons_succ, i64_w, i32_w]; rfl)
                        refine pure_ (i := 18) (N := some 107) (v := ?_) (a' := ?_) (lsb 22 524287) rfl rfl (by as_aux_lemma => kernel_rfl) (fun _ _ _ h => h) (Or.inl ⟨by rfl, ?_⟩) ?_ ?_; rotate_left; (intro w'; go_simp; with_reducible rfl); rotate_left; (simp only [Act.put, List.setIfInBounds_toArray, List.set_cons_zero, List.set_cons_succ, i64_w, i32_w]; rfl)
                        refine pure_ (i := 19) (N := some 108) (v := ?_) (a' := ?_) (lsb 22 1048575) rfl rfl (by as_aux_lemma => kernel_rfl) (fun _ _ _ h => h) (Or.inl ⟨by rfl, ?_⟩) ?_ ?_; rotate_left; (intro w'; go_simp; with_reducible rfl); rotate_left; (simp only [Act.put, List.setIfInBounds_toArray, List.set_cons_zero, List.set_cons_succ, i64_w, i32_w]; rfl)
                        refine pure_ (i := 20) (N := some 12) (v := ?_) (a' := ?_) (lsb 22 2097151) rfl rfl (by as_aux_lemma => kernel_rfl) (fun _ _ _ h => h) (Or.inl ⟨by rfl, ?_⟩) ?_ ?_; rotate_left; (intro w'; go_simp; with_reducible rfl); rotate_left; (simp only [Act.put, List.setIfInBounds_toArray, List.set_cons_zero, List.set_cons_succ, i64_w, i32_w]; rfl)
                        refine pure_ (i := 21) (N := some 13) (v := ?_) (a' := ?_) (lsb 22 4194303) rfl rfl (by as_aux_lemma => kernel_rfl) (fun _ _ _ h => h) (Or.inl ⟨by rfl, ?_⟩) ?_ ?_; rotate_left; (intro w'; go_simp; with_reducible rfl); rotate_left; (simp only [Act.put, List.setIfInBounds_toArray, List.set_cons_zero, List.set_cons_succ, i64_w, i32_w]; rfl)
                        refine done_ (by kernel_rfl) ?_
                        
                        obtain ⟨pc, hpc⟩ : ∃ q2, q2 = passC day Gc ((i : Int) + 1) x3 (q : Int) (wrap64 ((2 : Int) ^ v)) 1 day 1 := ⟨_, rfl⟩
                        rw [← hpc] at HGP ⊢
                        have HPC := lhid hpc
                        clear hpc
                        have HAP := lhid (Has.got HBK_41.out HB_39.out (Nat.le_refl _) HGP.out)
                        clear HGP HBK_41 HB_39 HQ_40
                        by_cases hp0 : pc = 0
                        · have hpz : (pc != 0) = false := bne_eq_false_iff_eq.2 hp0
                          rw [if_pos hp0] at HAP ⊢
                          obtain ⟨⟨Fn, hkn⟩, hbn, -⟩ := HAP.out
                          have HBKn := lhid hkn
                          have HBn := lhid hbn
                          clear hkn hbn HAP
                          have HIN := lhid (show Inv (passG Gc ((i : Int) + 1) (q : Int) (wrap64 ((2 : Int) ^ v)) 1 day 1) from inv_pass HIC.out (by rw [← HPC.out]; exact hp0))
                          obtain ⟨Gn, hgn⟩ : ∃ q2, q2 = passG Gc ((i : Int) + 1) (q : Int) (wrap64 ((2 : Int) ^ v)) 1 day 1 := ⟨_, rfl⟩
                          have HBKm := lhid (show BK w3.heap.size Fn w9 c day Gn E by rw [hgn]; exact HBKn.out)
                          rw [← hgn] at HIN
                          have HGN := lhid hgn
                          clear hgn HBKn
                          go_upto_region 18 with (fail)
                          have hb := below_drew1 (Below.refl w9.heap.size w9)
                          have HBK_42 := lhid (HBKm.out.next hb)
                          have HB_43 := lhid (below_then HBn.out HBn.out.size hb)
                          clear HBKm HBn hb
                          refine start_ (n := 16) (S := fun w' => w'.cell? ⟨gb, k * 9, none⟩ = some (.int .i64 ((k : Int) + 1)) ∧ w'.cell? ⟨gb, k * 9 + 3, none⟩ = some (.int .i64 y3)) (ds := [14]) (lsb 16 0) (by kernel_rfl) rfl (by kernel_rfl) ⟨((row_cells (Kd.R_below HG_29.out HB_43.out) k hlk).1.trans (by rw [HYI0.out])), ((row_cells (Kd.R_below HG_29.out HB_43.out) k hlk).2.2.2.1.trans (by rw [HYI3.out]))⟩ (fun hHeld => ?_)
                          generalize w9.drew = w91 at HBK_42 HB_43 hHeld ⊢
                          refine pure_ (i := 0) (N := some 111) (v := ?_) (a' := ?_) (lsb 16 1) rfl rfl (by as_aux_lemma => kernel_rfl) (fun _ _ _ h => h) (Or.inl ⟨by rfl, ?_⟩) ?_ ?_; rotate_left; (intro w'; go_simp; with_reducible rfl); rotate_left; (simp only [Act.put, List.setIfInBounds_toArray, List.set_cons_zero, List.set_cons_succ, i64_w, i32_w]; rfl)
                          refine pure_ (i := 1) (N := some 112) (v := ?_) (a' := ?_) (lsb 16 3) rfl rfl (by as_aux_lemma => kernel_rfl) (fun _ _ _ h => h) (Or.inl ⟨by rfl, ?_⟩) ?_ ?_; rotate_left; (intro w'; go_simp; with_reducible rfl); rotate_left; (simp only [Act.put, List.setIfInBounds_toArray, List.set_cons_zero, List.set_cons_succ, i64_w, i32_w]; rfl)
                          refine pure_ (i := 2) (N := some 113) (v := ?_) (a' := ?_) (lsb 16 7) rfl rfl (by as_aux_lemma => kernel_rfl) (fun _ _ _ h => h) (Or.inl ⟨by rfl, ?_⟩) ?_ ?_; rotate_left; (intro w'; go_simp; with_reducible rfl); rotate_left; (simp only [Act.put, List.setIfInBounds_toArray, List.set_cons_zero, List.set_cons_succ, i64_w, i32_w]; rfl)
                          refine pure_ (i := 3) (N := some 114) (v := ?_) (a' := ?_) (lsb 16 15) rfl rfl (by as_aux_lemma => kernel_rfl) (fun _ _ _ h => h) (Or.inl ⟨by rfl, ?_⟩) ?_ ?_; rotate_left; (intro w'; go_simp; with_reducible rfl); rotate_left; (simp only [Act.put, List.setIfInBounds_toArray, List.set_cons_zero, List.set_cons_succ, i64_w, i32_w]; rfl)
                          refine pure_ (i := 4) (N := some 115) (v := ?_) (a' := ?_) (lsb 16 31) rfl rfl (by as_aux_lemma => kernel_rfl) (fun _ _ _ h => h) (Or.inl ⟨by rfl, ?_⟩) ?_ ?_; rotate_left; (intro w'; go_simp; with_reducible rfl); rotate_left; (simp only [Act.put, List.setIfInBounds_toArray, List.set_cons_zero, List.set_cons_succ, i64_w, i32_w]; rfl)
                          refine pure_ (i := 5) (N := some 116) (v := ?_) (a' := ?_) (lsb 16 63) rfl rfl (by as_aux_lemma => kernel_rfl) (fun _ _ _ h => h) (Or.inl ⟨by rfl, ?_⟩) ?_ ?_; rotate_left; (intro w'; go_simp; with_reducible rfl); rotate_left; (simp only [Act.put, List.setIfInBounds_toArray, List.set_cons_zero, List.set_cons_succ, i64_w, i32_w]; rfl)
                          refine pure_ (i := 6) (N := some 117) (v := ?_) (a' := ?_) (lsb 16 127) rfl rfl (by as_aux_lemma => kernel_rfl) (fun _ _ _ h => h) (Or.inl ⟨by rfl, ?_⟩) ?_ ?_; rotate_left; (intro w'; go_simp; with_reducible rfl); rotate_left; (simp only [Act.put, List.setIfInBounds_toArray, List.set_cons_zero, List.set_cons_succ, i64_w, i32_w]; rfl)
                          refine pure_ (i := 7) (N := some 118) (v := ?_) (a' := ?_) (lsb 16 255) rfl rfl (by as_aux_lemma => kernel_rfl) (fun _ _ _ h => h) (Or.inl ⟨by rfl, ?_⟩) ?_ ?_; rotate_left; (intro w'; go_simp; with_reducible rfl); rotate_left; (simp only [Act.put, List.setIfInBounds_toArray, List.set_cons_zero, List.set_cons_succ, i64_w, i32_w]; rfl)
                          refine pure_ (i := 9) (N := some 120) (v := ?_) (a' := ?_) (lsb 16 767) rfl rfl (by as_aux_lemma => kernel_rfl) (fun _ _ _ h => h) (Or.inl ⟨by rfl, ?_⟩) ?_ ?_; rotate_left; (intro w'; go_simp; with_reducible rfl); rotate_left; (simp only [Act.put, List.setIfInBounds_toArray, List.set_cons_zero, List.set_cons_succ, i64_w, i32_w]; rfl)
                          refine pure_ (i := 10) (N := some 121) (v := ?_) (a' := ?_) (lsb 16 1791) rfl rfl (by as_aux_lemma => kernel_rfl) (fun _ _ _ h => h) (Or.inl ⟨by rfl, ?_⟩) ?_ ?_; rotate_left; (intro w'; go_simp; with_reducible rfl); rotate_left; (simp only [Act.put, List.setIfInBounds_toArray, List.set_cons_zero, List.set_cons_succ, i64_w, i32_w]; rfl)
                          refine pure_ (i := 11) (N := some 122) (v := ?_) (a' := ?_) (lsb 16 3839) rfl rfl (by as_aux_lemma => kernel_rfl) (fun _ _ _ h => h) (Or.inl ⟨by rfl, ?_⟩) ?_ ?_; rotate_left; (intro w'; go_simp; with_reducible rfl); rotate_left; (simp only [Act.put, List.setIfInBounds_toArray, List.set_cons_zero, List.set_cons_succ, i64_w, i32_w]; rfl)
                          refine pure_ (i := 12) (N := some 123) (v := ?_) (a' := ?_) (lsb 16 7935) rfl rfl (by as_aux_lemma => kernel_rfl) (fun _ _ _ h => h) (Or.inl ⟨by rfl, ?_⟩) ?_ ?_; rotate_left; (intro w'; go_simp; with_reducible rfl); rotate_left; (simp only [Act.put, List.setIfInBounds_toArray, List.set_cons_zero, List.set_cons_succ, i64_w, i32_w]; rfl)
                          refine take_ (i := 8) (N := some 119) (v := ?_) (a' := ?_) (lsb 16 8191) rfl rfl (by as_aux_lemma => kernel_rfl) (fun _ _ _ h => h) (Or.inl ⟨by rfl, ?_⟩) hHeld ?_ ?_; rotate_left; (rintro w' ⟨s0, s1⟩; go_simp; with_reducible rfl); rotate_left; (simp only [Act.put, List.setIfInBounds_toArray, List.set_cons_zero, List.set_cons_succ, i64_w, i32_w]; rfl)
                          refine take_ (i := 13) (N := some 124) (v := ?_) (a' := ?_) (lsb 16 16383) rfl rfl (by as_aux_lemma => kernel_rfl) (fun _ _ _ h => h) (Or.inl ⟨by rfl, ?_⟩) hHeld ?_ ?_; rotate_left; (rintro w' ⟨s0, s1⟩; go_simp; with_reducible rfl); rotate_left; (simp only [Act.put, List.setIfInBounds_toArray, List.set_cons_zero, List.set_cons_succ, i64_w, i32_w]; rfl)
                          refine last_ (i := 14) (N := some 125) (lsb 16 32767) rfl rfl (by kernel_rfl) (by decide) (fun K hK => ?_)
                          refine goes_ Try.func38 (by kernel_rfl) rfl #[.pointer (some ⟨c, 0, none⟩), .int .i64 (v : Int), .int .i64 ((Gc.length : Int) + 1), .int .i64 (q : Int), .int .i64 ((k : Int) + 1), .int .i64 y3] (by rfl) rfl rfl (by (try simp only [List.map_toArray, List.map_cons, List.map_nil]); first | done | rfl) ?_
                          with_reducible refine (Open_calls w3.heap.size c Fn _ day Gn E (v : Int) ((Gc.length : Int) + 1) (q : Int) ((k : Int) + 1) y3 HBK_42.out HIN.out).mono ?_
                          rintro e w10 ⟨rfl, hg⟩
                          refine ⟨_, rfl, ?_⟩
                          have HGT := lhid hg
                          clear hg
                          refine hK.out _ _ ?_
                          clear hK K
                          refine norm_ (a' := ?_) ?_ ?_
                          rotate_left
                          · show Act.put _ (some 125) _ = _
                            simp only [Act.put, List.setIfInBounds_toArray, List.set_cons_zero, List.set_cons_succ, i64_w, i32_w]
                            rfl
                          refine pure_ (i := 15) (N := some 126) (v := ?_) (a' := ?_) (lsb 16 65535) rfl rfl (by as_aux_lemma => kernel_rfl) (fun _ _ _ h => h) (Or.inl ⟨by rfl, ?_⟩) ?_ ?_; rotate_left; (intro w'; go_simp; with_reducible rfl); rotate_left; (simp only [Act.put, List.setIfInBounds_toArray, List.set_cons_zero, List.set_cons_succ, i64_w, i32_w]; rfl)
                          refine done_ (by kernel_rfl) ?_
                          
                          obtain ⟨o2, ho2⟩ : ∃ q2, q2 = openC day Gn E (v : Int) ((Gc.length : Int) + 1) (q : Int) ((k : Int) + 1) y3 := ⟨_, rfl⟩
                          rw [← ho2] at HGT ⊢
                          have HO2 := lhid ho2
                          clear ho2
                          have HAS := lhid (Has.got HBK_42.out HB_43.out (Nat.le_refl _) HGT.out)
                          clear HGT HBK_42 HB_43
                          by_cases hz2 : o2 = 0
                          · have hz : (o2 == 0) = true := beq_iff_eq.2 hz2
                            have HB9 := lhid HAS.out.2.1
                            go_wp2_with fail
                            go_ret
                            exact ⟨rfl, below_then HB_28.out HB_28.out.size HB9.out⟩
                          · have hz : (o2 == 0) = false := beq_eq_false_iff_ne.2 hz2
                            rw [if_neg hz2, if_neg hz2] at HAS
                            have HSN := lhid (show Seek w3 w10 c day G E p v (i + 1) (k + 1) (q + 1) from ⟨⟨day, Gn, E⟩, HAS.out, HIN.out, rfl, rfl, by have := HLC.out; show Gn.length ≤ _; rw [HGN.out]; unfold passG; simp; omega, fun hwz => absurd (show o2 = 0 by
                              have hE9 : E.length < 4096 := by omega
                              obtain ⟨e1, e2⟩ := HWC.out hwz
                              have e1' : Gc = G := e1
                              rcases hwz.2.2.2 with z | ⟨z1, z2, -⟩
                              · exact absurd (wit_open HI.out hv hE9 hwz z) HNO.out
                              · rw [HO2.out, HGN.out, e1', HY3.out, show (i : Int) + 1 = ((i + 1 : Nat) : Int) by omega, show (k : Int) + 1 = ((k + 1 : Nat) : Int) by omega]; exact wit_new (p := p) HI.out hv (by omega) HD.out (by omega) hE9 hwz z2 (by rw [← HY3.out]; exact hqy)) hz2⟩)
                            go_wp2_with fail
                            try any_goals (exfalso; omega)
                            go_roundw
                            case rel => exact ⟨q + 1, by omega, by simp, HSN⟩
                            case measure => simp [intOf]; omega
                        · have hpz : (pc != 0) = true := bne_iff_ne.2 hp0
                          have HBn := lhid HAP.out.2.1
                          have HBK_44 := lhid (HBK_27.out.next HBn.out)
                          have HB_45 := lhid (below_then HB_28.out HB_28.out.size HBn.out)
                          have HG_46 := lhid (Kd.R_below HG_29.out HBn.out)
                          have HMN := lhid (show ∀ b, b ≤ k + 1 → ¬ Wit day G p v (i + 1) b from fun b hb q => by
                            by_cases z : b = k + 1
                            · subst z; exact (fun z => by
                                obtain ⟨e1, e2⟩ := HWC.out z
                                have e1' : Gc = G := e1
                                rcases z.2.2.2 with y | ⟨y1, y2, -⟩
                                · exact HNO.out (wit_open HI.out hv (by omega) z y)
                                · exact hp0 (by rw [HPC.out, e1', HX3.out, show (i : Int) + 1 = ((i + 1 : Nat) : Int) by omega]; exact wit_pass (p := p) HI.out hv (by omega) HD.out (by omega) z.1 y2)) q
                            · exact HMK.out b (by omega) q)
                          go_wp2_with fail
                          try any_goals (exfalso; omega)
                          go_roundw
                          case rel => exact ⟨k + 1, by omega, by simp, HBK_44, HB_45, HG_46, HMN⟩
                          case measure => simp [intOf]; omega
                  · have hqe : q = 16 := by omega
                    subst hqe
                    have HBq := lhid (show Below w3.heap.size w3 wq from by obtain ⟨_, z, _⟩ := HSr_34.out; exact z.2.1)
                    have HBK_47 := lhid (HBK_27.out.next HBq.out)
                    have HB_48 := lhid (below_then HB_28.out HB_28.out.size HBq.out)
                    have HG_49 := lhid (Kd.R_below HG_29.out HBq.out)
                    have HMN := lhid (show ∀ b, b ≤ k + 1 → ¬ Wit day G p v (i + 1) b from fun b hb q => by
                      by_cases z : b = k + 1
                      · subst z; exact (seek_end HI.out hv (by omega) HSr_34.out HNO.out) q
                      · exact HMK.out b (by omega) q)
                    go_wp2_with fail
                    try any_goals (exfalso; omega)
                    go_roundw
                    case rel => exact ⟨k + 1, by omega, by simp, HBK_47, HB_48, HG_49, HMN⟩
                    case measure => simp [intOf]; omega
        · have hke : k = G.length := by omega
          subst hke
          have HNN := lhid (show ∀ a, a ≤ i + 1 → ∀ b, ¬ Wit day G p v a b from fun a ha b q => by
            by_cases z : a = i + 1
            · subst z; exact HMr_11.out b (by have := q.2.1.1.2; omega) q
            · exact HNr_7.out a (by omega) b q)
          have hlk2 : ¬ (G.length : Int) < (G.length : Int) := by omega
          go_wp2_with fail
          try any_goals (exfalso; omega)
          go_roundw
          case rel => exact ⟨i + 1, by omega, by simp, HBKr_8, HBr_9, HGr_10, HNN⟩
          case measure => simp [intOf]; omega
    · exfalso
      obtain ⟨a, b, q⟩ := HWT.out
      exact HNr_7.out a (by have := q.1.1.2; omega) b q
end Go.Proofs.Ytfnlghjkjmppdaa.PC
