/-
  The texts that the theorem in YtacjdoekgmmfoaaZRowLg rests on, merged (part 5); only what it reaches.
-/
import Derived.Test.YtacjdoekgmmfoaaZLg2
import Derived.Test.YtacjdoekgmmfoaaZLg3
section
namespace Go.Proofs.Ytacjdoekgmmfoaa.PL
open Go.RowKit Go.Proofs.YtacjdoekgmmfoaaW.PrintWords Go.Proofs.YtacjdoekgmmfoaaW.PrintLast Go.Proofs.YtacjdoekgmmfoaaW.PrintMore
attribute [local go_sem] max2_int min2_int max_two min_two max_three min_three max_four min_four   -- for this text's walks alone
set_option linter.unusedVariables false
set_option linter.unusedSimpArgs false
def proof_include.f : Nat → List Int → Int → Option ((List (S54)))
  | 0, _, _ => none
  | k + 1, l0, a1 => if (l0.length : Int) = 1 then (some ([] : List (S54))) else ((proof_part.f k (l0.length : Int)).bind fun t159 => (if a1 < t159 then (if 0 ≤ t159 then (if t159 ≤ (l0.length : Int) then ((proof_include.f k (l0.take (t159 : Int).toNat) a1).bind fun t161 => ((proof_root.f k (l0.drop (t159 : Int).toNat)).bind fun t165 => (if t161.length < 8796093022208 then (some (t161 ++ [(⟨t165, false⟩ : S54)])) else (none)))) else (none)) else (none)) else (if 0 ≤ t159 then (if t159 ≤ (l0.length : Int) then ((proof_include.f k (l0.drop (t159 : Int).toNat) (wrap64 (a1 - t159))).bind fun t170 => ((proof_root.f k (l0.take (t159 : Int).toNat)).bind fun t174 => (if t170.length < 8796093022208 then (some (t170 ++ [(⟨t174, true⟩ : S54)])) else (none)))) else (none)) else (none))))
theorem proof_include.mono_l : ∀ k, (∀ y0 y1, LeO (proof_include.f k y0 y1) (proof_include.f (k + 1) y0 y1))
  | 0 => fun _ _ r h => by simp [proof_include.f] at h
  | k + 1 => by
    have ih0 := proof_include.mono_l k
    · intro y0 y1
      unfold proof_include.f
      repeat' first
      | (with_reducible exact ih0 _ _)
      | (with_reducible exact proof_part.mono _ _)
      | (with_reducible exact proof_root.mono _ _)
      | (with_reducible exact LeO.refl _)
      | (with_reducible exact LeO.none _)
      | (with_reducible refine LeO.ite ?_ ?_)
      | (with_reducible refine LeO.bind ?_ (fun _ => ?_))
      | exact ih0 _ _
      | exact proof_part.mono _ _
      | exact proof_root.mono _ _
      | exact LeO.none _
      | refine LeO.ite ?_ ?_
      | refine LeO.bind ?_ (fun _ => ?_)
theorem proof_include.mono : ∀ a0 a1 k, LeO (proof_include.f k a0 a1) (proof_include.f (k + 1) a0 a1) := by
  intro a0 a1 k
  have ih0 := proof_include.mono_l k
  exact ih0 a0 a1
def proof_include.T6 : Bool × List (List Nat × List Nat) := (true, [([], []), ([], []), ([], []), ([0, 1, 2], [0, 1, 2]), ([], []), ([3, 4], [3, 4]), ([], []), ([], []), ([6, 7], [6, 7]), ([8, 5], [8]), ([9], [9]), ([10], [10]), ([5, 11, 9], [5, 11]), ([12, 12, 0, 1, 2, 3, 4, 5, 6, 7, 8, 9, 10, 11, 12], [12])])
def proof_include.B6 : List Nat := [0, 0, 0, 7, 0, 31, 0, 0, 192, 511, 1023, 2047, 4095, 8191]
theorem proof_include.tab6 : rtab .any (opsOf Try.f70 6) = proof_include.T6 := by kernel_rfl
theorem proof_include.bits6 : waitsOk proof_include.T6.2 proof_include.B6 = true := by kernel_rfl
def proof_include.T7 : Bool × List (List Nat × List Nat) := (true, [([], []), ([], []), ([0, 1], [0, 1]), ([], []), ([], []), ([3, 4], [3, 4]), ([2, 5], [2, 5]), ([], []), ([], []), ([], []), ([7, 8, 9], [7, 8, 9]), ([10, 6], [10]), ([11], [11]), ([12], [12]), ([6, 13, 11], [6, 13]), ([14, 14, 0, 1, 2, 3, 4, 5, 6, 7, 8, 9, 10, 11, 12, 13, 14], [14])])
def proof_include.B7 : List Nat := [0, 0, 3, 0, 0, 24, 63, 0, 0, 0, 896, 2047, 4095, 8191, 16383, 32767]
theorem proof_include.tab7 : rtab .any (opsOf Try.f70 7) = proof_include.T7 := by kernel_rfl
theorem proof_include.bits7 : waitsOk proof_include.T7.2 proof_include.B7 = true := by kernel_rfl
set_option maxHeartbeats 8000000 in
set_option maxRecDepth 100000 in
theorem proof_include.calls (k : Nat) : ∀ (A0 : Option Addr) (c0 : Nat) (l0 : List Int) (a1 : Int) (r : List (S54)) (w : World) (hr0 : Kd.C (Kd.int .u64) w A0 l0.length l0) (hc0 : l0.length ≤ c0) (h : proof_include.f k l0 a1 = some r),
    Calls Try.prog 70 #[.slice A0 l0.length c0, .int .i64 a1] w fun e w' => ∃ v0_ : Value, e = .returned (v0_) ∧ Kd.R k54 54 w' w.heap.size (fun _ => True) v0_ r ∧ Below w.heap.size w w' := by
  induction k using Nat.strongRecOn with
  | _ k ih =>
  intro A0 c0 l0 a1 r w hr0 hc0 h
  cases k with
  | zero => exact absurd h (by simp [proof_include.f])
  | succ k =>
  simp only [proof_include.f] at h
  have hu54 := Try.underlying54
  have HR0 := Aside0.mk hr0
  have HC0 := Aside0.mk hc0
  clear hr0 hc0
  have HB := Aside0.mk (Below.refl w.heap.size w)
  have H : (if (l0.length : Int) = 1 then (some ([] : List (S54))) else ((proof_part.f k (l0.length : Int)).bind fun t159 => (if a1 < t159 then (if 0 ≤ t159 then (if t159 ≤ (l0.length : Int) then ((proof_include.f k (l0.take (t159 : Int).toNat) a1).bind fun t161 => ((proof_root.f k (l0.drop (t159 : Int).toNat)).bind fun t165 => (if t161.length < 8796093022208 then (some (t161 ++ [(⟨t165, false⟩ : S54)])) else (none)))) else (none)) else (none)) else (if 0 ≤ t159 then (if t159 ≤ (l0.length : Int) then ((proof_include.f k (l0.drop (t159 : Int).toNat) (wrap64 (a1 - t159))).bind fun t170 => ((proof_root.f k (l0.take (t159 : Int).toNat)).bind fun t174 => (if t170.length < 8796093022208 then (some (t170 ++ [(⟨t174, true⟩ : S54)])) else (none)))) else (none)) else (none))))) = some r := h
  clear h
  by_cases c3 : (l0.length : Int) = 1
  · rw [if_pos c3] at H
    have c3b0 : ((l0.length : Int) == 1) = true := beq_iff_eq.mpr c3
    have c3b1 : ((l0.length : Int) != 1) = false := bne_eq_false_iff_eq.mpr c3
    clear c3
    obtain rfl := Option.some.inj H
    go_enter Try.func70, Try.ntmps70
    go_wp2
    go_ret
    exact ⟨_, by first | rfl | (simp [errW_none, errW_some] <;> rfl) | (simp [*, errW_none, errW_some] <;> rfl), by first | exact Kd.R_nil _ _ _ _ _ | exact Kd.N_nil _ _ _ _ _ | exact Kd.V_nil _ _ _ _ _ | exact Kd.Q_nil _ _ _ _ _ | exact Kd.S_nil _ _ _ _ _, by repeat (first | (with_reducible first | exact HB.out | apply below_alloc | apply pw_below_drewN | apply below_drew1) | exact HB.out)⟩
  · rw [if_neg c3] at H
    have c3b0 : ((l0.length : Int) == 1) = false := beq_eq_false_iff_ne.mpr c3
    have c3b1 : ((l0.length : Int) != 1) = true := bne_iff_ne.mpr c3
    replace H := Option.bind_eq_some_iff.mp H
    obtain ⟨t159, A40, H⟩ := H
    replace H : (if a1 < t159 then (if 0 ≤ t159 then (if t159 ≤ (l0.length : Int) then ((proof_include.f k (l0.take (t159 : Int).toNat) a1).bind fun t161 => ((proof_root.f k (l0.drop (t159 : Int).toNat)).bind fun t165 => (if t161.length < 8796093022208 then (some (t161 ++ [(⟨t165, false⟩ : S54)])) else (none)))) else (none)) else (none)) else (if 0 ≤ t159 then (if t159 ≤ (l0.length : Int) then ((proof_include.f k (l0.drop (t159 : Int).toNat) (wrap64 (a1 - t159))).bind fun t170 => ((proof_root.f k (l0.take (t159 : Int).toNat)).bind fun t174 => (if t170.length < 8796093022208 then (some (t170 ++ [(⟨t174, true⟩ : S54)])) else (none)))) else (none)) else (none))) = some r := H
    have A4 := Aside0.mk A40
    clear A40
    by_cases c5 : a1 < t159
    · rw [if_pos c5] at H
      have c5b0 : decide (a1 < t159) = true := decide_eq_true c5
      clear c5
      by_cases c6 : 0 ≤ t159
      · rw [if_pos c6] at H
        have c6b0 := eq_true c6
        have c6b1 : decide (0 ≤ t159) = true := decide_eq_true c6
        clear c6
        by_cases c7 : t159 ≤ (l0.length : Int)
        · rw [if_pos c7] at H
          have c7b0 := eq_true c7
          have c7b1 : decide (t159 ≤ (l0.length : Int)) = true := decide_eq_true c7
          clear c7
          replace H := Option.bind_eq_some_iff.mp H
          obtain ⟨t161, A80, H⟩ := H
          replace H : ((proof_root.f k (l0.drop (t159 : Int).toNat)).bind fun t165 => (if t161.length < 8796093022208 then (some (t161 ++ [(⟨t165, false⟩ : S54)])) else (none))) = some r := H
          have A8 := Aside0.mk A80
          clear A80
          have c9b0 := eq_true (of_decide_eq_true (by first | (with_reducible assumption) | assumption) : 0 ≤ t159)
          have c10b0 := eq_true (of_decide_eq_true (by first | (with_reducible assumption) | assumption) : t159 ≤ (l0.length : Int))
          replace H := Option.bind_eq_some_iff.mp H
          obtain ⟨t165, A110, H⟩ := H
          replace H : (if t161.length < 8796093022208 then (some (t161 ++ [(⟨t165, false⟩ : S54)])) else (none)) = some r := H
          have A11 := Aside0.mk A110
          clear A110
          by_cases c12 : t161.length < 8796093022208
          · rw [if_pos c12] at H
            have LMc12 := Aside0.mk c12
            clear c12
            obtain ⟨y166, hy166⟩ : ∃ y_ : List (S54), y_ = (t161 ++ [(⟨t165, false⟩ : S54)]) := ⟨_, rfl⟩
            replace H : (some y166) = some r := by first | (rw [hy166]; with_reducible exact H) | (have H2_ := (Option.bind_some _ _).symm.trans H; rw [hy166]; with_reducible exact H2_) | (have H2_ := (Option.bind_some _ _).symm.trans H; with_reducible exact H2_) | with_reducible exact H | (rw [hy166]; exact H) | exact H
            have Ny166 := Aside0.mk hy166
            clear hy166
            obtain rfl := Option.some.inj H
            go_enter Try.func70, Try.ntmps70
            try go_wp2_with (first | ((with_reducible refine gate_callee (f := 86) rfl ?_); refine goesL_ (some 12) rfl rfl Try.func86 (by kernel_rfl) rfl #[.int .i64 (l0.length : Int)] rfl (by (try simp only [List.map_toArray, List.map_cons, List.map_nil]); first | done | rfl | (simp only [List.length_drop, List.length_take]; rfl)) ?_; (with_reducible refine (proof_part.calls k (l0.length : Int) t159 _ A4.out).mono ?_); rintro e w' ⟨rfl, ⟨nd, rfl⟩⟩; refine ⟨_, rfl, ?_⟩))
            (try (rw [drewN_self w]; generalize hq_ : World.drewN w _ = w13; have n0_ := Aside0.mk (below_at hq_ HB.out); clear hq_ HB; have HB := n0_; clear n0_))
            have n0_ := Aside0.mk (below_drew1 HB.out)
            clear HB
            have HB := n0_
            clear n0_
            obtain ⟨i015, hi015, _, hsz15, _⟩ := info_parts info33
            obtain ⟨hcut15, hA15, hC15⟩ := print_take3_of (P := Try.prog) (Value.int .u64) 0 46 33 .i64 Try.underlying46 hi015 hsz15 A0 c0 l0 t159 (of_decide_eq_true (by first | (with_reducible assumption) | assumption)) (of_decide_eq_true (by first | (with_reducible assumption) | assumption)) HC0.out
            have HR160 := Aside0.mk (Kd.C_of_reads (h1 := fun _ => rfl) (hA15 _ (Kd.reads_of_C HR0.out)))
            have HC160 := Aside0.mk hC15
            clear hA15 hC15 hi015 hsz15
            obtain ⟨i016, hi016, _, hsz16, _⟩ := info_parts info33
            obtain ⟨A16, hcut16, hA16, hC16⟩ := print_drop_of (P := Try.prog) (Value.int .u64) 0 46 33 .i64 Try.underlying46 hi016 hsz16 A0 c0 l0 t159 (of_decide_eq_true (by first | (with_reducible assumption) | assumption)) (of_decide_eq_true (by first | (with_reducible assumption) | assumption)) HC0.out
            have HR164 := Aside0.mk (Kd.C_of_reads (h1 := fun _ => rfl) (hA16 _ (Kd.reads_of_C HR0.out)))
            have HC164 := Aside0.mk hC16
            clear hA16 hC16 hi016 hsz16
            refine start_ (n := 14) (S := fun w' => True) (ds := []) #[false, false, false, false, false, false, false, false, false, false, false, false, false, false] (by kernel_rfl) rfl rfl trivial (fun hHeld => ?_); refine with_tabW proof_include.tab6 proof_include.bits6 (fun HT_ HW_ => ?_)
            generalize w13.drew = w14 at HB HR160 HR164 hHeld ⊢
            refine pure_ (i := 0) (N := some 16) (v := ?_) (a' := ?_) #[true, false, false, false, false, false, false, false, false, false, false, false, false, false] rfl rfl (any_of HT_.out (by kernel_rfl)) (fun _ _ _ h => h) (Or.inl ⟨by rfl, ?_⟩) ?_ ?_
            rotate_left
            · intro w'
              go_simp
              with_reducible rfl
            rotate_left
            · simp only [Act.put, List.setIfInBounds_toArray, List.set_cons_zero, List.set_cons_succ, i64_w, i32_w]
              rfl
            refine pure_ (i := 1) (N := some 17) (v := ?_) (a' := ?_) #[true, true, false, false, false, false, false, false, false, false, false, false, false, false] rfl rfl (any_of HT_.out (by kernel_rfl)) (fun _ _ _ h => h) (Or.inl ⟨by rfl, ?_⟩) ?_ ?_
            rotate_left
            · intro w'
              go_simp
              with_reducible rfl
            rotate_left
            · simp only [Act.put, List.setIfInBounds_toArray, List.set_cons_zero, List.set_cons_succ, i64_w, i32_w]
              rfl
            refine pure_ (i := 2) (N := some 18) (v := ?_) (a' := ?_) #[true, true, true, false, false, false, false, false, false, false, false, false, false, false] rfl rfl (any_of HT_.out (by kernel_rfl)) (fun _ _ _ h => h) (Or.inl ⟨by rfl, ?_⟩) ?_ ?_
            rotate_left
            · intro w'
              go_simp
              with_reducible rfl
            rotate_left
            · simp only [Act.put, List.setIfInBounds_toArray, List.set_cons_zero, List.set_cons_succ, i64_w, i32_w]
              rfl
            refine pure_ (i := 3) (N := some 19) (v := ?_) (a' := ?_) #[true, true, true, true, false, false, false, false, false, false, false, false, false, false] rfl rfl (any_of HT_.out (by kernel_rfl)) (fun _ _ _ h => h) (Or.inl ⟨by rfl, ?_⟩) ?_ ?_
            rotate_left
            · intro w'
              go_simp
              with_reducible rfl
            rotate_left
            · simp only [Act.put, List.setIfInBounds_toArray, List.set_cons_zero, List.set_cons_succ, i64_w, i32_w]
              rfl
            refine pure_ (i := 4) (N := some 20) (v := ?_) (a' := ?_) #[true, true, true, true, true, false, false, false, false, false, false, false, false, false] rfl rfl (any_of HT_.out (by kernel_rfl)) (fun _ _ _ h => h) (Or.inl ⟨by rfl, ?_⟩) ?_ ?_
            rotate_left
            · intro w'
              go_simp
              with_reducible rfl
            rotate_left
            · simp only [Act.put, List.setIfInBounds_toArray, List.set_cons_zero, List.set_cons_succ, i64_w, i32_w]
              rfl
            refine pure_ (i := 6) (N := some 22) (v := ?_) (a' := ?_) #[true, true, true, true, true, false, true, false, false, false, false, false, false, false] rfl rfl (any_of HT_.out (by kernel_rfl)) (fun _ _ _ h => h) (Or.inl ⟨by rfl, ?_⟩) ?_ ?_
            rotate_left
            · intro w'
              go_simp
              with_reducible rfl
            rotate_left
            · simp only [Act.put, List.setIfInBounds_toArray, List.set_cons_zero, List.set_cons_succ, i64_w, i32_w]
              rfl
            refine pure_ (i := 7) (N := some 23) (v := ?_) (a' := ?_) #[true, true, true, true, true, false, true, true, false, false, false, false, false, false] rfl rfl (any_of HT_.out (by kernel_rfl)) (fun _ _ _ h => h) (Or.inl ⟨by rfl, ?_⟩) ?_ ?_
            rotate_left
            · intro w'
              go_simp
              with_reducible rfl
            rotate_left
            · simp only [Act.put, List.setIfInBounds_toArray, List.set_cons_zero, List.set_cons_succ, i64_w, i32_w]
              rfl
            refine pure_ (i := 8) (N := some 24) (v := ?_) (a' := ?_) #[true, true, true, true, true, false, true, true, true, false, false, false, false, false] rfl rfl (any_of HT_.out (by kernel_rfl)) (fun _ _ _ h => h) (Or.inl ⟨by rfl, ?_⟩) ?_ ?_
            rotate_left
            · intro w'
              go_simp
              with_reducible rfl
            rotate_left
            · simp only [Act.put, List.setIfInBounds_toArray, List.set_cons_zero, List.set_cons_succ, i64_w, i32_w]
              rfl
            refine one_ (i := 5) (N := some 21) #[true, true, true, true, true, true, true, true, true, false, false, false, false, false] rfl rfl (one_of HT_.out (by kernel_rfl)) (by decide) (fun K hK => ?_)
            refine goes_ Try.func70 (by kernel_rfl) rfl #[.slice A0 (l0.take (t159 : Int).toNat).length (t159.toNat), .int .i64 a1] (by rfl) rfl rfl (by (try simp only [List.map_toArray, List.map_cons, List.map_nil]); first | done | (rw [show (l0.take (t159 : Int).toNat).length = t159.toNat from (by rw [List.length_take]; have h_ : (t159 : Int) ≤ (l0.length : Int) := of_decide_eq_true (by first | (with_reducible assumption) | assumption); omega)] <;> rfl) | rfl | (simp only [List.length_drop, List.length_take]; rfl)) ?_
            with_reducible refine (ih k (by omega) _ _ (l0.take (t159 : Int).toNat) a1 t161 _ ?side1 ?side2 A8.out).mono ?_
            (case side1 => repeat (first | exact (Kd.C_below HR160.out HB.out) | (with_reducible refine Kd.C_alloc ?_ _) | (with_reducible refine Kd.C_drewN ?_ _) | (with_reducible refine Kd.C_drew ?_)))
            (case side2 => exact HC160.out)
            rintro e w17 ⟨v162, rfl, ho0, hb⟩
            refine ⟨_, rfl, ?_⟩
            have n0_ := Aside0.mk (Kd.R_lower ho0 (below_size (by repeat (first | (with_reducible first | exact HB.out | apply below_alloc | apply pw_below_drewN | apply below_drew1) | exact HB.out))))
            have n1_ := Aside0.mk (below_step (by repeat (first | (with_reducible first | exact HB.out | apply below_alloc | apply pw_below_drewN | apply below_drew1) | exact HB.out)) hb)
            clear HB
            have HO163 := n0_
            have HB := n1_
            clear n0_ n1_
            (try clear hb)
            (try clear hb2)
            (try clear hk)
            (try clear hi)
            (try clear ho0)
            refine hK.out _ _ trivial (fun hHeld => ?_)
            clear hK K
            refine norm_ (a' := ?_) ?_ ?_
            rotate_left
            · show Act.put _ (some 21) _ = _
              simp only [Act.put, List.setIfInBounds_toArray, List.set_cons_zero, List.set_cons_succ, i64_w, i32_w]
              rfl
            refine one_ (i := 9) (N := some 25) #[true, true, true, true, true, true, true, true, true, true, false, false, false, false] rfl rfl (one_of HT_.out (by kernel_rfl)) (by decide) (fun K hK => ?_)
            refine goes_ Try.func64 (by kernel_rfl) rfl #[.slice A16 (l0.drop (t159 : Int).toNat).length (c0 - t159.toNat)] (by rfl) rfl rfl (by (try simp only [List.map_toArray, List.map_cons, List.map_nil]); first | done | (rw [show (l0.drop (t159 : Int).toNat).length = (l0.length - t159.toNat) from List.length_drop] <;> rfl) | rfl | (simp only [List.length_drop, List.length_take]; rfl)) ?_
            with_reducible refine (proof_root.calls k _ _ (l0.drop (t159 : Int).toNat) t165 _ ?side1 ?side2 A11.out).mono ?_
            (case side1 => repeat (first | exact (Kd.C_below HR164.out HB.out) | (with_reducible refine Kd.C_alloc ?_ _) | (with_reducible refine Kd.C_drewN ?_ _) | (with_reducible refine Kd.C_drew ?_)))
            (case side2 => exact HC164.out)
            rintro e w18 ⟨rfl, hb⟩
            refine ⟨_, rfl, ?_⟩
            have n0_ := Aside0.mk (Kd.R_below (by (with_reducible repeat (first | apply Kd.R_alloc | apply Kd.R_drewN | apply Kd.R_drew)); exact HO163.out) hb)
            have n1_ := Aside0.mk (below_step (by repeat (first | (with_reducible first | exact HB.out | apply below_alloc | apply pw_below_drewN | apply below_drew1) | exact HB.out)) hb)
            clear HO163
            clear HB
            have HO163 := n0_
            have HB := n1_
            clear n0_ n1_
            (try clear hb)
            (try clear hb2)
            (try clear hk)
            (try clear hi)
            refine hK.out _ _ trivial (fun hHeld => ?_)
            clear hK K
            refine norm_ (a' := ?_) ?_ ?_
            rotate_left
            · show Act.put _ (some 25) _ = _
              simp only [Act.put, List.setIfInBounds_toArray, List.set_cons_zero, List.set_cons_succ, i64_w, i32_w]
              rfl
            refine pure_ (i := 10) (N := some 26) (v := ?_) (a' := ?_) #[true, true, true, true, true, true, true, true, true, true, true, false, false, false] rfl rfl (any_of HT_.out (by kernel_rfl)) (fun _ _ _ h => h) (Or.inl ⟨by rfl, ?_⟩) ?_ ?_
            rotate_left
            · intro w'
              go_simp
              with_reducible rfl
            rotate_left
            · simp only [Act.put, List.setIfInBounds_toArray, List.set_cons_zero, List.set_cons_succ, i64_w, i32_w]
              rfl
            refine one_ (i := 11) (N := some 27) #[true, true, true, true, true, true, true, true, true, true, true, true, false, false] rfl rfl (one_of HT_.out (by kernel_rfl)) (by decide) (fun K hK => ?_)
            refine value_ (w1 := ?_) (v := ?_) (by rfl) rfl ?_ ?_
            rotate_left 2
            · go_simp
              constructor
              · rfl
              · rfl
            refine hK.out _ _ trivial (fun hHeld => ?_)
            clear hK K
            refine norm_ (a' := ?_) ?_ ?_
            rotate_left
            · show Act.put _ (some 27) _ = _
              simp only [Act.put, List.setIfInBounds_toArray, List.set_cons_zero, List.set_cons_succ, i64_w, i32_w]
              rfl
            refine one_ (i := 12) (N := some 28) #[true, true, true, true, true, true, true, true, true, true, true, true, true, false] rfl rfl (one_of HT_.out (by kernel_rfl)) (by decide) (fun K hK => ?_)
            refine Kd.R_append_step k54 (w0 := w) w.heap.size (by rfl) (.tmp 21) (.tmp 27) 23 54 (.agg #[(.int .u64 0), (.bool false)]) 16 rfl Try.underlying23 info54 rfl (by decide) (by omega) v162 t161 (⟨t165, false⟩ : S54) [.int .u64 t165, .bool false] (fun _ => True) (fun _ => False) rfl rfl ?aP (fun _ hk => hk.elim) ?aF ?aO ?aB ?aS ?aL ?_
            (case aP => exact k54_mkM _ _ _ (⟨t165, false⟩ : S54))
            (case aB => exact (by repeat (first | (with_reducible first | exact HB.out | apply below_alloc | apply pw_below_drewN | apply below_drew1) | exact HB.out)))
            (case aF => exact (fun _ _ => trivial))
            (case aO => exact (by (with_reducible repeat (first | apply Kd.R_alloc | apply Kd.R_drewN | apply Kd.R_drew)); exact HO163.out))
            (case aS => exact (below_size (by repeat (first | (with_reducible first | exact HB.out | apply below_alloc | apply pw_below_drewN | apply below_drew1) | exact HB.out))))
            (case aL => have := LMc12.out; omega)
            intro v167 w19 ho hb hg hat
            rw [← Ny166.out] at ho
            have n0_ := Aside0.mk (hb)
            have n1_ := Aside0.mk (ho)
            clear HB
            clear HO163
            have HB := n0_
            have HO168 := n1_
            clear n0_ n1_
            clear ho hb hg hat
            refine hK.out _ _ trivial (fun hHeld => ?_)
            clear hK K
            refine norm_ (a' := ?_) ?_ ?_
            rotate_left
            · show Act.put _ (some 28) _ = _
              simp only [Act.put, List.setIfInBounds_toArray, List.set_cons_zero, List.set_cons_succ, i64_w, i32_w]
              rfl
            refine pure_ (i := 13) (N := some 4) (v := ?_) (a' := ?_) #[true, true, true, true, true, true, true, true, true, true, true, true, true, true] rfl rfl (any_of HT_.out (by kernel_rfl)) (fun _ _ _ h => h) (Or.inl ⟨by rfl, ?_⟩) ?_ ?_
            rotate_left
            · intro w'
              go_simp
              with_reducible rfl
            rotate_left
            · simp only [Act.put, List.setIfInBounds_toArray, List.set_cons_zero, List.set_cons_succ, i64_w, i32_w]
              rfl
            refine done_ (done_of HT_.out (by kernel_rfl)) ?_
            try go_wp2
            go_ret
            exact ⟨_, by first | rfl | (simp [errW_none, errW_some] <;> rfl) | (simp [*, errW_none, errW_some] <;> rfl), by (with_reducible repeat (first | apply Kd.R_alloc | apply Kd.R_drewN | apply Kd.R_drew)); exact HO168.out, by repeat (first | (with_reducible first | exact HB.out | apply below_alloc | apply pw_below_drewN | apply below_drew1) | exact HB.out)⟩
          · rw [if_neg c12] at H
            exact absurd H (by simp)
        · rw [if_neg c7] at H
          exact absurd H (by simp)
      · rw [if_neg c6] at H
        exact absurd H (by simp)
    · rw [if_neg c5] at H
      have c5b0 : decide (a1 < t159) = false := decide_eq_false c5
      clear c5
      by_cases c20 : 0 ≤ t159
      · rw [if_pos c20] at H
        have c20b0 := eq_true c20
        have c20b1 : decide (0 ≤ t159) = true := decide_eq_true c20
        clear c20
        by_cases c21 : t159 ≤ (l0.length : Int)
        · rw [if_pos c21] at H
          have c21b0 := eq_true c21
          have c21b1 : decide (t159 ≤ (l0.length : Int)) = true := decide_eq_true c21
          clear c21
          replace H := Option.bind_eq_some_iff.mp H
          obtain ⟨t170, A220, H⟩ := H
          replace H : ((proof_root.f k (l0.take (t159 : Int).toNat)).bind fun t174 => (if t170.length < 8796093022208 then (some (t170 ++ [(⟨t174, true⟩ : S54)])) else (none))) = some r := H
          have A22 := Aside0.mk A220
          clear A220
          have c23b0 := eq_true (of_decide_eq_true (by first | (with_reducible assumption) | assumption) : 0 ≤ t159)
          have c24b0 := eq_true (of_decide_eq_true (by first | (with_reducible assumption) | assumption) : t159 ≤ (l0.length : Int))
          replace H := Option.bind_eq_some_iff.mp H
          obtain ⟨t174, A250, H⟩ := H
          replace H : (if t170.length < 8796093022208 then (some (t170 ++ [(⟨t174, true⟩ : S54)])) else (none)) = some r := H
          have A25 := Aside0.mk A250
          clear A250
          by_cases c26 : t170.length < 8796093022208
          · rw [if_pos c26] at H
            have LMc26 := Aside0.mk c26
            clear c26
            obtain ⟨y175, hy175⟩ : ∃ y_ : List (S54), y_ = (t170 ++ [(⟨t174, true⟩ : S54)]) := ⟨_, rfl⟩
            replace H : (some y175) = some r := by first | (rw [hy175]; with_reducible exact H) | (have H2_ := (Option.bind_some _ _).symm.trans H; rw [hy175]; with_reducible exact H2_) | (have H2_ := (Option.bind_some _ _).symm.trans H; with_reducible exact H2_) | with_reducible exact H | (rw [hy175]; exact H) | exact H
            have Ny175 := Aside0.mk hy175
            clear hy175
            obtain rfl := Option.some.inj H
            go_enter Try.func70, Try.ntmps70
            try go_wp2_with (first | ((with_reducible refine gate_callee (f := 86) rfl ?_); refine goesL_ (some 12) rfl rfl Try.func86 (by kernel_rfl) rfl #[.int .i64 (l0.length : Int)] rfl (by (try simp only [List.map_toArray, List.map_cons, List.map_nil]); first | done | rfl | (simp only [List.length_drop, List.length_take]; rfl)) ?_; (with_reducible refine (proof_part.calls k (l0.length : Int) t159 _ A4.out).mono ?_); rintro e w' ⟨rfl, ⟨nd, rfl⟩⟩; refine ⟨_, rfl, ?_⟩))
            (try (rw [drewN_self w]; generalize hq_ : World.drewN w _ = w27; have n0_ := Aside0.mk (below_at hq_ HB.out); clear hq_ HB; have HB := n0_; clear n0_))
            have n0_ := Aside0.mk (below_drew1 HB.out)
            clear HB
            have HB := n0_
            clear n0_
            obtain ⟨i029, hi029, _, hsz29, _⟩ := info_parts info33
            obtain ⟨A29, hcut29, hA29, hC29⟩ := print_drop_of (P := Try.prog) (Value.int .u64) 0 46 33 .i64 Try.underlying46 hi029 hsz29 A0 c0 l0 t159 (of_decide_eq_true (by first | (with_reducible assumption) | assumption)) (of_decide_eq_true (by first | (with_reducible assumption) | assumption)) HC0.out
            have HR169 := Aside0.mk (Kd.C_of_reads (h1 := fun _ => rfl) (hA29 _ (Kd.reads_of_C HR0.out)))
            have HC169 := Aside0.mk hC29
            clear hA29 hC29 hi029 hsz29
            obtain ⟨i030, hi030, _, hsz30, _⟩ := info_parts info33
            obtain ⟨hcut30, hA30, hC30⟩ := print_take3_of (P := Try.prog) (Value.int .u64) 0 46 33 .i64 Try.underlying46 hi030 hsz30 A0 c0 l0 t159 (of_decide_eq_true (by first | (with_reducible assumption) | assumption)) (of_decide_eq_true (by first | (with_reducible assumption) | assumption)) HC0.out
            have HR173 := Aside0.mk (Kd.C_of_reads (h1 := fun _ => rfl) (hA30 _ (Kd.reads_of_C HR0.out)))
            have HC173 := Aside0.mk hC30
            clear hA30 hC30 hi030 hsz30
            refine start_ (n := 16) (S := fun w' => True) (ds := []) #[false, false, false, false, false, false, false, false, false, false, false, false, false, false, false, false] (by kernel_rfl) rfl rfl trivial (fun hHeld => ?_); refine with_tabW proof_include.tab7 proof_include.bits7 (fun HT_ HW_ => ?_)
            generalize w27.drew = w28 at HB HR169 HR173 hHeld ⊢
            refine pure_ (i := 0) (N := some 29) (v := ?_) (a' := ?_) #[true, false, false, false, false, false, false, false, false, false, false, false, false, false, false, false] rfl rfl (any_of HT_.out (by kernel_rfl)) (fun _ _ _ h => h) (Or.inl ⟨by rfl, ?_⟩) ?_ ?_
            rotate_left
            · intro w'
              go_simp
              with_reducible rfl
            rotate_left
            · simp only [Act.put, List.setIfInBounds_toArray, List.set_cons_zero, List.set_cons_succ, i64_w, i32_w]
              rfl
            refine pure_ (i := 1) (N := some 30) (v := ?_) (a' := ?_) #[true, true, false, false, false, false, false, false, false, false, false, false, false, false, false, false] rfl rfl (any_of HT_.out (by kernel_rfl)) (fun _ _ _ h => h) (Or.inl ⟨by rfl, ?_⟩) ?_ ?_
            rotate_left
            · intro w'
              go_simp
              with_reducible rfl
            rotate_left
            · simp only [Act.put, List.setIfInBounds_toArray, List.set_cons_zero, List.set_cons_succ, i64_w, i32_w]
              rfl
            refine pure_ (i := 2) (N := some 31) (v := ?_) (a' := ?_) #[true, true, true, false, false, false, false, false, false, false, false, false, false, false, false, false] rfl rfl (any_of HT_.out (by kernel_rfl)) (fun _ _ _ h => h) (Or.inl ⟨by rfl, ?_⟩) ?_ ?_
            rotate_left
            · intro w'
              go_simp
              with_reducible rfl
            rotate_left
            · simp only [Act.put, List.setIfInBounds_toArray, List.set_cons_zero, List.set_cons_succ, i64_w, i32_w]
              rfl
            refine pure_ (i := 3) (N := some 32) (v := ?_) (a' := ?_) #[true, true, true, true, false, false, false, false, false, false, false, false, false, false, false, false] rfl rfl (any_of HT_.out (by kernel_rfl)) (fun _ _ _ h => h) (Or.inl ⟨by rfl, ?_⟩) ?_ ?_
            rotate_left
            · intro w'
              go_simp
              with_reducible rfl
            rotate_left
            · simp only [Act.put, List.setIfInBounds_toArray, List.set_cons_zero, List.set_cons_succ, i64_w, i32_w]
              rfl
            refine pure_ (i := 4) (N := some 33) (v := ?_) (a' := ?_) #[true, true, true, true, true, false, false, false, false, false, false, false, false, false, false, false] rfl rfl (any_of HT_.out (by kernel_rfl)) (fun _ _ _ h => h) (Or.inl ⟨by rfl, ?_⟩) ?_ ?_
            rotate_left
            · intro w'
              go_simp
              with_reducible rfl
            rotate_left
            · simp only [Act.put, List.setIfInBounds_toArray, List.set_cons_zero, List.set_cons_succ, i64_w, i32_w]
              rfl
            refine pure_ (i := 5) (N := some 34) (v := ?_) (a' := ?_) #[true, true, true, true, true, true, false, false, false, false, false, false, false, false, false, false] rfl rfl (any_of HT_.out (by kernel_rfl)) (fun _ _ _ h => h) (Or.inl ⟨by rfl, ?_⟩) ?_ ?_
            rotate_left
            · intro w'
              go_simp
              with_reducible rfl
            rotate_left
            · simp only [Act.put, List.setIfInBounds_toArray, List.set_cons_zero, List.set_cons_succ, i64_w, i32_w]
              rfl
            refine pure_ (i := 7) (N := some 36) (v := ?_) (a' := ?_) #[true, true, true, true, true, true, false, true, false, false, false, false, false, false, false, false] rfl rfl (any_of HT_.out (by kernel_rfl)) (fun _ _ _ h => h) (Or.inl ⟨by rfl, ?_⟩) ?_ ?_
            rotate_left
            · intro w'
              go_simp
              with_reducible rfl
            rotate_left
            · simp only [Act.put, List.setIfInBounds_toArray, List.set_cons_zero, List.set_cons_succ, i64_w, i32_w]
              rfl
            refine pure_ (i := 8) (N := some 37) (v := ?_) (a' := ?_) #[true, true, true, true, true, true, false, true, true, false, false, false, false, false, false, false] rfl rfl (any_of HT_.out (by kernel_rfl)) (fun _ _ _ h => h) (Or.inl ⟨by rfl, ?_⟩) ?_ ?_
            rotate_left
            · intro w'
              go_simp
              with_reducible rfl
            rotate_left
            · simp only [Act.put, List.setIfInBounds_toArray, List.set_cons_zero, List.set_cons_succ, i64_w, i32_w]
              rfl
            refine pure_ (i := 9) (N := some 38) (v := ?_) (a' := ?_) #[true, true, true, true, true, true, false, true, true, true, false, false, false, false, false, false] rfl rfl (any_of HT_.out (by kernel_rfl)) (fun _ _ _ h => h) (Or.inl ⟨by rfl, ?_⟩) ?_ ?_
            rotate_left
            · intro w'
              go_simp
              with_reducible rfl
            rotate_left
            · simp only [Act.put, List.setIfInBounds_toArray, List.set_cons_zero, List.set_cons_succ, i64_w, i32_w]
              rfl
            refine pure_ (i := 10) (N := some 39) (v := ?_) (a' := ?_) #[true, true, true, true, true, true, false, true, true, true, true, false, false, false, false, false] rfl rfl (any_of HT_.out (by kernel_rfl)) (fun _ _ _ h => h) (Or.inl ⟨by rfl, ?_⟩) ?_ ?_
            rotate_left
            · intro w'
              go_simp
              with_reducible rfl
            rotate_left
            · simp only [Act.put, List.setIfInBounds_toArray, List.set_cons_zero, List.set_cons_succ, i64_w, i32_w]
              rfl
            refine one_ (i := 6) (N := some 35) #[true, true, true, true, true, true, true, true, true, true, true, false, false, false, false, false] rfl rfl (one_of HT_.out (by kernel_rfl)) (by decide) (fun K hK => ?_)
            refine goes_ Try.func70 (by kernel_rfl) rfl #[.slice A29 (l0.drop (t159 : Int).toNat).length (c0 - t159.toNat), .int .i64 (wrap64 (a1 - t159))] (by rfl) rfl rfl (by (try simp only [List.map_toArray, List.map_cons, List.map_nil]); first | done | (rw [show (l0.drop (t159 : Int).toNat).length = (l0.length - t159.toNat) from List.length_drop] <;> rfl) | rfl | (simp only [List.length_drop, List.length_take]; rfl)) ?_
            with_reducible refine (ih k (by omega) _ _ (l0.drop (t159 : Int).toNat) (wrap64 (a1 - t159)) t170 _ ?side1 ?side2 A22.out).mono ?_
            (case side1 => repeat (first | exact (Kd.C_below HR169.out HB.out) | (with_reducible refine Kd.C_alloc ?_ _) | (with_reducible refine Kd.C_drewN ?_ _) | (with_reducible refine Kd.C_drew ?_)))
            (case side2 => exact HC169.out)
            rintro e w31 ⟨v171, rfl, ho0, hb⟩
            refine ⟨_, rfl, ?_⟩
            have n0_ := Aside0.mk (Kd.R_lower ho0 (below_size (by repeat (first | (with_reducible first | exact HB.out | apply below_alloc | apply pw_below_drewN | apply below_drew1) | exact HB.out))))
            have n1_ := Aside0.mk (below_step (by repeat (first | (with_reducible first | exact HB.out | apply below_alloc | apply pw_below_drewN | apply below_drew1) | exact HB.out)) hb)
            clear HB
            have HO172 := n0_
            have HB := n1_
            clear n0_ n1_
            (try clear hb)
            (try clear hb2)
            (try clear hk)
            (try clear hi)
            (try clear ho0)
            refine hK.out _ _ trivial (fun hHeld => ?_)
            clear hK K
            refine norm_ (a' := ?_) ?_ ?_
            rotate_left
            · show Act.put _ (some 35) _ = _
              simp only [Act.put, List.setIfInBounds_toArray, List.set_cons_zero, List.set_cons_succ, i64_w, i32_w]
              rfl
            refine one_ (i := 11) (N := some 40) #[true, true, true, true, true, true, true, true, true, true, true, true, false, false, false, false] rfl rfl (one_of HT_.out (by kernel_rfl)) (by decide) (fun K hK => ?_)
            refine goes_ Try.func64 (by kernel_rfl) rfl #[.slice A0 (l0.take (t159 : Int).toNat).length (t159.toNat)] (by rfl) rfl rfl (by (try simp only [List.map_toArray, List.map_cons, List.map_nil]); first | done | (rw [show (l0.take (t159 : Int).toNat).length = t159.toNat from (by rw [List.length_take]; have h_ : (t159 : Int) ≤ (l0.length : Int) := of_decide_eq_true (by first | (with_reducible assumption) | assumption); omega)] <;> rfl) | rfl | (simp only [List.length_drop, List.length_take]; rfl)) ?_
            with_reducible refine (proof_root.calls k _ _ (l0.take (t159 : Int).toNat) t174 _ ?side1 ?side2 A25.out).mono ?_
            (case side1 => repeat (first | exact (Kd.C_below HR173.out HB.out) | (with_reducible refine Kd.C_alloc ?_ _) | (with_reducible refine Kd.C_drewN ?_ _) | (with_reducible refine Kd.C_drew ?_)))
            (case side2 => exact HC173.out)
            rintro e w32 ⟨rfl, hb⟩
            refine ⟨_, rfl, ?_⟩
            have n0_ := Aside0.mk (Kd.R_below (by (with_reducible repeat (first | apply Kd.R_alloc | apply Kd.R_drewN | apply Kd.R_drew)); exact HO172.out) hb)
            have n1_ := Aside0.mk (below_step (by repeat (first | (with_reducible first | exact HB.out | apply below_alloc | apply pw_below_drewN | apply below_drew1) | exact HB.out)) hb)
            clear HO172
            clear HB
            have HO172 := n0_
            have HB := n1_
            clear n0_ n1_
            (try clear hb)
            (try clear hb2)
            (try clear hk)
            (try clear hi)
            refine hK.out _ _ trivial (fun hHeld => ?_)
            clear hK K
            refine norm_ (a' := ?_) ?_ ?_
            rotate_left
            · show Act.put _ (some 40) _ = _
              simp only [Act.put, List.setIfInBounds_toArray, List.set_cons_zero, List.set_cons_succ, i64_w, i32_w]
              rfl
            refine pure_ (i := 12) (N := some 41) (v := ?_) (a' := ?_) #[true, true, true, true, true, true, true, true, true, true, true, true, true, false, false, false] rfl rfl (any_of HT_.out (by kernel_rfl)) (fun _ _ _ h => h) (Or.inl ⟨by rfl, ?_⟩) ?_ ?_
            rotate_left
            · intro w'
              go_simp
              with_reducible rfl
            rotate_left
            · simp only [Act.put, List.setIfInBounds_toArray, List.set_cons_zero, List.set_cons_succ, i64_w, i32_w]
              rfl
            refine one_ (i := 13) (N := some 42) #[true, true, true, true, true, true, true, true, true, true, true, true, true, true, false, false] rfl rfl (one_of HT_.out (by kernel_rfl)) (by decide) (fun K hK => ?_)
            refine value_ (w1 := ?_) (v := ?_) (by rfl) rfl ?_ ?_
            rotate_left 2
            · go_simp
              constructor
              · rfl
              · rfl
            refine hK.out _ _ trivial (fun hHeld => ?_)
            clear hK K
            refine norm_ (a' := ?_) ?_ ?_
            rotate_left
            · show Act.put _ (some 42) _ = _
              simp only [Act.put, List.setIfInBounds_toArray, List.set_cons_zero, List.set_cons_succ, i64_w, i32_w]
              rfl
            refine one_ (i := 14) (N := some 43) #[true, true, true, true, true, true, true, true, true, true, true, true, true, true, true, false] rfl rfl (one_of HT_.out (by kernel_rfl)) (by decide) (fun K hK => ?_)
            refine Kd.R_append_step k54 (w0 := w) w.heap.size (by rfl) (.tmp 35) (.tmp 42) 23 54 (.agg #[(.int .u64 0), (.bool false)]) 16 rfl Try.underlying23 info54 rfl (by decide) (by omega) v171 t170 (⟨t174, true⟩ : S54) [.int .u64 t174, .bool true] (fun _ => True) (fun _ => False) rfl rfl ?aP (fun _ hk => hk.elim) ?aF ?aO ?aB ?aS ?aL ?_
            (case aP => exact k54_mkM _ _ _ (⟨t174, true⟩ : S54))
            (case aB => exact (by repeat (first | (with_reducible first | exact HB.out | apply below_alloc | apply pw_below_drewN | apply below_drew1) | exact HB.out)))
            (case aF => exact (fun _ _ => trivial))
            (case aO => exact (by (with_reducible repeat (first | apply Kd.R_alloc | apply Kd.R_drewN | apply Kd.R_drew)); exact HO172.out))
            (case aS => exact (below_size (by repeat (first | (with_reducible first | exact HB.out | apply below_alloc | apply pw_below_drewN | apply below_drew1) | exact HB.out))))
            (case aL => have := LMc26.out; omega)
            intro v176 w33 ho hb hg hat
            rw [← Ny175.out] at ho
            have n0_ := Aside0.mk (hb)
            have n1_ := Aside0.mk (ho)
            clear HB
            clear HO172
            have HB := n0_
            have HO177 := n1_
            clear n0_ n1_
            clear ho hb hg hat
            refine hK.out _ _ trivial (fun hHeld => ?_)
            clear hK K
            refine norm_ (a' := ?_) ?_ ?_
            rotate_left
            · show Act.put _ (some 43) _ = _
              simp only [Act.put, List.setIfInBounds_toArray, List.set_cons_zero, List.set_cons_succ, i64_w, i32_w]
              rfl
            refine pure_ (i := 15) (N := some 4) (v := ?_) (a' := ?_) #[true, true, true, true, true, true, true, true, true, true, true, true, true, true, true, true] rfl rfl (any_of HT_.out (by kernel_rfl)) (fun _ _ _ h => h) (Or.inl ⟨by rfl, ?_⟩) ?_ ?_
            rotate_left
            · intro w'
              go_simp
              with_reducible rfl
            rotate_left
            · simp only [Act.put, List.setIfInBounds_toArray, List.set_cons_zero, List.set_cons_succ, i64_w, i32_w]
              rfl
            refine done_ (done_of HT_.out (by kernel_rfl)) ?_
            try go_wp2
            go_ret
            exact ⟨_, by first | rfl | (simp [errW_none, errW_some] <;> rfl) | (simp [*, errW_none, errW_some] <;> rfl), by (with_reducible repeat (first | apply Kd.R_alloc | apply Kd.R_drewN | apply Kd.R_drew)); exact HO177.out, by repeat (first | (with_reducible first | exact HB.out | apply below_alloc | apply pw_below_drewN | apply below_drew1) | exact HB.out)⟩
          · rw [if_neg c26] at H
            exact absurd H (by simp)
        · rw [if_neg c21] at H
          exact absurd H (by simp)
      · rw [if_neg c20] at H
        exact absurd H (by simp)
end Go.Proofs.Ytacjdoekgmmfoaa.PL
end
section
namespace Go.Proofs.Ytacjdoekgmmfoaa.PL
open Go.RowKit Go.Proofs.YtacjdoekgmmfoaaW.PrintWords Go.Proofs.YtacjdoekgmmfoaaW.PrintLast Go.Proofs.YtacjdoekgmmfoaaW.PrintMore
attribute [local go_sem] max2_int min2_int max_two min_two max_three min_three max_four min_four   -- for this text's walks alone
set_option linter.unusedVariables false
set_option linter.unusedSimpArgs false
theorem lhid {p : Prop} (h : p) : Hid p := h
/-- A log in memory: its entries and its leaves. -/
structure LG (base : Nat) (w : World) (g : Nat) (es : List (List Int)) (ls : List Int) : Prop where
  lo : base ≤ g
  lt : g < w.heap.size
  row : ∃ ve vl, w.heap[g]? = some (.cells #[.bool true, ve, vl] 70 (0, 0)) ∧ Kd.R (Kd.slice 5 (Kd.int .u8)) 22 w base (fun _ => True) ve es ∧ Kd.R (Kd.int .u64) 33 w base (fun _ => True) vl ls
theorem LG.next {base : Nat} {w w' : World} {g : Nat} {es : List (List Int)} {ls : List Int} (h : LG base w g es ls) (hb : Below w.heap.size w w') : LG base w' g es ls := by
  obtain ⟨ve, vl, h1, h2, h3⟩ := h.row
  exact ⟨h.lo, Nat.lt_of_lt_of_le h.lt hb.size, ve, vl, by rw [hb.block g h.lt]; exact h1, Kd.R_below h2 hb, Kd.R_below h3 hb⟩
theorem LG.drewN {base : Nat} {w : World} {g : Nat} {es : List (List Int)} {ls : List Int} (h : LG base w g es ls) (n : Nat) : LG base (w.drewN n) g es ls := h.next (pw_below_drewN (Below.refl _ _) n)
theorem new_calls (w : World) : Calls Try.prog 43 #[] w fun e w' => e = .returned (.pointer (some ⟨w.heap.size, 0, none⟩)) ∧ LG w.heap.size w' w.heap.size [] [] ∧ Below w.heap.size w w' := by
  have hu70 := Try.underlying70
  go_enter Try.func43, Try.ntmps43
  go_wp2
  go_ret
  exact ⟨rfl, ⟨Nat.le_refl _, by simp, _, _, blk_new _ _, Kd.R_nil _ _ _ _ _, Kd.R_nil _ _ _ _ _⟩, below_alloc (Below.refl _ _) _⟩
theorem ready_calls (w : World) (g : Nat) (ve vl : Value) (hb : w.heap[g]? = some (.cells #[.bool true, ve, vl] 70 (0, 0))) : Calls Try.prog 79 #[.pointer (some ⟨g, 0, none⟩)] w fun e w' => e = .returned (.bool true) ∧ w = w' := by
  have hc := blk_cell hb 0
  simp only [List.getElem?_toArray, List.getElem?_cons_zero] at hc
  have hu70 := Try.underlying70
  go_enter Try.func79, Try.ntmps79
  go_wp2
  go_ret
  exact ⟨rfl, rfl⟩
theorem nil_eq (a : Option Addr) (n c : Nat) (w : World) : (binOp .eql 22 (.slice a n c) (.slice none 0 0)).run Try.prog w = .ok (.bool a.isNone) w := by
  have h : ∀ d : Nat, (Op.equalIn (d + 1) 22 (.slice a n c) (.slice none 0 0)).run Try.prog w = .ok a.isNone w := fun d => by
    cases a <;> simp [Op.equalIn, run_underlying Try.underlying22]
  simp only [binOp]
  simp [Op.equal, Op.maxDepth, h 9999]
theorem clone_calls (w : World) (A : Option Addr) (c : Nat) (xs : List Int) (hC : Kd.C (Kd.int .u8) w A xs.length xs) (hc : xs.length ≤ c) (hl : xs.length ≤ 1000000) :
    Calls Try.prog 81 #[.slice A xs.length c] w fun e w' => ∃ v, e = .returned v ∧ Kd.R (Kd.int .u8) 5 w' w.heap.size (fun _ => True) v xs ∧ Below w.heap.size w w' := by
  have HC := lhid hC
  have HB := Aside0.mk (Below.refl w.heap.size w)
  clear hC
  cases A with
  | none =>
    have hx : xs = [] := by
      cases xs with
      | nil => rfl
      | cons x xs => obtain ⟨ad, e, _⟩ := HC.out.2.2 (by simp); cases e
    subst hx
    have hnil := nil_eq none 0 c
    go_enter Try.func81, Try.ntmps81
    go_wp2_with fail
    go_ret
    exact ⟨_, rfl, Kd.R_nil _ _ _ _ _, HB.out⟩
  | some ad =>
    have hnil := nil_eq (some ad) xs.length c
    go_enter Try.func81, Try.ntmps81
    go_wp2_with (first | ((with_reducible refine gate_dst (N := 5) rfl ?_); refine Kd.R_lit (Kd.int .u8) _ 5 ?hg (N := 5) ?hd (xs := ([] : List Int)) (inner := []) (ok := fun _ => True) (okp := fun _ => True) ?hr ?hp (fun _ hk => hk) trivial (Below.refl _ _) (Nat.le_refl _) (by simp) ?_; (case hd => rfl); (case hg => rfl); (case hr => first | (go_simp; done) | (go_simp; rfl)); (case hp => exact Reps.none _ _); intro v1 w1 ho8 hb hg_ hnew_; clear hg_ hnew_; have HO1 := Aside0.mk ho8; have HB1 := Aside0.mk hb; clear ho8 hb) | ((with_reducible refine gate_builtin (b := .append) (xs := #[.tmp 5, .tmp 6]) rfl ?_); at_builtin; refine Kd.R_append_rows (Kd.int .u8) (w0 := w) w.heap.size rfl (.tmp 5) (.tmp 6) 22 5 (.int .u8 0) 1 rfl Try.underlying22 info5 rfl (by decide) (by omega) v1 [] xs _ _ _ (fun _ => True) (fun _ => False) rfl rfl ?aO ?aR (fun _ _ h => h) (fun _ h => h.elim) ?aF ?aB ?aS ?aL ?_; (case aR => exact (Kd.C_below HC.out HB1.out)); (case aB => exact HB1.out); (case aF => exact (fun _ _ => trivial)); (case aO => exact HO1.out); (case aS => exact (below_size HB1.out)); (case aL => simp; omega); intro v2 w2 ho hb hg hat; have HO2 := Aside0.mk ho; have HB2 := Aside0.mk hb; clear ho hb hg hat))
    go_ret
    exact ⟨_, rfl, HO2.out, HB2.out⟩
/-- What a log's calls leave alone: what is older than the log, and rows of bytes. -/
def Keep5 (base : Nat) (w W : World) : Prop := ∀ k, k < w.heap.size → (k < base ∨ ∃ cs fr, w.heap[k]? = some (.cells cs 5 fr)) → W.heap[k]? = w.heap[k]?
theorem Keep5.refl (base : Nat) (w : World) : Keep5 base w w := fun _ _ _ => rfl
theorem Keep5.next {base : Nat} {w W W' : World} (h : Keep5 base w W) (hz : w.heap.size ≤ W.heap.size) (hb : Below W.heap.size W W') : Keep5 base w W' := fun k hk hc => by
  rw [hb.block k (by omega)]; exact h k hk hc
/-- The block of a row of one's own: made since, and of its type. -/
theorem own_typed {α : Type} {d : Kd α} {e base : Nat} {ok : Nat → Prop} {w : World} {v : Value} {xs : List α} (h : d.R e w base ok v xs) (k : Nat) (hk : v.ownBlock = some k) : base ≤ k ∧ k < w.heap.size ∧ ∃ cs, w.heap[k]? = some (.cells cs e (0, 0)) := by
  obtain ⟨inner, ho⟩ := Kd.R_own h
  have hl := ho.lt k hk
  refine ⟨hl.1, hl.2, ?_⟩
  rcases ho.2 with ⟨rfl, _⟩ | ⟨g', cap, cur, rfl, _, hh, _⟩
  · simp [Value.ownBlock] at hk
  · simp [Value.ownBlock] at hk
    subst hk
    exact ⟨cur, hh⟩
theorem Keep5.grown {base : Nat} {w W W' : World} {α : Type} {d : Kd α} {e : Nat} {ok : Nat → Prop} {v : Value} {xs : List α} (h : Keep5 base w W) (hz : w.heap.size ≤ W.heap.size) (hR : d.R e W base ok v xs) (he : e ≠ 5) (hg : W.grownBy W' v.ownBlock) : Keep5 base w W' := fun k hk hc => by
  have hW := h k hk hc
  rw [hg.block k (by omega) ?_]
  · exact hW
  · intro ek
    obtain ⟨h1, _, cs, h2⟩ := own_typed hR k ek.symm
    rcases hc with g | ⟨cs', fr, g⟩
    · omega
    · rw [hW, g] at h2
      injection h2 with h2
      injection h2 with _ h2
      exact he h2.symm
theorem Keep5.set {base : Nat} {w W : World} {g : Nat} (h : Keep5 base w W) (hg : base ≤ g) (ht : ∀ cs fr, w.heap[g]? ≠ some (.cells cs 5 fr)) (j : Nat) (v : Value) : Keep5 base w (W.setCell ⟨g, j, none⟩ v) := fun k hk hc => by
  have hW := h k hk hc
  rw [Below.heap_setCell _ _ _ _ ?_]
  · exact hW
  · intro e
    have e : k = g := e
    rcases hc with q | ⟨cs', fr, q⟩
    · omega
    · rw [e] at q; exact ht _ _ q
/-- A log within a call: its block, and the rows that will be put there. -/
structure LV (w0 : World) (base : Nat) (w : World) (g : Nat) (ve vl ve' : Value) (es : List (List Int)) (vl' : Value) (ls : List Int) : Prop where
  below : Below base w0 w
  bz : base ≤ w0.heap.size
  keep : Keep5 base w0 w
  lo : base ≤ g
  hb : w.heap[g]? = some (.cells #[.bool true, ve, vl] 70 (0, 0))
  re : Kd.R (Kd.slice 5 (Kd.int .u8)) 22 w base (fun _ => True) ve' es
  rl : Kd.R (Kd.int .u64) 33 w base (fun _ => True) vl' ls
section
variable {w0 w W : World} {base g : Nat} {ve vl ve' vl' : Value} {es : List (List Int)} {ls : List Int}
theorem LV.size (h : LV w0 base w g ve vl ve' es vl' ls) : base ≤ w.heap.size := Nat.le_trans h.bz h.below.size
theorem LV.lt (h : LV w0 base w g ve vl ve' es vl' ls) : g < w.heap.size := blk_lt h.hb
theorem LV.next (h : LV w0 base w g ve vl ve' es vl' ls) (hb : Below w.heap.size w W) : LV w0 base W g ve vl ve' es vl' ls :=
  ⟨below_then h.below h.size hb, h.bz, h.keep.next h.below.size hb, h.lo, by rw [hb.block g h.lt]; exact h.hb, Kd.R_below h.re hb, Kd.R_below h.rl hb⟩
theorem LV.alloc (h : LV w0 base w g ve vl ve' es vl' ls) (o : Obj) : LV w0 base (w.alloc o) g ve vl ve' es vl' ls := h.next (below_alloc (Below.refl _ _) o)
theorem LV.drewN (h : LV w0 base w g ve vl ve' es vl' ls) (n : Nat) : LV w0 base (w.drewN n) g ve vl ve' es vl' ls := h.next (pw_below_drewN (Below.refl _ _) n)
theorem LV.c1 (h : LV w0 base w g ve vl ve' es vl' ls) : w.cell? ⟨g, 1, none⟩ = some ve := by rw [blk_cell h.hb]; rfl
theorem LV.c2 (h : LV w0 base w g ve vl ve' es vl' ls) : w.cell? ⟨g, 2, none⟩ = some vl := by rw [blk_cell h.hb]; rfl
theorem LV.f1 (h : LV w0 base w g ve vl ve' es vl' ls) : w.frozen? ⟨g, 1, none⟩ = false := blk_frozen h.hb 1
theorem LV.f2 (h : LV w0 base w g ve vl ve' es vl' ls) : w.frozen? ⟨g, 2, none⟩ = false := blk_frozen h.hb 2
theorem LV.neE (h : LV w0 base w g ve vl ve' es vl' ls) : some g ≠ ve'.ownBlock := Kd.R_ne h.re h.hb (by decide)
theorem LV.neL (h : LV w0 base w g ve vl ve' es vl' ls) : some g ≠ vl'.ownBlock := Kd.R_ne h.rl h.hb (by decide)
/-- The entries' row has grown. -/
theorem LV.appE (h : LV w0 base w g ve vl ve' es vl' ls) {v1 : Value} {es1 : List (List Int)} (ho : Kd.R (Kd.slice 5 (Kd.int .u8)) 22 W base (fun _ => True) v1 es1) (hb : Below base w0 W) (hg : w.grownBy W ve'.ownBlock) : LV w0 base W g ve vl v1 es1 vl' ls := by
  refine ⟨hb, h.bz, h.keep.grown h.below.size h.re (by decide) hg, h.lo, blk_grown h.hb hg h.neE, ho, Kd.R_grown2 h.rl rfl hg (fun k hk => ?_)⟩
  obtain ⟨_, _, cs, h1⟩ := own_typed h.re k hk
  exact Kd.R_ne h.rl h1 (by decide)
/-- The leaves' row has grown. -/
theorem LV.appL (h : LV w0 base w g ve vl ve' es vl' ls) {v1 : Value} {ls1 : List Int} (ho : Kd.R (Kd.int .u64) 33 W base (fun _ => True) v1 ls1) (hb : Below base w0 W) (hg : w.grownBy W vl'.ownBlock) : LV w0 base W g ve vl ve' es v1 ls1 := by
  refine ⟨hb, h.bz, h.keep.grown h.below.size h.rl (by decide) hg, h.lo, blk_grown h.hb hg h.neL, ?_, ho⟩
  cases hk : vl'.ownBlock with
  | none => exact Kd.R_grown h.re hg (fun k _ => by rw [hk]; simp)
  | some k =>
    obtain ⟨_, _, cs, h1⟩ := own_typed h.rl k hk
    exact Kd.R_mono (Kd.R_grown (Kd.R_types h.re h1 (by decide)) hg (fun k' hk' e => hk'.2 (by rw [hk] at e; injection e))) (fun _ _ => trivial)
/-- Both rows have been put into the log. -/
theorem LV.done {e1 l1 : Value} (h : LV w0 base w g ve vl e1 es l1 ls) (h70 : w0.heap[g]? = some (.cells #[.bool true, ve, vl] 70 (0, 0))) :
    LV w0 base ((w.setCell ⟨g, 1, none⟩ e1).setCell ⟨g, 2, none⟩ l1) g e1 l1 e1 es l1 ls := by
  have hn5 : ∀ cs fr, w0.heap[g]? ≠ some (.cells cs 5 fr) := fun cs fr e => by rw [h70] at e; injection e with e; injection e with _ e; cases e
  have hsz : ∀ (W : World) (p : Addr) (v : Value), (W.setCell p v).heap.size = W.heap.size := fun W p v => by simp [World.setCell]
  refine ⟨(h.below.setCell h.lo _).setCell h.lo _, h.bz, (h.keep.set h.lo hn5 1 e1).set h.lo hn5 2 l1, h.lo, ?_, ?_, ?_⟩
  · have h1 := blk_put h.hb 1 e1 rfl
    have h2 := blk_put h1 2 l1 rfl
    simpa using h2
  · exact Kd.R_mono (Kd.R_far (Kd.R_far (Kd.R_types h.re h.hb (by decide)) (p := ⟨g, 1, none⟩) (fun k hk => hk.2) e1) (p := ⟨g, 2, none⟩) (fun k hk => hk.2) l1) (fun _ _ => trivial)
  · exact Kd.R_mono (Kd.R_far (Kd.R_far (Kd.R_types h.rl h.hb (by decide)) (p := ⟨g, 1, none⟩) (fun k hk => hk.2) e1) (p := ⟨g, 2, none⟩) (fun k hk => hk.2) l1) (fun _ _ => trivial)
end
theorem LG.lv {base : Nat} {w : World} {g : Nat} {es : List (List Int)} {ls : List Int} (h : LG base w g es ls) : ∃ Ae ce Al cl, LV w base w g (.slice Ae es.length ce) (.slice Al ls.length cl) (.slice Ae es.length ce) es (.slice Al ls.length cl) ls := by
  obtain ⟨ve, vl, h1, h2, h3⟩ := h.row
  obtain ⟨Ae, ce, rfl⟩ := Kd.R_slice h2
  obtain ⟨Al, cl, rfl⟩ := Kd.R_slice h3
  exact ⟨Ae, ce, Al, cl, Below.refl _ _, Nat.le_trans h.lo (Nat.le_of_lt h.lt), Keep5.refl _ _, h.lo, h1, h2, h3⟩
set_option maxHeartbeats 3200000 in
set_option maxRecDepth 100000 in
/-- Add: an entry more. -/
theorem add_calls (k base : Nat) (w : World) (g : Nat) (es : List (List Int)) (ls : List Int) (A : Option Addr) (c : Nat) (xs : List Int) (r : Int) (h : LG base w g es ls)
    (hX : ∀ W, Keep5 base w W → Kd.C (Kd.int .u8) W A xs.length xs) (hc : xs.length ≤ c) (hl : xs.length ≤ 256) (hn : es.length < 4096) (hll : ls.length < 4096) (hr : proof_Leaf.f k xs = some r) :
    Calls Try.prog 47 #[.pointer (some ⟨g, 0, none⟩), .slice A xs.length c] w fun e w' => e = .returned (.tuple #[.int .i64 es.length, .int .i64 0]) ∧ LG base w' g (es ++ [xs]) (ls ++ [r]) ∧ Below base w w' ∧ Keep5 base w w' := by
  obtain ⟨Ae, ce, Al, cl, hv⟩ := h.lv
  have HV := lhid hv
  have HX := lhid hX
  have HR := lhid hr
  have h70 := lhid hv.hb
  have hu70 := Try.underlying70
  have hc1 := hv.c1
  have hc2 := hv.c2
  have hd1 : decide ((xs.length : Int) > 256) = false := decide_eq_false (by omega)
  have hd2 : decide ((es.length : Int) ≥ 4096) = false := decide_eq_false (by omega)
  have hrd := lhid (ready_calls w g _ _ hv.hb)
  clear hv hX hr h
  go_enter Try.func47, Try.ntmps47
  go_wp2_with fail
  refine hrd.out.mono ?_
  rintro e w' ⟨rfl, rfl⟩
  go_wp2_with fail
  have HV1 := lhid (HV.out.next (below_drew1 (Below.refl _ _)))
  clear hrd hc1 hc2
  refine start_ (n := 24) (S := fun w' => w'.cell? ⟨g, 1, none⟩ = some (.slice Ae es.length ce) ∧ w'.cell? ⟨g, 2, none⟩ = some (.slice Al ls.length cl)) (ds := [20, 23]) #[false, false, false, false, false, false, false, false, false, false, false, false, false, false, false, false, false, false, false, false, false, false, false, false] (by kernel_rfl) rfl rfl ⟨HV1.out.c1, HV1.out.c2⟩ (fun hHeld => ?_)
  generalize w.drew = w1 at HV1 hHeld ⊢
  refine pure_ (i := 0) (N := some 21) (v := ?_) (a' := ?_) #[true, false, false, false, false, false, false, false, false, false, false, false, false, false, false, false, false, false, false, false, false, false, false, false] rfl rfl (by kernel_rfl) (fun _ _ _ h => h) (Or.inl ⟨by rfl, ?_⟩) ?_ ?_
  rotate_left
  · intro w'
    go_simp
    with_reducible rfl
  rotate_left
  · simp only [Act.put, List.setIfInBounds_toArray, List.set_cons_zero, List.set_cons_succ, i64_w, i32_w]
    rfl
  refine pure_ (i := 1) (N := some 22) (v := ?_) (a' := ?_) #[true, true, false, false, false, false, false, false, false, false, false, false, false, false, false, false, false, false, false, false, false, false, false, false] rfl rfl (by kernel_rfl) (fun _ _ _ h => h) (Or.inl ⟨by rfl, ?_⟩) ?_ ?_
  rotate_left
  · intro w'
    go_simp
    with_reducible rfl
  rotate_left
  · simp only [Act.put, List.setIfInBounds_toArray, List.set_cons_zero, List.set_cons_succ, i64_w, i32_w]
    rfl
  refine pure_ (i := 2) (N := some 23) (v := ?_) (a' := ?_) #[true, true, true, false, false, false, false, false, false, false, false, false, false, false, false, false, false, false, false, false, false, false, false, false] rfl rfl (by kernel_rfl) (fun _ _ _ h => h) (Or.inl ⟨by rfl, ?_⟩) ?_ ?_
  rotate_left
  · intro w'
    go_simp
    with_reducible rfl
  rotate_left
  · simp only [Act.put, List.setIfInBounds_toArray, List.set_cons_zero, List.set_cons_succ, i64_w, i32_w]
    rfl
  refine pure_ (i := 3) (N := some 24) (v := ?_) (a' := ?_) #[true, true, true, true, false, false, false, false, false, false, false, false, false, false, false, false, false, false, false, false, false, false, false, false] rfl rfl (by kernel_rfl) (fun _ _ _ h => h) (Or.inl ⟨by rfl, ?_⟩) ?_ ?_
  rotate_left
  · intro w'
    go_simp
    with_reducible rfl
  rotate_left
  · simp only [Act.put, List.setIfInBounds_toArray, List.set_cons_zero, List.set_cons_succ, i64_w, i32_w]
    rfl
  refine pure_ (i := 4) (N := some 25) (v := ?_) (a' := ?_) #[true, true, true, true, true, false, false, false, false, false, false, false, false, false, false, false, false, false, false, false, false, false, false, false] rfl rfl (by kernel_rfl) (fun _ _ _ h => h) (Or.inl ⟨by rfl, ?_⟩) ?_ ?_
  rotate_left
  · intro w'
    go_simp
    with_reducible rfl
  rotate_left
  · simp only [Act.put, List.setIfInBounds_toArray, List.set_cons_zero, List.set_cons_succ, i64_w, i32_w]
    rfl
  refine pure_ (i := 6) (N := some 27) (v := ?_) (a' := ?_) #[true, true, true, true, true, false, true, false, false, false, false, false, false, false, false, false, false, false, false, false, false, false, false, false] rfl rfl (by kernel_rfl) (fun _ _ _ h => h) (Or.inl ⟨by rfl, ?_⟩) ?_ ?_
  rotate_left
  · intro w'
    go_simp
    with_reducible rfl
  rotate_left
  · simp only [Act.put, List.setIfInBounds_toArray, List.set_cons_zero, List.set_cons_succ, i64_w, i32_w]
    rfl
  refine pure_ (i := 10) (N := some 31) (v := ?_) (a' := ?_) #[true, true, true, true, true, false, true, false, false, false, true, false, false, false, false, false, false, false, false, false, false, false, false, false] rfl rfl (by kernel_rfl) (fun _ _ _ h => h) (Or.inl ⟨by rfl, ?_⟩) ?_ ?_
  rotate_left
  · intro w'
    go_simp
    with_reducible rfl
  rotate_left
  · simp only [Act.put, List.setIfInBounds_toArray, List.set_cons_zero, List.set_cons_succ, i64_w, i32_w]
    rfl
  refine pure_ (i := 11) (N := some 32) (v := ?_) (a' := ?_) #[true, true, true, true, true, false, true, false, false, false, true, true, false, false, false, false, false, false, false, false, false, false, false, false] rfl rfl (by kernel_rfl) (fun _ _ _ h => h) (Or.inl ⟨by rfl, ?_⟩) ?_ ?_
  rotate_left
  · intro w'
    go_simp
    with_reducible rfl
  rotate_left
  · simp only [Act.put, List.setIfInBounds_toArray, List.set_cons_zero, List.set_cons_succ, i64_w, i32_w]
    rfl
  refine pure_ (i := 12) (N := some 33) (v := ?_) (a' := ?_) #[true, true, true, true, true, false, true, false, false, false, true, true, true, false, false, false, false, false, false, false, false, false, false, false] rfl rfl (by kernel_rfl) (fun _ _ _ h => h) (Or.inl ⟨by rfl, ?_⟩) ?_ ?_
  rotate_left
  · intro w'
    go_simp
    with_reducible rfl
  rotate_left
  · simp only [Act.put, List.setIfInBounds_toArray, List.set_cons_zero, List.set_cons_succ, i64_w, i32_w]
    rfl
  refine pure_ (i := 14) (N := some 35) (v := ?_) (a' := ?_) #[true, true, true, true, true, false, true, false, false, false, true, true, true, false, true, false, false, false, false, false, false, false, false, false] rfl rfl (by kernel_rfl) (fun _ _ _ h => h) (Or.inl ⟨by rfl, ?_⟩) ?_ ?_
  rotate_left
  · intro w'
    go_simp
    with_reducible rfl
  rotate_left
  · simp only [Act.put, List.setIfInBounds_toArray, List.set_cons_zero, List.set_cons_succ, i64_w, i32_w]
    rfl
  refine take_ (i := 5) (N := some 26) (v := ?_) (a' := ?_) #[true, true, true, true, true, true, true, false, false, false, true, true, true, false, true, false, false, false, false, false, false, false, false, false] rfl rfl (by kernel_rfl) (fun _ _ _ h => h) (Or.inl ⟨by rfl, ?_⟩) hHeld ?_ ?_
  rotate_left
  · rintro w' ⟨s0, s1⟩
    go_simp
    with_reducible rfl
  rotate_left
  · simp only [Act.put, List.setIfInBounds_toArray, List.set_cons_zero, List.set_cons_succ, i64_w, i32_w]
    rfl
  refine take_ (i := 13) (N := some 34) (v := ?_) (a' := ?_) #[true, true, true, true, true, true, true, false, false, false, true, true, true, true, true, false, false, false, false, false, false, false, false, false] rfl rfl (by kernel_rfl) (fun _ _ _ h => h) (Or.inl ⟨by rfl, ?_⟩) hHeld ?_ ?_
  rotate_left
  · rintro w' ⟨s0, s1⟩
    go_simp
    with_reducible rfl
  rotate_left
  · simp only [Act.put, List.setIfInBounds_toArray, List.set_cons_zero, List.set_cons_succ, i64_w, i32_w]
    rfl
  refine one_ (i := 7) (N := some 28) #[true, true, true, true, true, true, true, true, false, false, true, true, true, true, true, false, false, false, false, false, false, false, false, false] rfl rfl (by kernel_rfl) (by decide) (fun K hK => ?_)
  refine goes_ Try.func81 (by kernel_rfl) rfl #[.slice A xs.length c] (by rfl) rfl rfl (by simp only [List.map_toArray, List.map_cons, List.map_nil]; rfl) ?_
  with_reducible refine (clone_calls _ A c xs (HX.out _ HV1.out.keep) hc (by omega)).mono ?_
  rintro e w2 ⟨vc, rfl, ho2, hb2⟩
  refine ⟨_, rfl, ?_⟩
  obtain ⟨Ac, cc, rfl⟩ := Kd.R_slice ho2
  have HV2 := lhid (HV1.out.next hb2)
  have HX2 := lhid (Kd.R_lower (Kd.R_new' (u := .slice Ae es.length ce) ho2 (fun k hk => (own_typed HV1.out.re k hk).2.1)) HV1.out.size)
  clear hb2 ho2 HV1
  refine hK.out _ _ ⟨HV2.out.c1, HV2.out.c2⟩ (fun hHeld => ?_)
  clear hK K
  refine norm_ (a' := ?_) ?_ ?_
  rotate_left
  · show Act.put _ (some 28) _ = _
    simp only [Act.put, List.setIfInBounds_toArray, List.set_cons_zero, List.set_cons_succ, i64_w, i32_w]
    rfl
  refine one_ (i := 8) (N := some 29) #[true, true, true, true, true, true, true, true, true, false, true, true, true, true, true, false, false, false, false, false, false, false, false, false] rfl rfl (by kernel_rfl) (by decide) (fun K hK => ?_)
  refine value_ (w1 := ?_) (v := ?_) (by rfl) rfl ?_ ?_
  rotate_left 2
  · go_simp
    constructor
    · rfl
    · rfl
  refine hK.out _ _ ⟨(HV2.out.alloc _).c1, (HV2.out.alloc _).c2⟩ (fun hHeld => ?_)
  clear hK K
  refine norm_ (a' := ?_) ?_ ?_
  rotate_left
  · show Act.put _ (some 29) _ = _
    simp only [Act.put, List.setIfInBounds_toArray, List.set_cons_zero, List.set_cons_succ, i64_w, i32_w]
    rfl
  refine one_ (i := 9) (N := some 30) #[true, true, true, true, true, true, true, true, true, true, true, true, true, true, true, false, false, false, false, false, false, false, false, false] rfl rfl (by kernel_rfl) (by decide) (fun K hK => ?_)
  refine Kd.R_append_step (Kd.slice 5 (Kd.int .u8)) (w0 := w) base (by rfl) (.tmp 26) (.tmp 29) 39 22 (.slice none 0 0) 24 rfl Try.underlying39 info22 rfl (by decide) (by omega) (.slice Ae es.length ce) es xs [.slice Ac xs.length cc] (fun _ => True) (fun k_ => True ∧ some k_ ≠ (Value.slice Ae es.length ce).ownBlock) rfl rfl ?aP9 (fun _ hk => hk) (fun _ _ => trivial) ?aO9 ?aB9 ?aS9 ?aL9 ?_
  (case aP9 => exact Kd.M_row HX2.out)
  (case aO9 => exact HV2.out.re)
  (case aB9 => exact HV2.out.below)
  (case aS9 => exact HV2.out.size)
  (case aL9 => omega)
  intro ve3 w3 ho3 hb3 hg3 hat3
  obtain ⟨A3, c3, rfl⟩ := Kd.R_slice ho3
  have HV3 := lhid (HV2.out.appE ho3 hb3 hg3)
  clear HV2 HX2 ho3 hb3 hg3 hat3
  refine hK.out _ _ ⟨HV3.out.c1, HV3.out.c2⟩ (fun hHeld => ?_)
  clear hK K
  refine norm_ (a' := ?_) ?_ ?_
  rotate_left
  · show Act.put _ (some 30) _ = _
    simp only [Act.put, List.setIfInBounds_toArray, List.set_cons_zero, List.set_cons_succ, i64_w, i32_w]
    rfl
  refine one_ (i := 15) (N := some 36) #[true, true, true, true, true, true, true, true, true, true, true, true, true, true, true, true, false, false, false, false, false, false, false, false] rfl rfl (by kernel_rfl) (by decide) (fun K hK => ?_)
  refine goes_ Try.func28 (by kernel_rfl) rfl #[.slice A xs.length c] (by rfl) rfl rfl (by simp only [List.map_toArray, List.map_cons, List.map_nil]; rfl) ?_
  with_reducible refine (proof_Leaf.calls k A c xs r _ (HX.out _ HV3.out.keep) hc HR.out).mono ?_
  rintro e w4 ⟨rfl, hb4⟩
  refine ⟨_, rfl, ?_⟩
  have HV4 := lhid (HV3.out.next hb4)
  clear hb4 HV3
  refine hK.out _ _ ⟨HV4.out.c1, HV4.out.c2⟩ (fun hHeld => ?_)
  clear hK K
  refine norm_ (a' := ?_) ?_ ?_
  rotate_left
  · show Act.put _ (some 36) _ = _
    simp only [Act.put, List.setIfInBounds_toArray, List.set_cons_zero, List.set_cons_succ, i64_w, i32_w]
    rfl
  refine one_ (i := 16) (N := some 37) #[true, true, true, true, true, true, true, true, true, true, true, true, true, true, true, true, true, false, false, false, false, false, false, false] rfl rfl (by kernel_rfl) (by decide) (fun K hK => ?_)
  refine value_ (w1 := ?_) (v := ?_) (by rfl) rfl ?_ ?_
  rotate_left 2
  · go_simp
    constructor
    · rfl
    · rfl
  refine hK.out _ _ ⟨(HV4.out.alloc _).c1, (HV4.out.alloc _).c2⟩ (fun hHeld => ?_)
  clear hK K
  refine norm_ (a' := ?_) ?_ ?_
  rotate_left
  · show Act.put _ (some 37) _ = _
    simp only [Act.put, List.setIfInBounds_toArray, List.set_cons_zero, List.set_cons_succ, i64_w, i32_w]
    rfl
  refine one_ (i := 17) (N := some 38) #[true, true, true, true, true, true, true, true, true, true, true, true, true, true, true, true, true, true, false, false, false, false, false, false] rfl rfl (by kernel_rfl) (by decide) (fun K hK => ?_)
  refine Kd.R_append_step (Kd.int .u64) (w0 := w) base (by rfl) (.tmp 34) (.tmp 37) 46 33 (.int .u64 0) 8 rfl Try.underlying46 info33 rfl (by decide) (by omega) (.slice Al ls.length cl) ls r [.int .u64 r] (fun _ => True) (fun _ => False) rfl rfl ?aP17 (fun _ hk => hk.elim) (fun _ _ => trivial) ?aO17 ?aB17 ?aS17 ?aL17 ?_
  (case aP17 => exact rfl)
  (case aO17 => exact HV4.out.rl)
  (case aB17 => exact HV4.out.below)
  (case aS17 => exact HV4.out.size)
  (case aL17 => omega)
  intro vl5 w5 ho5 hb5 hg5 hat5
  obtain ⟨A5, c5, rfl⟩ := Kd.R_slice ho5
  have HV5 := lhid (HV4.out.appL ho5 hb5 hg5)
  clear HV4 ho5 hb5 hg5 hat5
  refine hK.out _ _ ⟨HV5.out.c1, HV5.out.c2⟩ (fun hHeld => ?_)
  clear hK K
  refine norm_ (a' := ?_) ?_ ?_
  rotate_left
  · show Act.put _ (some 38) _ = _
    simp only [Act.put, List.setIfInBounds_toArray, List.set_cons_zero, List.set_cons_succ, i64_w, i32_w]
    rfl
  refine pure_ (i := 18) (N := some 39) (v := ?_) (a' := ?_) #[true, true, true, true, true, true, true, true, true, true, true, true, true, true, true, true, true, true, true, false, false, false, false, false] rfl rfl (by kernel_rfl) (fun _ _ _ h => h) (Or.inl ⟨by rfl, ?_⟩) ?_ ?_
  rotate_left
  · intro w'
    go_simp
    with_reducible rfl
  rotate_left
  · simp only [Act.put, List.setIfInBounds_toArray, List.set_cons_zero, List.set_cons_succ, i64_w, i32_w]
    rfl
  refine pure_ (i := 19) (N := some 40) (v := ?_) (a' := ?_) #[true, true, true, true, true, true, true, true, true, true, true, true, true, true, true, true, true, true, true, true, false, false, false, false] rfl rfl (by kernel_rfl) (fun _ _ _ h => h) (Or.inl ⟨by rfl, ?_⟩) ?_ ?_
  rotate_left
  · intro w'
    go_simp
    with_reducible rfl
  rotate_left
  · simp only [Act.put, List.setIfInBounds_toArray, List.set_cons_zero, List.set_cons_succ, i64_w, i32_w]
    rfl
  refine last_ (i := 20) (N := none) #[true, true, true, true, true, true, true, true, true, true, true, true, true, true, true, true, true, true, true, true, true, false, false, false] rfl rfl (by kernel_rfl) (by decide) (fun K hK => ?_)
  have hf5 := HV5.out.f1
  have hc5 := HV5.out.c1
  refine skip_ (w1 := ?_) (by rfl) rfl ?_ ?_
  rotate_left
  · go_simp
    rfl
  refine hK.out _ _ ?_
  clear hK K
  refine pure_ (i := 21) (N := some 41) (v := ?_) (a' := ?_) #[true, true, true, true, true, true, true, true, true, true, true, true, true, true, true, true, true, true, true, true, true, true, false, false] rfl rfl (by kernel_rfl) (fun _ _ _ h => h) (Or.inl ⟨by rfl, ?_⟩) ?_ ?_
  rotate_left
  · intro w'
    go_simp
    with_reducible rfl
  rotate_left
  · simp only [Act.put, List.setIfInBounds_toArray, List.set_cons_zero, List.set_cons_succ, i64_w, i32_w]
    rfl
  refine pure_ (i := 22) (N := some 42) (v := ?_) (a' := ?_) #[true, true, true, true, true, true, true, true, true, true, true, true, true, true, true, true, true, true, true, true, true, true, true, false] rfl rfl (by kernel_rfl) (fun _ _ _ h => h) (Or.inl ⟨by rfl, ?_⟩) ?_ ?_
  rotate_left
  · intro w'
    go_simp
    with_reducible rfl
  rotate_left
  · simp only [Act.put, List.setIfInBounds_toArray, List.set_cons_zero, List.set_cons_succ, i64_w, i32_w]
    rfl
  refine last_ (i := 23) (N := none) #[true, true, true, true, true, true, true, true, true, true, true, true, true, true, true, true, true, true, true, true, true, true, true, true] rfl rfl (by kernel_rfl) (by decide) (fun K hK => ?_)
  have hf6 := HV5.out.f2
  have hc6 := HV5.out.c2
  refine skip_ (w1 := ?_) (by rfl) rfl ?_ ?_
  rotate_left
  · go_simp
    rfl
  refine hK.out _ _ ?_
  clear hK K
  refine done_ (by kernel_rfl) ?_

  have HD := lhid (HV5.out.done h70.out)
  have hlen : (es ++ [xs]).length = es.length + 1 := by simp
  have hlen2 : (ls ++ [r]).length = ls.length + 1 := by simp
  rw [hlen, hlen2] at HD
  generalize (w5.setCell ⟨g, 1, none⟩ (.slice A3 (es.length + 1) c3)).setCell ⟨g, 2, none⟩ (.slice A5 (ls.length + 1) c5) = w6 at *
  have hc6 := HD.out.c1
  clear HV5
  go_wp2_with fail
  go_ret2
  exact ⟨by simp, ⟨HD.out.lo, HD.out.lt, _, _, HD.out.hb, HD.out.re, HD.out.rl⟩, HD.out.below, HD.out.keep⟩
set_option maxHeartbeats 1600000 in
set_option maxRecDepth 100000 in
/-- Root: the root of all. -/
theorem root_calls (k base : Nat) (w : World) (g : Nat) (es : List (List Int)) (ls : List Int) (r : Int) (h : LG base w g es ls) (hr : proof_root.f k ls = some r) :
    Calls Try.prog 53 #[.pointer (some ⟨g, 0, none⟩)] w fun e w' => e = .returned (.int .u64 r) ∧ Below w.heap.size w w' := by
  obtain ⟨Ae, ce, Al, cl, hv⟩ := h.lv
  have HV := lhid hv
  have HR := lhid hr
  have hrd := lhid (ready_calls w g _ _ hv.hb)
  have hc2 := hv.c2
  have hu70 := Try.underlying70
  obtain ⟨_, hcl, hC⟩ := Kd.R_reads' hv.rl
  have HC := lhid hC
  clear hv hr h hC
  go_enter Try.func53, Try.ntmps53
  go_wp2_with fail
  refine hrd.out.mono ?_
  rintro e w' ⟨rfl, rfl⟩
  go_wp2_with fail
  refine (proof_root.calls k Al cl ls r _ HC.out hcl HR.out).mono ?_
  rintro e w' ⟨rfl, hb⟩
  go_wp2_with fail
  go_ret
  exact ⟨rfl, hb⟩
set_option maxHeartbeats 1600000 in
set_option maxRecDepth 100000 in
/-- first: the first leaves. -/
theorem first_calls (base : Nat) (w : World) (g : Nat) (es : List (List Int)) (ls : List Int) (n : Int) (h : LG base w g es ls) (h1 : 1 ≤ n) (h2 : n ≤ ls.length) :
    Calls Try.prog 82 #[.pointer (some ⟨g, 0, none⟩), .int .i64 n] w fun e w' => (∃ A, e = .returned (.tuple #[.slice A n.toNat n.toNat, .int .i64 0]) ∧ Kd.C (Kd.int .u64) w A (ls.take n.toNat).length (ls.take n.toNat)) ∧ w = w' := by
  obtain ⟨Ae, ce, Al, cl, hv⟩ := h.lv
  have hrd := lhid (ready_calls w g _ _ hv.hb)
  have hc2 := hv.c2
  have hu70 := Try.underlying70
  obtain ⟨_, hcl, hC⟩ := Kd.R_reads' hv.rl
  obtain ⟨i0, hi0, _, hsz, _⟩ := info_parts info33
  obtain ⟨hcut, hA, hC1⟩ := print_take3_of (P := Try.prog) (Value.int .u64) 0 46 33 .i64 Try.underlying46 hi0 hsz Al cl ls n (by omega) h2 hcl
  have HC1 := lhid (show Kd.C (Kd.int .u64) w Al (ls.take n.toNat).length (ls.take n.toNat) from Kd.C_of_reads (h1 := fun _ => rfl) (hA _ (Kd.reads_of_C hC)))
  have hd1 : decide (n < 1) = false := decide_eq_false (by omega)
  have hd2 : decide (n > (ls.length : Int)) = false := decide_eq_false (by omega)
  clear hv h hC hA hC1 hi0 hsz
  go_enter Try.func82, Try.ntmps82
  go_wp2_with fail
  refine hrd.out.mono ?_
  rintro e w' ⟨rfl, rfl⟩
  go_wp2_with fail
  go_ret2
  exact ⟨⟨Al, rfl, HC1.out⟩, rfl⟩
set_option maxHeartbeats 1600000 in
set_option maxRecDepth 100000 in
/-- Include: the steps of an entry. -/
theorem include_calls (k base : Nat) (w : World) (g : Nat) (es : List (List Int)) (ls : List Int) (i n : Int) (r : List S54) (h : LG base w g es ls) (h1 : 1 ≤ n) (h2 : n ≤ ls.length) (h3 : 0 ≤ i) (h4 : i < n) (hr : proof_include.f k (ls.take n.toNat) i = some r) :
    Calls Try.prog 50 #[.pointer (some ⟨g, 0, none⟩), .int .i64 i, .int .i64 n] w fun e w' => ∃ v, e = .returned (.tuple #[v, .int .i64 0]) ∧ Kd.R k54 54 w' w.heap.size (fun _ => True) v r ∧ Below w.heap.size w w' := by
  have HF := lhid (first_calls base w g es ls n h h1 h2)
  have HR := lhid hr
  have hd1 : decide (i < 0) = false := decide_eq_false (by omega)
  have hd2 : decide (i ≥ n) = false := decide_eq_false (by omega)
  have hlen : (ls.take n.toNat).length = n.toNat := by rw [List.length_take]; omega
  clear h hr
  go_enter Try.func50, Try.ntmps50
  go_wp2_with fail
  refine HF.out.mono ?_
  rintro e w' ⟨⟨A, rfl, hC⟩, rfl⟩
  have hI := proof_include.calls k A n.toNat (ls.take n.toNat) i r _ hC (by omega) HR.out
  rw [hlen] at hI
  have HI := lhid hI
  clear hC HF hI
  go_wp2_with fail
  refine HI.out.mono ?_
  rintro e w' ⟨v, rfl, hR, hb⟩
  go_wp2_with fail
  go_ret2
  exact ⟨v, rfl, hR, hb⟩
def leafA : Int := (proof_Leaf.f 20 [97]).getD 0
def leafB : Int := (proof_Leaf.f 20 [98]).getD 0
def rootAB : Int := (proof_Node.f 40 leafA leafB).getD 0
theorem leafA_eq : proof_Leaf.f 20 [97] = some leafA := by kernel_rfl
theorem leafB_eq : proof_Leaf.f 20 [98] = some leafB := by kernel_rfl
theorem nodeAB_eq : proof_Node.f 40 leafA leafB = some rootAB := by kernel_rfl
theorem rootAB_eq : proof_root.f 60 [leafA, leafB] = some rootAB := by kernel_rfl
theorem includeAB_eq : proof_include.f 60 [leafA, leafB] 1 = some [⟨leafA, true⟩] := by kernel_rfl
theorem includedAB_eq : proof_Included.f 60 [98] 1 2 rootAB [⟨leafA, true⟩] = some (true, 0) := by kernel_rfl
/-- A byte's literal in memory. -/
theorem lit_C (W : World) (b : Nat) (x : Int) (fr : Nat × Nat) (h : W.heap[b]? = some (.cells #[.int .u8 x] 5 fr)) : Kd.C (Kd.int .u8) W (some ⟨b, 0, none⟩) [x].length [x] := by
  refine Kd.C_of_reads (enc := Value.int .u8) (d := (0 : Int)) (h1 := fun _ => rfl) ⟨rfl, by simp [maxLen], fun _ => ⟨⟨b, 0, none⟩, rfl, fun j hj => ?_⟩⟩
  have hj0 : j = 0 := by simp at hj; omega
  subst hj0
  simp [World.cell?, Addr.add, h]
theorem lit_new (w : World) (x : Int) : (w.alloc (.cells #[.int .u8 x] 5 (1, 2))).heap[w.heap.size]? = some (.cells #[.int .u8 x] 5 (1, 2)) := by simpa using heap_alloc_new w (.cells #[.int .u8 x] 5 (1, 2))
theorem addlit (k base : Nat) (w : World) (g : Nat) (es : List (List Int)) (ls : List Int) (x r : Int) (h : LG base w g es ls) (hn : es.length < 4096) (hll : ls.length < 4096) (hr : proof_Leaf.f k [x] = some r) :
    Calls Try.prog 47 #[.pointer (some ⟨g, 0, none⟩), .slice (some ⟨w.heap.size, 0, none⟩) 1 1] (w.alloc (.cells #[.int .u8 x] 5 (1, 2))) fun e w' => e = .returned (.tuple #[.int .i64 es.length, .int .i64 0]) ∧ LG base w' g (es ++ [[x]]) (ls ++ [r]) ∧ Below base w w' := by
  have hb0 : base ≤ w.heap.size := Nat.le_trans h.lo (Nat.le_of_lt h.lt)
  have hA := below_alloc (Below.refl w.heap.size w) (.cells #[.int .u8 x] 5 (1, 2))
  refine (add_calls k base _ g es ls (some ⟨w.heap.size, 0, none⟩) 1 [x] r (h.next hA) (fun W hW => lit_C W w.heap.size x (1, 2) ?_) (by simp) (by simp) hn hll hr).mono ?_
  · rw [hW w.heap.size (by simp) (Or.inr ⟨_, _, lit_new w x⟩)]; exact lit_new w x
  · rintro e w' ⟨he, h1, h2, _⟩
    exact ⟨he, h1, (below_then (Below.refl base w) hb0 hA).trans h2⟩
theorem leaflit (k : Nat) (w : World) (x r : Int) (hr : proof_Leaf.f k [x] = some r) :
    Calls Try.prog 28 #[.slice (some ⟨w.heap.size, 0, none⟩) 1 1] (w.alloc (.cells #[.int .u8 x] 5 (1, 2))) fun e w' => e = .returned (.int .u64 r) ∧ Below w.heap.size w w' := by
  have hA := below_alloc (Below.refl w.heap.size w) (.cells #[.int .u8 x] 5 (1, 2))
  refine (proof_Leaf.calls k _ 1 [x] r _ (lit_C _ w.heap.size x (1, 2) (lit_new w x)) (by simp) hr).mono ?_
  rintro e w' ⟨he, h2⟩
  exact ⟨he, below_then hA hA.size h2⟩
def kimberlitelaw07_alive.f (k : Nat) : Option Bool := some true
theorem kimberlitelaw07_alive.mono : ∀ k, LeO (kimberlitelaw07_alive.f k) (kimberlitelaw07_alive.f (k + 1)) := fun _ => LeO.refl _
set_option maxHeartbeats 3200000 in
set_option maxRecDepth 100000 in
theorem kimberlitelaw07_alive.calls (k : Nat) (r : Bool) (w : World) (h : kimberlitelaw07_alive.f k = some r) : Calls Try.prog 16 #[] w fun e w' => e = .returned (.bool r) ∧ Below w.heap.size w w' := by
  injection h with h
  subst h
  have hcv : ∀ (W : World) (x : Int), (convert 22 22 (.slice (some ⟨W.heap.size, 0, none⟩) 1 1)).run Try.prog (W.alloc (.cells #[.int .u8 x] 5)) = .ok (.slice (some ⟨W.heap.size, 0, none⟩) 1 1) (W.alloc (.cells #[.int .u8 x] 5 (1, 2))) := fun W x => Lib.run_convert_bytes_const W 22 5 #[.int .u8 x] 1 1 Try.underlying22 Try.underlying5
  go_enter Try.func16, Try.ntmps16
  go_wp2_with fail
  refine (new_calls w).mono ?_
  rintro e w1 ⟨rfl, hG1, hB1⟩
  have HG1 := lhid hG1
  have HB1 := lhid hB1
  generalize hg : w.heap.size = g at *
  have hcv1 := hcv w1 97
  clear hG1 hB1
  go_wp2_with fail
  refine (addlit 20 g w1 g [] [] 97 leafA HG1.out (by simp) (by simp) leafA_eq).mono ?_
  rintro e w2 ⟨rfl, hG2, hB2⟩
  have HG2 := lhid hG2
  have HB2 := lhid (HB1.out.trans hB2)
  have hcv2 := hcv w2 98
  clear hG2 hB2 HG1 HB1 hcv1
  go_wp2_with fail
  refine (addlit 20 g w2 g _ _ 98 leafB HG2.out (by simp) (by simp) leafB_eq).mono ?_
  rintro e w3 ⟨rfl, hG3, hB3⟩
  have HG3 := lhid hG3
  have HB3 := lhid (HB2.out.trans hB3)
  clear hG3 hB3 HG2 HB2 hcv2
  go_wp2_with fail
  refine (include_calls 60 g w3 g _ _ 1 2 [⟨leafA, true⟩] HG3.out (by omega) (by simp) (by omega) (by omega) includeAB_eq).mono ?_
  rintro e w4 ⟨v, rfl, hS, hB4⟩
  have hz3 : g ≤ w3.heap.size := Nat.le_trans HG3.out.lo (Nat.le_of_lt HG3.out.lt)
  obtain ⟨As, cs, rfl⟩ := Kd.R_slice hS
  have HS := lhid (Kd.R_lower hS hz3)
  have HG4 := lhid (HG3.out.next hB4)
  have HB4 := lhid (below_then HB3.out hz3 hB4)
  have hcv4 := hcv w4 98
  clear hS hB4 HG3 HB3
  go_wp2_with fail
  have hA5 := below_alloc (Below.refl w4.heap.size w4) (.cells #[.int .u8 98] 5 (1, 2))
  refine (root_calls 60 g _ g _ _ rootAB (HG4.out.next hA5) rootAB_eq).mono ?_
  rintro e w5 ⟨rfl, hB5⟩
  have hz4 : g ≤ w4.heap.size := Nat.le_trans HG4.out.lo (Nat.le_of_lt HG4.out.lt)
  have hB45 := below_then hA5 hA5.size hB5
  have HG5 := lhid (HG4.out.next hB45)
  have HS5 := lhid (Kd.R_below HS.out hB45)
  have HB5 := lhid (below_then HB4.out hz4 hB45)
  have HL5 := lhid (lit_C w5 w4.heap.size 98 (1, 2) (by rw [hB5.block w4.heap.size (by simp)]; exact lit_new w4 98))
  obtain ⟨_, hcs, hCS⟩ := Kd.R_reads' HS5.out
  have HI := lhid (proof_Included.calls 60 _ 1 [98] 1 2 rootAB As cs [⟨leafA, true⟩] true 0 w5 HL5.out (by simp) hCS hcs includedAB_eq)
  clear hA5 hB45 hB5 HG4 HS HB4 HL5 hCS hcs hcv4
  go_wp2_with fail
  refine HI.out.mono ?_
  rintro e w6 ⟨rfl, hB6⟩
  have hz5 : g ≤ w5.heap.size := Nat.le_trans HG5.out.lo (Nat.le_of_lt HG5.out.lt)
  have HG6 := lhid (HG5.out.next hB6)
  have HS6 := lhid (Kd.R_below HS5.out hB6)
  have HB6 := lhid (below_then HB5.out hz5 hB6)
  obtain ⟨ad, e0, hx0, hx1⟩ := at_T54 (Kd.R_reads' HS6.out).2.2 0 (by decide) (by simp)
  cases e0
  rw [show ((0 : Int)).toNat * 2 = 0 from rfl, Addr.add_zero'] at hx1
  have hx2 : w6.cell? ⟨ad.block, ad.off + 1, none⟩ = some (.bool true) := hx1
  clear hB6 HG5 HS5 HB5 HI hx0 hx1
  have hR6 := lhid (root_calls 60 g w6 g _ _ rootAB HG6.out rootAB_eq)
  go_wp2_with fail
  refine hR6.out.mono ?_
  rintro e w7 ⟨rfl, hB7⟩
  have hz6 : g ≤ w6.heap.size := Nat.le_trans HG6.out.lo (Nat.le_of_lt HG6.out.lt)
  have HB7 := lhid (below_then HB6.out hz6 hB7)
  have hz7 : g ≤ w7.heap.size := Nat.le_trans hz6 hB7.size
  have hcv7 := hcv w7 97
  clear hB7 HG6 HS6 HB6 hR6 hx2
  go_wp2_with fail
  refine (leaflit 20 w7 97 leafA leafA_eq).mono ?_
  rintro e w8 ⟨rfl, hB8⟩
  have HB8 := lhid (below_then HB7.out hz7 hB8)
  have hz8 : g ≤ w8.heap.size := Nat.le_trans hz7 hB8.size
  have hcv8 := hcv w8 98
  clear hB8 HB7 hcv7
  go_wp2_with fail
  refine (leaflit 20 w8 98 leafB leafB_eq).mono ?_
  rintro e w9 ⟨rfl, hB9⟩
  have HB9 := lhid (below_then HB8.out hz8 hB9)
  have hz9 : g ≤ w9.heap.size := Nat.le_trans hz8 hB9.size
  clear hB9 HB8 hcv8
  go_wp2_with fail
  refine (proof_Node.calls 40 leafA leafB rootAB w9 nodeAB_eq).mono ?_
  rintro e w10 ⟨rfl, hB10⟩
  have HB10 := lhid (below_then HB9.out hz9 hB10)
  clear hB10 HB9
  go_wp2_with fail
  go_ret
  exact ⟨by simp, by rw [hg]; exact HB10.out⟩
end Go.Proofs.Ytacjdoekgmmfoaa.PL
end
section
namespace Go.Proofs.Ytacjdoekgmmfoaa.PL
open Go.RowKit Go.Proofs.YtacjdoekgmmfoaaW.PrintWords Go.Proofs.YtacjdoekgmmfoaaW.PrintLast Go.Proofs.YtacjdoekgmmfoaaW.PrintMore
set_option linter.unusedVariables false
set_option linter.unusedSimpArgs false
set_option maxHeartbeats 1600000 in
set_option maxRecDepth 100000 in
/-- Len. -/
theorem len_calls (base : Nat) (w : World) (g : Nat) (es : List (List Int)) (ls : List Int) (h : LG base w g es ls) :
    Calls Try.prog 52 #[.pointer (some ⟨g, 0, none⟩)] w fun e w' => e = .returned (.int .i64 es.length) ∧ w = w' := by
  obtain ⟨Ae, ce, Al, cl, hv⟩ := h.lv
  have hrd := lhid (ready_calls w g _ _ hv.hb)
  have hc1 := hv.c1
  have hu70 := Try.underlying70
  clear hv h
  go_enter Try.func52, Try.ntmps52
  go_wp2_with fail
  refine hrd.out.mono ?_
  rintro e w' ⟨rfl, rfl⟩
  go_wp2_with fail
  go_ret
  exact ⟨rfl, rfl⟩
set_option maxHeartbeats 1600000 in
set_option maxRecDepth 100000 in
/-- RootAt of a length that there was. -/
theorem rootAt_calls (k base : Nat) (w : World) (g : Nat) (es : List (List Int)) (ls : List Int) (n r : Int) (h : LG base w g es ls) (h1 : 0 ≤ n) (h2 : n ≤ ls.length) (hr : proof_root.f k (ls.take n.toNat) = some r) :
    Calls Try.prog 48 #[.pointer (some ⟨g, 0, none⟩), .int .i64 n] w fun e w' => e = .returned (.tuple #[.int .u64 r, .int .i64 0]) ∧ Below w.heap.size w w' := by
  obtain ⟨Ae, ce, Al, cl, hv⟩ := h.lv
  have hrd := lhid (ready_calls w g _ _ hv.hb)
  have hc2 := hv.c2
  have hu70 := Try.underlying70
  obtain ⟨_, hcl, hC⟩ := Kd.R_reads' hv.rl
  obtain ⟨i0, hi0, _, hsz, _⟩ := info_parts info33
  obtain ⟨hcut, hA, hC1⟩ := print_take3_of (P := Try.prog) (Value.int .u64) 0 46 33 .i64 Try.underlying46 hi0 hsz Al cl ls n (by omega) h2 hcl
  have hlen : (ls.take n.toNat).length = n.toNat := by rw [List.length_take]; omega
  have hR := proof_root.calls k Al n.toNat (ls.take n.toNat) r w (Kd.C_of_reads (h1 := fun _ => rfl) (hA _ (Kd.reads_of_C hC))) (by omega) hr
  rw [hlen] at hR hcut
  have hd1 : decide (n < 0) = false := decide_eq_false (by omega)
  have hd2 : decide (n > (ls.length : Int)) = false := decide_eq_false (by omega)
  have HR := lhid hR
  clear hv h hC hA hC1 hi0 hsz hr hlen hR
  go_enter Try.func48, Try.ntmps48
  go_wp2_with fail
  refine hrd.out.mono ?_
  rintro e w' ⟨rfl, rfl⟩
  go_wp2_with fail
  refine HR.out.mono ?_
  rintro e w' ⟨rfl, hb⟩
  go_wp2_with fail
  go_ret2
  exact ⟨rfl, hb⟩
set_option maxHeartbeats 1600000 in
set_option maxRecDepth 100000 in
/-- RootAt of a length that there was not. -/
theorem rootAt_none (base : Nat) (w : World) (g : Nat) (es : List (List Int)) (ls : List Int) (n : Int) (h : LG base w g es ls) (hn : ¬ (0 ≤ n ∧ n ≤ ls.length)) :
    Calls Try.prog 48 #[.pointer (some ⟨g, 0, none⟩), .int .i64 n] w fun e w' => e = .returned (.tuple #[.int .u64 0, .int .i64 6]) ∧ w = w' := by
  obtain ⟨Ae, ce, Al, cl, hv⟩ := h.lv
  have hrd := lhid (ready_calls w g _ _ hv.hb)
  have hc2 := hv.c2
  have hu70 := Try.underlying70
  clear hv h
  by_cases c : n < 0
  · have hd1 : decide (n < 0) = true := decide_eq_true c
    clear hn
    go_enter Try.func48, Try.ntmps48
    go_wp2_with fail
    refine hrd.out.mono ?_
    rintro e w' ⟨rfl, rfl⟩
    go_wp2_with fail
    go_ret2
    exact ⟨rfl, rfl⟩
  · have hd1 : decide (n < 0) = false := decide_eq_false c
    have hd2 : decide (n > (ls.length : Int)) = true := decide_eq_true (by omega)
    clear hn
    go_enter Try.func48, Try.ntmps48
    go_wp2_with fail
    refine hrd.out.mono ?_
    rintro e w' ⟨rfl, rfl⟩
    go_wp2_with fail
    go_ret2
    exact ⟨rfl, rfl⟩
set_option maxHeartbeats 1600000 in
set_option maxRecDepth 100000 in
/-- first of a length that there was not. -/
theorem first_none (base : Nat) (w : World) (g : Nat) (es : List (List Int)) (ls : List Int) (n : Int) (h : LG base w g es ls) (hn : ¬ (1 ≤ n ∧ n ≤ ls.length)) :
    Calls Try.prog 82 #[.pointer (some ⟨g, 0, none⟩), .int .i64 n] w fun e w' => e = .returned (.tuple #[.slice none 0 0, .int .i64 6]) ∧ w = w' := by
  obtain ⟨Ae, ce, Al, cl, hv⟩ := h.lv
  have hrd := lhid (ready_calls w g _ _ hv.hb)
  have hc2 := hv.c2
  have hu70 := Try.underlying70
  clear hv h
  by_cases c : n < 1
  · have hd1 : decide (n < 1) = true := decide_eq_true c
    clear hn
    go_enter Try.func82, Try.ntmps82
    go_wp2_with fail
    refine hrd.out.mono ?_
    rintro e w' ⟨rfl, rfl⟩
    go_wp2_with fail
    go_ret2
    exact ⟨rfl, rfl⟩
  · have hd1 : decide (n < 1) = false := decide_eq_false c
    have hd2 : decide (n > (ls.length : Int)) = true := decide_eq_true (by omega)
    clear hn
    go_enter Try.func82, Try.ntmps82
    go_wp2_with fail
    refine hrd.out.mono ?_
    rintro e w' ⟨rfl, rfl⟩
    go_wp2_with fail
    go_ret2
    exact ⟨rfl, rfl⟩
set_option maxHeartbeats 1600000 in
set_option maxRecDepth 100000 in
/-- Extend: the proof of a beginning. -/
theorem extend_calls (k base : Nat) (w : World) (g : Nat) (es : List (List Int)) (ls : List Int) (m n : Int) (r : List Int) (h : LG base w g es ls) (h1 : 1 ≤ m) (h2 : m ≤ n) (h4 : n ≤ ls.length) (hr : proof_extend.f k (ls.take n.toNat) m true = some r) :
    Calls Try.prog 51 #[.pointer (some ⟨g, 0, none⟩), .int .i64 m, .int .i64 n] w fun e w' => ∃ v, e = .returned (.tuple #[v, .int .i64 0]) ∧ Kd.R (Kd.int .u64) 33 w' w.heap.size (fun _ => True) v r ∧ Below w.heap.size w w' := by
  have HF := lhid (first_calls base w g es ls n h (by omega) h4)
  have HR := lhid hr
  have hd1 : decide (m < 1) = false := decide_eq_false (by omega)
  have hd2 : decide (m > n) = false := decide_eq_false (by omega)
  have hlen : (ls.take n.toNat).length = n.toNat := by rw [List.length_take]; omega
  clear h hr
  go_enter Try.func51, Try.ntmps51
  go_wp2_with fail
  refine HF.out.mono ?_
  rintro e w' ⟨⟨A, rfl, hC⟩, rfl⟩
  have hI := proof_extend.calls k A n.toNat (ls.take n.toNat) m true r _ hC (by omega) HR.out
  rw [hlen] at hI
  have HI := lhid hI
  clear hC HF hI
  go_wp2_with fail
  refine HI.out.mono ?_
  rintro e w' ⟨v, rfl, hR, hb⟩
  go_wp2_with fail
  go_ret2
  exact ⟨v, rfl, hR, hb⟩
set_option maxHeartbeats 1600000 in
set_option maxRecDepth 100000 in
/-- Extend of what is no beginning. -/
theorem extend_arg (base : Nat) (w : World) (g : Nat) (es : List (List Int)) (ls : List Int) (m n : Int) (h : LG base w g es ls) (h1 : 1 ≤ n) (h2 : n ≤ ls.length) (hm : ¬ (1 ≤ m ∧ m ≤ n)) :
    Calls Try.prog 51 #[.pointer (some ⟨g, 0, none⟩), .int .i64 m, .int .i64 n] w fun e w' => e = .returned (.tuple #[.slice none 0 0, .int .i64 2]) ∧ w = w' := by
  have HF := lhid (first_calls base w g es ls n h h1 h2)
  clear h
  by_cases c : m < 1
  · have hd1 : decide (m < 1) = true := decide_eq_true c
    clear hm
    go_enter Try.func51, Try.ntmps51
    go_wp2_with fail
    refine HF.out.mono ?_
    rintro e w' ⟨⟨A, rfl, hC⟩, rfl⟩
    clear hC HF
    go_wp2_with fail
    go_ret2
    exact ⟨rfl, rfl⟩
  · have hd1 : decide (m < 1) = false := decide_eq_false c
    have hd2 : decide (m > n) = true := decide_eq_true (by omega)
    clear hm
    go_enter Try.func51, Try.ntmps51
    go_wp2_with fail
    refine HF.out.mono ?_
    rintro e w' ⟨⟨A, rfl, hC⟩, rfl⟩
    clear hC HF
    go_wp2_with fail
    go_ret2
    exact ⟨rfl, rfl⟩
set_option maxHeartbeats 1600000 in
set_option maxRecDepth 100000 in
/-- Extend to a length that there was not. -/
theorem extend_none (base : Nat) (w : World) (g : Nat) (es : List (List Int)) (ls : List Int) (m n : Int) (h : LG base w g es ls) (hn : ¬ (1 ≤ n ∧ n ≤ ls.length)) :
    Calls Try.prog 51 #[.pointer (some ⟨g, 0, none⟩), .int .i64 m, .int .i64 n] w fun e w' => e = .returned (.tuple #[.slice none 0 0, .int .i64 6]) ∧ w = w' := by
  have HF := lhid (first_none base w g es ls n h hn)
  clear h hn
  go_enter Try.func51, Try.ntmps51
  go_wp2_with fail
  refine HF.out.mono ?_
  rintro e w' ⟨rfl, rfl⟩
  clear HF
  go_wp2_with fail
  go_ret2
  exact ⟨rfl, rfl⟩
set_option maxHeartbeats 1600000 in
set_option maxRecDepth 100000 in
/-- An entry that is too long is refused. -/
theorem add_long (base : Nat) (w : World) (g : Nat) (es : List (List Int)) (ls : List Int) (A : Option Addr) (n c : Nat) (h : LG base w g es ls) (hl : 256 < n) :
    Calls Try.prog 47 #[.pointer (some ⟨g, 0, none⟩), .slice A n c] w fun e w' => e = .returned (.tuple #[.int .i64 0, .int .i64 3]) ∧ w = w' := by
  obtain ⟨Ae, ce, Al, cl, hv⟩ := h.lv
  have hrd := lhid (ready_calls w g _ _ hv.hb)
  have hc1 := hv.c1
  have hu70 := Try.underlying70
  have hd1 : decide ((n : Int) > 256) = true := decide_eq_true (by omega)
  clear hv h
  go_enter Try.func47, Try.ntmps47
  go_wp2_with fail
  refine hrd.out.mono ?_
  rintro e w' ⟨rfl, rfl⟩
  go_wp2_with fail
  go_ret2
  exact ⟨rfl, rfl⟩
end Go.Proofs.Ytacjdoekgmmfoaa.PL
end
