/-
  The texts that the theorem in YtacjdoekgmmfoaaZRowLg rests on, merged (part 7); only what it reaches.
-/
import Derived.Test.YtacjdoekgmmfoaaZLg2
import Derived.Test.YtacjdoekgmmfoaaZLg3
import Derived.Test.YtacjdoekgmmfoaaZLg4
import Derived.Test.YtacjdoekgmmfoaaZLg5
section
namespace Go.Proofs.Ytacjdoekgmmfoaa.PL
open Go.RowKit Go.Proofs.YtacjdoekgmmfoaaW.PrintWords Go.Proofs.YtacjdoekgmmfoaaW.PrintLast Go.Proofs.YtacjdoekgmmfoaaW.PrintMore
attribute [local go_sem] max2_int min2_int max_two min_two max_three min_three max_four min_four   -- for this text's walks alone
set_option linter.unusedVariables false
set_option linter.unusedSimpArgs false
def proof_Include.f (k : Nat) (l0 : List (List Int)) (a1 : Int) : Option ((List (S54)) × Int) := (proof_listed.f k l0).bind fun bt388 => (if bt388.2 = 0 then (if a1 < 0 then (some (([] : List (S54)), 6)) else (if a1 ≥ (bt388.1.length : Int) then (some (([] : List (S54)), 6)) else ((proof_include.f k bt388.1 a1).bind fun t392 => (some (t392, 0))))) else (some (([] : List (S54)), bt388.2)))
theorem proof_Include.mono : ∀ a0 a1 k, LeO (proof_Include.f k a0 a1) (proof_Include.f (k + 1) a0 a1) := by
  intro a0 a1 k
  unfold proof_Include.f
  repeat' first
      | (with_reducible exact proof_include.mono _ _ _)
      | (with_reducible exact proof_listed.mono _ _)
      | (with_reducible exact LeO.refl _)
      | (with_reducible exact LeO.none _)
      | (with_reducible refine LeO.ite ?_ ?_)
      | (with_reducible refine LeO.bind ?_ (fun _ => ?_))
      | exact proof_include.mono _ _ _
      | exact proof_listed.mono _ _
      | exact LeO.none _
      | refine LeO.ite ?_ ?_
      | refine LeO.bind ?_ (fun _ => ?_)
set_option maxHeartbeats 8000000 in
set_option maxRecDepth 100000 in
theorem proof_Include.calls (k : Nat) (A0 : Option Addr) (c0 : Nat) (l0 : List (List Int)) (a1 : Int) (r1 : List (S54)) (r2 : Int) (w : World) (hr0 : Kd.C (Kd.slice 5 (Kd.int .u8)) w A0 l0.length l0) (hc0 : l0.length ≤ c0) (h : proof_Include.f k l0 a1 = some (r1, r2)) :
    Calls Try.prog 36 #[.slice A0 l0.length c0, .int .i64 a1] w fun e w' => ∃ v0_ : Value, e = .returned (.tuple #[v0_, .int .i64 r2]) ∧ Kd.R k54 54 w' w.heap.size (fun _ => True) v0_ r1 ∧ Below w.heap.size w w' := by
  have HR0 := Aside0.mk hr0
  have HC0 := Aside0.mk hc0
  clear hr0 hc0
  have HB := Aside0.mk (Below.refl w.heap.size w)
  have H : ((proof_listed.f k l0).bind fun bt388 => (if bt388.2 = 0 then (if a1 < 0 then (some (([] : List (S54)), 6)) else (if a1 ≥ (bt388.1.length : Int) then (some (([] : List (S54)), 6)) else ((proof_include.f k bt388.1 a1).bind fun t392 => (some (t392, 0))))) else (some (([] : List (S54)), bt388.2)))) = some (r1, r2) := h
  clear h
  replace H := Option.bind_eq_some_iff.mp H
  obtain ⟨⟨t388, t389⟩, A30, H⟩ := H
  replace H : (if t389 = 0 then (if a1 < 0 then (some (([] : List (S54)), 6)) else (if a1 ≥ (t388.length : Int) then (some (([] : List (S54)), 6)) else ((proof_include.f k t388 a1).bind fun t392 => (some (t392, 0))))) else (some (([] : List (S54)), t389))) = some (r1, r2) := H
  have A3 := Aside0.mk A30
  clear A30
  by_cases c4 : t389 = 0
  · rw [if_pos c4] at H
    have c4b0 : (t389 == 0) = true := beq_iff_eq.mpr c4
    have c4b1 : (t389 != 0) = false := bne_eq_false_iff_eq.mpr c4
    clear c4
    by_cases c5 : a1 < 0
    · rw [if_pos c5] at H
      have c5b0 : decide (a1 < 0) = true := decide_eq_true c5
      clear c5
      simp only [Option.some.injEq, Prod.mk.injEq] at H
      obtain ⟨rfl, rfl⟩ := H
      go_enter Try.func36, Try.ntmps36
      go_wp2_with (first | ((with_reducible refine gate_callee (f := 63) rfl ?_); refine goesL_ (some 10) rfl rfl Try.func63 (by kernel_rfl) rfl #[.slice A0 l0.length c0] rfl (by (try simp only [List.map_toArray, List.map_cons, List.map_nil]); first | done | rfl | (simp only [List.length_drop, List.length_take]; rfl)) ?_; (with_reducible refine (proof_listed.calls k _ _ l0 t388 t389 _ ?side1 ?side2 A3.out).mono ?_); (case side1 => repeat (first | exact HR0.out | (with_reducible refine Kd.C_alloc ?_ _) | (with_reducible refine Kd.C_drewN ?_ _) | (with_reducible refine Kd.C_drew ?_))); (case side2 => exact HC0.out); rintro e w6 ⟨v390, rfl, ho0, hb⟩; refine ⟨_, rfl, ?_⟩; have n0_ := Aside0.mk (Kd.R_lower ho0 (below_size (by repeat (first | (with_reducible first | exact HB.out | apply below_alloc | apply pw_below_drewN | apply below_drew1) | exact HB.out)))); have n1_ := Aside0.mk (below_step (by repeat (first | (with_reducible first | exact HB.out | apply below_alloc | apply pw_below_drewN | apply below_drew1) | exact HB.out)) hb); clear HB; have HO391 := n0_; have HB := n1_; clear n0_ n1_; (try clear hb); (try clear hb2); (try clear hk); (try clear hi); (try clear ho0)))
      go_ret2
      exact ⟨_, by first | rfl | (simp [errW_none, errW_some] <;> rfl) | (simp [*, errW_none, errW_some] <;> rfl), by first | exact Kd.R_nil _ _ _ _ _ | exact Kd.N_nil _ _ _ _ _ | exact Kd.V_nil _ _ _ _ _ | exact Kd.Q_nil _ _ _ _ _ | exact Kd.S_nil _ _ _ _ _, by repeat (first | (with_reducible first | exact HB.out | apply below_alloc | apply pw_below_drewN | apply below_drew1) | exact HB.out)⟩
    · rw [if_neg c5] at H
      have c5b0 : decide (a1 < 0) = false := decide_eq_false c5
      clear c5
      by_cases c7 : a1 ≥ (t388.length : Int)
      · rw [if_pos c7] at H
        have c7b0 : decide ((t388.length : Int) ≤ a1) = true := decide_eq_true c7
        clear c7
        simp only [Option.some.injEq, Prod.mk.injEq] at H
        obtain ⟨rfl, rfl⟩ := H
        go_enter Try.func36, Try.ntmps36
        go_wp2_with (first | ((with_reducible refine gate_callee (f := 63) rfl ?_); refine goesL_ (some 10) rfl rfl Try.func63 (by kernel_rfl) rfl #[.slice A0 l0.length c0] rfl (by (try simp only [List.map_toArray, List.map_cons, List.map_nil]); first | done | rfl | (simp only [List.length_drop, List.length_take]; rfl)) ?_; (with_reducible refine (proof_listed.calls k _ _ l0 t388 t389 _ ?side1 ?side2 A3.out).mono ?_); (case side1 => repeat (first | exact HR0.out | (with_reducible refine Kd.C_alloc ?_ _) | (with_reducible refine Kd.C_drewN ?_ _) | (with_reducible refine Kd.C_drew ?_))); (case side2 => exact HC0.out); rintro e w8 ⟨v390, rfl, ho0, hb⟩; refine ⟨_, rfl, ?_⟩; have n0_ := Aside0.mk (Kd.R_lower ho0 (below_size (by repeat (first | (with_reducible first | exact HB.out | apply below_alloc | apply pw_below_drewN | apply below_drew1) | exact HB.out)))); have n1_ := Aside0.mk (below_step (by repeat (first | (with_reducible first | exact HB.out | apply below_alloc | apply pw_below_drewN | apply below_drew1) | exact HB.out)) hb); clear HB; have HO391 := n0_; have HB := n1_; clear n0_ n1_; (try clear hb); (try clear hb2); (try clear hk); (try clear hi); (try clear ho0); obtain ⟨Ao9, co9, eo9⟩ := Kd.R_slice HO391.out; subst eo9))
        go_ret2
        exact ⟨_, by first | rfl | (simp [errW_none, errW_some] <;> rfl) | (simp [*, errW_none, errW_some] <;> rfl), by first | exact Kd.R_nil _ _ _ _ _ | exact Kd.N_nil _ _ _ _ _ | exact Kd.V_nil _ _ _ _ _ | exact Kd.Q_nil _ _ _ _ _ | exact Kd.S_nil _ _ _ _ _, by repeat (first | (with_reducible first | exact HB.out | apply below_alloc | apply pw_below_drewN | apply below_drew1) | exact HB.out)⟩
      · rw [if_neg c7] at H
        have c7b0 : decide ((t388.length : Int) ≤ a1) = false := decide_eq_false c7
        clear c7
        replace H := Option.bind_eq_some_iff.mp H
        obtain ⟨t392, A100, H⟩ := H
        replace H : (some (t392, 0)) = some (r1, r2) := H
        have A10 := Aside0.mk A100
        clear A100
        simp only [Option.some.injEq, Prod.mk.injEq] at H
        obtain ⟨rfl, rfl⟩ := H
        go_enter Try.func36, Try.ntmps36
        go_wp2_with (first | ((with_reducible refine gate_callee (f := 63) rfl ?_); refine goesL_ (some 10) rfl rfl Try.func63 (by kernel_rfl) rfl #[.slice A0 l0.length c0] rfl (by (try simp only [List.map_toArray, List.map_cons, List.map_nil]); first | done | rfl | (simp only [List.length_drop, List.length_take]; rfl)) ?_; (with_reducible refine (proof_listed.calls k _ _ l0 t388 t389 _ ?side1 ?side2 A3.out).mono ?_); (case side1 => repeat (first | exact HR0.out | (with_reducible refine Kd.C_alloc ?_ _) | (with_reducible refine Kd.C_drewN ?_ _) | (with_reducible refine Kd.C_drew ?_))); (case side2 => exact HC0.out); rintro e w11 ⟨v390, rfl, ho0, hb⟩; refine ⟨_, rfl, ?_⟩; have n0_ := Aside0.mk (Kd.R_lower ho0 (below_size (by repeat (first | (with_reducible first | exact HB.out | apply below_alloc | apply pw_below_drewN | apply below_drew1) | exact HB.out)))); have n1_ := Aside0.mk (below_step (by repeat (first | (with_reducible first | exact HB.out | apply below_alloc | apply pw_below_drewN | apply below_drew1) | exact HB.out)) hb); clear HB; have HO391 := n0_; have HB := n1_; clear n0_ n1_; (try clear hb); (try clear hb2); (try clear hk); (try clear hi); (try clear ho0); obtain ⟨Ao12, co12, eo12⟩ := Kd.R_slice HO391.out; subst eo12) | ((with_reducible refine gate_callee (f := 70) rfl ?_); refine goesL_ (some 28) rfl rfl Try.func70 (by kernel_rfl) rfl #[.slice Ao12 t388.length co12, .int .i64 a1] rfl (by (try simp only [List.map_toArray, List.map_cons, List.map_nil]); first | done | rfl | (simp only [List.length_drop, List.length_take]; rfl)) ?_; (with_reducible refine (proof_include.calls k _ _ t388 a1 t392 _ ?side1 ?side2 A10.out).mono ?_); (case side1 => repeat (first | exact (Kd.R_reads' HO391.out).2.2 | (with_reducible refine Kd.C_alloc ?_ _) | (with_reducible refine Kd.C_drewN ?_ _) | (with_reducible refine Kd.C_drew ?_))); (case side2 => exact (Kd.R_reads' HO391.out).2.1); rintro e w13 ⟨v393, rfl, ho0, hb⟩; refine ⟨_, rfl, ?_⟩; have n0_ := Aside0.mk (Kd.R_below (by (with_reducible repeat (first | apply Kd.R_alloc | apply Kd.R_drewN | apply Kd.R_drew)); exact HO391.out) hb); have n1_ := Aside0.mk (Kd.R_lower ho0 (below_size (by repeat (first | (with_reducible first | exact HB.out | apply below_alloc | apply pw_below_drewN | apply below_drew1) | exact HB.out)))); have n2_ := Aside0.mk (below_step (by repeat (first | (with_reducible first | exact HB.out | apply below_alloc | apply pw_below_drewN | apply below_drew1) | exact HB.out)) hb); clear HO391; clear HB; have HO391 := n0_; have HO394 := n1_; have HB := n2_; clear n0_ n1_ n2_; (try clear hb); (try clear hb2); (try clear hk); (try clear hi); (try clear ho0)))
        go_ret2
        exact ⟨_, by first | rfl | (simp [errW_none, errW_some] <;> rfl) | (simp [*, errW_none, errW_some] <;> rfl), by (with_reducible repeat (first | apply Kd.R_alloc | apply Kd.R_drewN | apply Kd.R_drew)); exact HO394.out, by repeat (first | (with_reducible first | exact HB.out | apply below_alloc | apply pw_below_drewN | apply below_drew1) | exact HB.out)⟩
  · rw [if_neg c4] at H
    have c4b0 : (t389 == 0) = false := beq_eq_false_iff_ne.mpr c4
    have c4b1 : (t389 != 0) = true := bne_iff_ne.mpr c4
    simp only [Option.some.injEq, Prod.mk.injEq] at H
    obtain ⟨rfl, rfl⟩ := H
    go_enter Try.func36, Try.ntmps36
    go_wp2_with (first | ((with_reducible refine gate_callee (f := 63) rfl ?_); refine goesL_ (some 10) rfl rfl Try.func63 (by kernel_rfl) rfl #[.slice A0 l0.length c0] rfl (by (try simp only [List.map_toArray, List.map_cons, List.map_nil]); first | done | rfl | (simp only [List.length_drop, List.length_take]; rfl)) ?_; (with_reducible refine (proof_listed.calls k _ _ l0 t388 t389 _ ?side1 ?side2 A3.out).mono ?_); (case side1 => repeat (first | exact HR0.out | (with_reducible refine Kd.C_alloc ?_ _) | (with_reducible refine Kd.C_drewN ?_ _) | (with_reducible refine Kd.C_drew ?_))); (case side2 => exact HC0.out); rintro e w14 ⟨v390, rfl, ho0, hb⟩; refine ⟨_, rfl, ?_⟩; have n0_ := Aside0.mk (Kd.R_lower ho0 (below_size (by repeat (first | (with_reducible first | exact HB.out | apply below_alloc | apply pw_below_drewN | apply below_drew1) | exact HB.out)))); have n1_ := Aside0.mk (below_step (by repeat (first | (with_reducible first | exact HB.out | apply below_alloc | apply pw_below_drewN | apply below_drew1) | exact HB.out)) hb); clear HB; have HO391 := n0_; have HB := n1_; clear n0_ n1_; (try clear hb); (try clear hb2); (try clear hk); (try clear hi); (try clear ho0)))
    go_ret2
    exact ⟨_, by first | rfl | (simp [errW_none, errW_some] <;> rfl) | (simp [*, errW_none, errW_some] <;> rfl), by first | exact Kd.R_nil _ _ _ _ _ | exact Kd.N_nil _ _ _ _ _ | exact Kd.V_nil _ _ _ _ _ | exact Kd.Q_nil _ _ _ _ _ | exact Kd.S_nil _ _ _ _ _, by repeat (first | (with_reducible first | exact HB.out | apply below_alloc | apply pw_below_drewN | apply below_drew1) | exact HB.out)⟩
def kimberliteref07_way.f : Nat → List (List Int) → Int → Option ((List (S54)))
  | 0, _, _ => none
  | k + 1, l0, a1 => if (l0.length : Int) < 2 then (some ([] : List (S54))) else ((kimberliteref07_half.f k (l0.length : Int)).bind fun t395 => (if a1 < t395 then (if 0 ≤ t395 then (if t395 ≤ (l0.length : Int) then ((kimberliteref07_way.f k (l0.take (t395 : Int).toNat) a1).bind fun t400 => ((kimberliteref07_Top.f k (l0.drop (t395 : Int).toNat)).bind fun t407 => (if t400.length < 8796093022208 then (some (t400 ++ [(⟨t407, false⟩ : S54)])) else (none)))) else (none)) else (none)) else (if 0 ≤ t395 then (if t395 ≤ (l0.length : Int) then ((kimberliteref07_way.f k (l0.drop (t395 : Int).toNat) (wrap64 (a1 - t395))).bind fun t415 => ((kimberliteref07_Top.f k (l0.take (t395 : Int).toNat)).bind fun t422 => (if t415.length < 8796093022208 then (some (t415 ++ [(⟨t422, true⟩ : S54)])) else (none)))) else (none)) else (none))))
theorem kimberliteref07_way.mono_l : ∀ k, (∀ y0 y1, LeO (kimberliteref07_way.f k y0 y1) (kimberliteref07_way.f (k + 1) y0 y1))
  | 0 => fun _ _ r h => by simp [kimberliteref07_way.f] at h
  | k + 1 => by
    have ih0 := kimberliteref07_way.mono_l k
    · intro y0 y1
      unfold kimberliteref07_way.f
      repeat' first
      | (with_reducible exact ih0 _ _)
      | (with_reducible exact kimberliteref07_Top.mono _ _)
      | (with_reducible exact kimberliteref07_half.mono _ _)
      | (with_reducible exact LeO.refl _)
      | (with_reducible exact LeO.none _)
      | (with_reducible refine LeO.ite ?_ ?_)
      | (with_reducible refine LeO.bind ?_ (fun _ => ?_))
      | exact ih0 _ _
      | exact kimberliteref07_Top.mono _ _
      | exact kimberliteref07_half.mono _ _
      | exact LeO.none _
      | refine LeO.ite ?_ ?_
      | refine LeO.bind ?_ (fun _ => ?_)
theorem kimberliteref07_way.mono : ∀ a0 a1 k, LeO (kimberliteref07_way.f k a0 a1) (kimberliteref07_way.f (k + 1) a0 a1) := by
  intro a0 a1 k
  have ih0 := kimberliteref07_way.mono_l k
  exact ih0 a0 a1
def kimberliteref07_way.T5 : Bool × List (List Nat × List Nat) := (true, [([], []), ([], []), ([0, 1], [0, 1]), ([], []), ([2, 3], [2, 3]), ([], []), ([], []), ([5, 6], [5, 6]), ([7, 4], [7]), ([8], [8]), ([9], [9]), ([4, 10, 8], [4, 10]), ([11, 11, 0, 1, 2, 3, 4, 5, 6, 7, 8, 9, 10, 11], [11])])
def kimberliteref07_way.B5 : List Nat := [0, 0, 3, 0, 15, 0, 0, 96, 255, 511, 1023, 2047, 4095]
theorem kimberliteref07_way.tab5 : rtab .any (opsOf Try.f71 5) = kimberliteref07_way.T5 := by kernel_rfl
theorem kimberliteref07_way.bits5 : waitsOk kimberliteref07_way.T5.2 kimberliteref07_way.B5 = true := by kernel_rfl
def kimberliteref07_way.T6 : Bool × List (List Nat × List Nat) := (true, [([], []), ([], []), ([0, 1], [0, 1]), ([], []), ([], []), ([3, 4], [3, 4]), ([2, 5], [2, 5]), ([], []), ([], []), ([7, 8], [7, 8]), ([9, 6], [9]), ([10], [10]), ([11], [11]), ([6, 12, 10], [6, 12]), ([13, 13, 0, 1, 2, 3, 4, 5, 6, 7, 8, 9, 10, 11, 12, 13], [13])])
def kimberliteref07_way.B6 : List Nat := [0, 0, 3, 0, 0, 24, 63, 0, 0, 384, 1023, 2047, 4095, 8191, 16383]
theorem kimberliteref07_way.tab6 : rtab .any (opsOf Try.f71 6) = kimberliteref07_way.T6 := by kernel_rfl
theorem kimberliteref07_way.bits6 : waitsOk kimberliteref07_way.T6.2 kimberliteref07_way.B6 = true := by kernel_rfl
set_option maxHeartbeats 8000000 in
set_option maxRecDepth 100000 in
theorem kimberliteref07_way.calls (k : Nat) : ∀ (A0 : Option Addr) (c0 : Nat) (l0 : List (List Int)) (a1 : Int) (r : List (S54)) (w : World) (hr0 : Kd.C (Kd.slice 5 (Kd.int .u8)) w A0 l0.length l0) (hc0 : l0.length ≤ c0) (h : kimberliteref07_way.f k l0 a1 = some r),
    Calls Try.prog 71 #[.slice A0 l0.length c0, .int .i64 a1] w fun e w' => ∃ v0_ : Value, e = .returned (v0_) ∧ Kd.R k54 54 w' w.heap.size (fun _ => True) v0_ r ∧ Below w.heap.size w w' := by
  induction k using Nat.strongRecOn with
  | _ k ih =>
  intro A0 c0 l0 a1 r w hr0 hc0 h
  cases k with
  | zero => exact absurd h (by simp [kimberliteref07_way.f])
  | succ k =>
  simp only [kimberliteref07_way.f] at h
  have hu54 := Try.underlying54
  have HR0 := Aside0.mk hr0
  have HC0 := Aside0.mk hc0
  clear hr0 hc0
  have HB := Aside0.mk (Below.refl w.heap.size w)
  have H : (if (l0.length : Int) < 2 then (some ([] : List (S54))) else ((kimberliteref07_half.f k (l0.length : Int)).bind fun t395 => (if a1 < t395 then (if 0 ≤ t395 then (if t395 ≤ (l0.length : Int) then ((kimberliteref07_way.f k (l0.take (t395 : Int).toNat) a1).bind fun t400 => ((kimberliteref07_Top.f k (l0.drop (t395 : Int).toNat)).bind fun t407 => (if t400.length < 8796093022208 then (some (t400 ++ [(⟨t407, false⟩ : S54)])) else (none)))) else (none)) else (none)) else (if 0 ≤ t395 then (if t395 ≤ (l0.length : Int) then ((kimberliteref07_way.f k (l0.drop (t395 : Int).toNat) (wrap64 (a1 - t395))).bind fun t415 => ((kimberliteref07_Top.f k (l0.take (t395 : Int).toNat)).bind fun t422 => (if t415.length < 8796093022208 then (some (t415 ++ [(⟨t422, true⟩ : S54)])) else (none)))) else (none)) else (none))))) = some r := h
  clear h
  by_cases c3 : (l0.length : Int) < 2
  · rw [if_pos c3] at H
    have c3b0 : decide ((l0.length : Int) < 2) = true := decide_eq_true c3
    have c3b1 : decide (l0.length < 2) = true := decide_eq_true (by omega)
    clear c3
    obtain rfl := Option.some.inj H
    go_enter Try.func71, Try.ntmps71
    go_wp2
    go_ret
    exact ⟨_, by first | rfl | (simp [errW_none, errW_some] <;> rfl) | (simp [*, errW_none, errW_some] <;> rfl), by first | exact Kd.R_nil _ _ _ _ _ | exact Kd.N_nil _ _ _ _ _ | exact Kd.V_nil _ _ _ _ _ | exact Kd.Q_nil _ _ _ _ _ | exact Kd.S_nil _ _ _ _ _, by repeat (first | (with_reducible first | exact HB.out | apply below_alloc | apply pw_below_drewN | apply below_drew1) | exact HB.out)⟩
  · rw [if_neg c3] at H
    have c3b0 : decide ((l0.length : Int) < 2) = false := decide_eq_false c3
    have c3b1 : decide (l0.length < 2) = false := decide_eq_false (by omega)
    clear c3
    replace H := Option.bind_eq_some_iff.mp H
    obtain ⟨t395, A40, H⟩ := H
    replace H : (if a1 < t395 then (if 0 ≤ t395 then (if t395 ≤ (l0.length : Int) then ((kimberliteref07_way.f k (l0.take (t395 : Int).toNat) a1).bind fun t400 => ((kimberliteref07_Top.f k (l0.drop (t395 : Int).toNat)).bind fun t407 => (if t400.length < 8796093022208 then (some (t400 ++ [(⟨t407, false⟩ : S54)])) else (none)))) else (none)) else (none)) else (if 0 ≤ t395 then (if t395 ≤ (l0.length : Int) then ((kimberliteref07_way.f k (l0.drop (t395 : Int).toNat) (wrap64 (a1 - t395))).bind fun t415 => ((kimberliteref07_Top.f k (l0.take (t395 : Int).toNat)).bind fun t422 => (if t415.length < 8796093022208 then (some (t415 ++ [(⟨t422, true⟩ : S54)])) else (none)))) else (none)) else (none))) = some r := H
    have A4 := Aside0.mk A40
    clear A40
    by_cases c5 : a1 < t395
    · rw [if_pos c5] at H
      have c5b0 : decide (a1 < t395) = true := decide_eq_true c5
      clear c5
      by_cases c6 : 0 ≤ t395
      · rw [if_pos c6] at H
        have c6b0 := eq_true c6
        have c6b1 : decide (0 ≤ t395) = true := decide_eq_true c6
        clear c6
        by_cases c7 : t395 ≤ (l0.length : Int)
        · rw [if_pos c7] at H
          have c7b0 := eq_true c7
          have c7b1 : decide (t395 ≤ (l0.length : Int)) = true := decide_eq_true c7
          clear c7
          obtain ⟨y396, hy396⟩ : ∃ y_ : List (List Int), y_ = (l0.take (t395 : Int).toNat) := ⟨_, rfl⟩
          replace H : ((kimberliteref07_way.f k y396 a1).bind fun t400 => ((kimberliteref07_Top.f k (l0.drop (t395 : Int).toNat)).bind fun t407 => (if t400.length < 8796093022208 then (some (t400 ++ [(⟨t407, false⟩ : S54)])) else (none)))) = some r := by first | (rw [hy396]; with_reducible exact H) | (have H2_ := (Option.bind_some _ _).symm.trans H; rw [hy396]; with_reducible exact H2_) | (have H2_ := (Option.bind_some _ _).symm.trans H; with_reducible exact H2_) | with_reducible exact H | (rw [hy396]; exact H) | exact H
          have Ny396 := Aside0.mk hy396
          clear hy396
          replace H := Option.bind_eq_some_iff.mp H
          obtain ⟨t400, A80, H⟩ := H
          replace H : ((kimberliteref07_Top.f k (l0.drop (t395 : Int).toNat)).bind fun t407 => (if t400.length < 8796093022208 then (some (t400 ++ [(⟨t407, false⟩ : S54)])) else (none))) = some r := H
          have A8 := Aside0.mk A80
          clear A80
          have c9b0 := eq_true (of_decide_eq_true (by first | (with_reducible assumption) | assumption) : 0 ≤ t395)
          have c10b0 := eq_true (of_decide_eq_true (by first | (with_reducible assumption) | assumption) : t395 ≤ (l0.length : Int))
          obtain ⟨y403, hy403⟩ : ∃ y_ : List (List Int), y_ = (l0.drop (t395 : Int).toNat) := ⟨_, rfl⟩
          replace H : ((kimberliteref07_Top.f k y403).bind fun t407 => (if t400.length < 8796093022208 then (some (t400 ++ [(⟨t407, false⟩ : S54)])) else (none))) = some r := by first | (rw [hy403]; with_reducible exact H) | (have H2_ := (Option.bind_some _ _).symm.trans H; rw [hy403]; with_reducible exact H2_) | (have H2_ := (Option.bind_some _ _).symm.trans H; with_reducible exact H2_) | with_reducible exact H | (rw [hy403]; exact H) | exact H
          have Ny403 := Aside0.mk hy403
          clear hy403
          replace H := Option.bind_eq_some_iff.mp H
          obtain ⟨t407, A110, H⟩ := H
          replace H : (if t400.length < 8796093022208 then (some (t400 ++ [(⟨t407, false⟩ : S54)])) else (none)) = some r := H
          have A11 := Aside0.mk A110
          clear A110
          by_cases c12 : t400.length < 8796093022208
          · rw [if_pos c12] at H
            have LMc12 := Aside0.mk c12
            clear c12
            obtain ⟨y408, hy408⟩ : ∃ y_ : List (S54), y_ = (t400 ++ [(⟨t407, false⟩ : S54)]) := ⟨_, rfl⟩
            replace H : (some y408) = some r := by first | (rw [hy408]; with_reducible exact H) | (have H2_ := (Option.bind_some _ _).symm.trans H; rw [hy408]; with_reducible exact H2_) | (have H2_ := (Option.bind_some _ _).symm.trans H; with_reducible exact H2_) | with_reducible exact H | (rw [hy408]; exact H) | exact H
            have Ny408 := Aside0.mk hy408
            clear hy408
            obtain rfl := Option.some.inj H
            go_enter Try.func71, Try.ntmps71
            try go_wp2_with (first | ((with_reducible refine gate_callee (f := 87) rfl ?_); refine goesL_ (some 11) rfl rfl Try.func87 (by kernel_rfl) rfl #[.int .i64 (l0.length : Int)] rfl (by (try simp only [List.map_toArray, List.map_cons, List.map_nil]); first | done | rfl | (simp only [List.length_drop, List.length_take]; rfl)) ?_; (with_reducible refine (kimberliteref07_half.calls k (l0.length : Int) t395 _ A4.out).mono ?_); rintro e w' ⟨rfl, ⟨nd, rfl⟩⟩; refine ⟨_, rfl, ?_⟩))
            (try (rw [drewN_self w]; generalize hq_ : World.drewN w _ = w13; have n0_ := Aside0.mk (below_at hq_ HB.out); clear hq_ HB; have HB := n0_; clear n0_))
            have n0_ := Aside0.mk (below_drew1 HB.out)
            clear HB
            have HB := n0_
            clear n0_
            have q15 : (t395 : Int) ≤ ((l0.length : Int) : Int) := of_decide_eq_true (by first | (with_reducible assumption) | assumption)
            obtain ⟨i015, hi015, _, hsz15, _⟩ := info_parts info22
            have hroom15 : l0.length ≤ c0 := HC0.out
            have hC15 : Kd.C (Kd.slice 5 (Kd.int .u8)) _ A0 l0.length l0 := HR0.out
            have hcut15 := cut_to (P := Try.prog) 39 22 .i64 Try.underlying39 hi015 A0 l0.length c0 t395 (of_decide_eq_true (by first | (with_reducible assumption) | assumption)) q15 hroom15
            have hr15 := Kd.C_take (m := (t395 : Int).toNat) hC15 (by omega)
            have hy15 : y396.length = (t395 : Int).toNat := (by rw [Ny396.out, List.length_take]; omega)
            rw [← Ny396.out] at hr15
            rw [← hy15] at hcut15
            have HR399 := Aside0.mk hr15
            have HC399 := Aside0.mk (show y396.length ≤ c0 from by omega)
            clear hr15 hC15 hroom15 hi015 hsz15
            have KY15 := Aside0.mk hy15
            clear hy15
            replace q15 := eq_true q15
            have q16 : (t395 : Int) ≤ ((l0.length : Int) : Int) := of_decide_eq_true (by first | (with_reducible assumption) | assumption)
            obtain ⟨i016, hi016, _, hsz16, _⟩ := info_parts info22
            have hroom16 : l0.length ≤ c0 := HC0.out
            have hC16 : Kd.C (Kd.slice 5 (Kd.int .u8)) _ A0 l0.length l0 := HR0.out
            have q016 : (0 : Int) ≤ (t395 : Int) := of_decide_eq_true (by first | (with_reducible assumption) | assumption)
            have hcut16 := cut_from (P := Try.prog) 39 22 .i64 Try.underlying39 hi016 1 hsz16 A0 l0.length c0 t395 q016 q16
            have hr16 := Kd.C_drop (m := (t395 : Int).toNat) (c := c0) hC16 (by omega) hroom16
            obtain ⟨A16, hA16⟩ : ∃ A1, A1 = (if c0 = (t395 : Int).toNat then A0 else (A0 : Option Addr).map (·.add ((t395 : Int).toNat * 1))) := ⟨_, rfl⟩
            obtain ⟨c16, hc16⟩ : ∃ c1, c1 = c0 - (t395 : Int).toNat := ⟨_, rfl⟩
            have hy16 : y403.length = l0.length - (t395 : Int).toNat := (by rw [Ny403.out, List.length_drop] <;> omega)
            rw [show (l0).drop (t395 : Int).toNat = y403 from Ny403.out.symm] at hr16
            replace hr16 : Kd.C (Kd.slice 5 (Kd.int .u8)) _ A16 y403.length y403 := (by rw [hA16]; exact hr16)
            rw [← hy16, ← hA16, ← hc16] at hcut16
            have HR406 := Aside0.mk hr16
            have HC406 := Aside0.mk (show y403.length ≤ c16 from by rw [hy16, hc16]; exact Nat.sub_le_sub_right hroom16 _)
            clear hr16 hC16 hroom16 hi016 hsz16 hc16
            have KY16 := Aside0.mk hy16
            have KA16 := Aside0.mk hA16
            clear hy16 hA16
            replace q16 := eq_true q16
            refine start_ (n := 13) (S := fun w' => True) (ds := []) #[false, false, false, false, false, false, false, false, false, false, false, false, false] (by kernel_rfl) rfl rfl trivial (fun hHeld => ?_); refine with_tabW kimberliteref07_way.tab5 kimberliteref07_way.bits5 (fun HT_ HW_ => ?_)
            generalize w13.drew = w14 at HB HR399 HR406 hHeld ⊢
            refine pure_ (i := 0) (N := some 15) (v := ?_) (a' := ?_) #[true, false, false, false, false, false, false, false, false, false, false, false, false] rfl rfl (any_of HT_.out (by kernel_rfl)) (fun _ _ _ h => h) (Or.inl ⟨by rfl, ?_⟩) ?_ ?_
            rotate_left
            · intro w'
              go_simp
              with_reducible rfl
            rotate_left
            · simp only [Act.put, List.setIfInBounds_toArray, List.set_cons_zero, List.set_cons_succ, i64_w, i32_w]
              rfl
            refine pure_ (i := 1) (N := some 16) (v := ?_) (a' := ?_) #[true, true, false, false, false, false, false, false, false, false, false, false, false] rfl rfl (any_of HT_.out (by kernel_rfl)) (fun _ _ _ h => h) (Or.inl ⟨by rfl, ?_⟩) ?_ ?_
            rotate_left
            · intro w'
              go_simp
              with_reducible rfl
            rotate_left
            · simp only [Act.put, List.setIfInBounds_toArray, List.set_cons_zero, List.set_cons_succ, i64_w, i32_w]
              rfl
            refine pure_ (i := 2) (N := some 17) (v := ?_) (a' := ?_) #[true, true, true, false, false, false, false, false, false, false, false, false, false] rfl rfl (any_of HT_.out (by kernel_rfl)) (fun _ _ _ h => h) (Or.inl ⟨by rfl, ?_⟩) ?_ ?_
            rotate_left
            · intro w'
              go_simp
              with_reducible rfl
            rotate_left
            · simp only [Act.put, List.setIfInBounds_toArray, List.set_cons_zero, List.set_cons_succ, i64_w, i32_w]
              rfl
            refine pure_ (i := 3) (N := some 18) (v := ?_) (a' := ?_) #[true, true, true, true, false, false, false, false, false, false, false, false, false] rfl rfl (any_of HT_.out (by kernel_rfl)) (fun _ _ _ h => h) (Or.inl ⟨by rfl, ?_⟩) ?_ ?_
            rotate_left
            · intro w'
              go_simp
              with_reducible rfl
            rotate_left
            · simp only [Act.put, List.setIfInBounds_toArray, List.set_cons_zero, List.set_cons_succ, i64_w, i32_w]
              rfl
            refine pure_ (i := 5) (N := some 20) (v := ?_) (a' := ?_) #[true, true, true, true, false, true, false, false, false, false, false, false, false] rfl rfl (any_of HT_.out (by kernel_rfl)) (fun _ _ _ h => h) (Or.inl ⟨by rfl, ?_⟩) ?_ ?_
            rotate_left
            · intro w'
              go_simp
              with_reducible rfl
            rotate_left
            · simp only [Act.put, List.setIfInBounds_toArray, List.set_cons_zero, List.set_cons_succ, i64_w, i32_w]
              rfl
            refine pure_ (i := 6) (N := some 21) (v := ?_) (a' := ?_) #[true, true, true, true, false, true, true, false, false, false, false, false, false] rfl rfl (any_of HT_.out (by kernel_rfl)) (fun _ _ _ h => h) (Or.inl ⟨by rfl, ?_⟩) ?_ ?_
            rotate_left
            · intro w'
              go_simp
              with_reducible rfl
            rotate_left
            · simp only [Act.put, List.setIfInBounds_toArray, List.set_cons_zero, List.set_cons_succ, i64_w, i32_w]
              rfl
            refine pure_ (i := 7) (N := some 22) (v := ?_) (a' := ?_) #[true, true, true, true, false, true, true, true, false, false, false, false, false] rfl rfl (any_of HT_.out (by kernel_rfl)) (fun _ _ _ h => h) (Or.inl ⟨by rfl, ?_⟩) ?_ ?_
            rotate_left
            · intro w'
              go_simp
              with_reducible rfl
            rotate_left
            · simp only [Act.put, List.setIfInBounds_toArray, List.set_cons_zero, List.set_cons_succ, i64_w, i32_w]
              rfl
            refine one_ (i := 4) (N := some 19) #[true, true, true, true, true, true, true, true, false, false, false, false, false] rfl rfl (one_of HT_.out (by kernel_rfl)) (by decide) (fun K hK => ?_)
            refine goes_ Try.func71 (by kernel_rfl) rfl #[.slice A0 y396.length c0, .int .i64 a1] (by rfl) rfl rfl (by (try simp only [List.map_toArray, List.map_cons, List.map_nil]); first | done | rfl | (simp only [List.length_drop, List.length_take]; rfl)) ?_
            with_reducible refine (ih k (by omega) _ _ y396 a1 t400 _ ?side1 ?side2 A8.out).mono ?_
            (case side1 => repeat (first | exact (Kd.C_below HR399.out HB.out) | (with_reducible refine Kd.C_alloc ?_ _) | (with_reducible refine Kd.C_drewN ?_ _) | (with_reducible refine Kd.C_drew ?_)))
            (case side2 => exact HC399.out)
            rintro e w17 ⟨v401, rfl, ho0, hb⟩
            refine ⟨_, rfl, ?_⟩
            have n0_ := Aside0.mk (Kd.R_lower ho0 (below_size (by repeat (first | (with_reducible first | exact HB.out | apply below_alloc | apply pw_below_drewN | apply below_drew1) | exact HB.out))))
            have n1_ := Aside0.mk (below_step (by repeat (first | (with_reducible first | exact HB.out | apply below_alloc | apply pw_below_drewN | apply below_drew1) | exact HB.out)) hb)
            clear HB
            have HO402 := n0_
            have HB := n1_
            clear n0_ n1_
            (try clear hb)
            (try clear hb2)
            (try clear hk)
            (try clear hi)
            (try clear ho0)
            refine hK.out _ _ trivial (fun hHeld => ?_)
            clear hK K
            refine norm_ (a' := ?_) ?_ ?_
            rotate_left
            · show Act.put _ (some 19) _ = _
              simp only [Act.put, List.setIfInBounds_toArray, List.set_cons_zero, List.set_cons_succ, i64_w, i32_w]
              rfl
            refine one_ (i := 8) (N := some 23) #[true, true, true, true, true, true, true, true, true, false, false, false, false] rfl rfl (one_of HT_.out (by kernel_rfl)) (by decide) (fun K hK => ?_)
            refine goes_ Try.func66 (by kernel_rfl) rfl #[.slice A16 y403.length c16] (by rfl) rfl rfl (by (try simp only [List.map_toArray, List.map_cons, List.map_nil]); first | done | rfl | (simp only [List.length_drop, List.length_take]; rfl)) ?_
            with_reducible refine (kimberliteref07_Top.calls k _ _ y403 t407 _ ?side1 ?side2 A11.out).mono ?_
            (case side1 => repeat (first | exact (Kd.C_below HR406.out HB.out) | (with_reducible refine Kd.C_alloc ?_ _) | (with_reducible refine Kd.C_drewN ?_ _) | (with_reducible refine Kd.C_drew ?_)))
            (case side2 => exact HC406.out)
            rintro e w18 ⟨rfl, hb⟩
            refine ⟨_, rfl, ?_⟩
            have n0_ := Aside0.mk (Kd.R_below (by (with_reducible repeat (first | apply Kd.R_alloc | apply Kd.R_drewN | apply Kd.R_drew)); exact HO402.out) hb)
            have n1_ := Aside0.mk (below_step (by repeat (first | (with_reducible first | exact HB.out | apply below_alloc | apply pw_below_drewN | apply below_drew1) | exact HB.out)) hb)
            clear HO402
            clear HB
            have HO402 := n0_
            have HB := n1_
            clear n0_ n1_
            (try clear hb)
            (try clear hb2)
            (try clear hk)
            (try clear hi)
            refine hK.out _ _ trivial (fun hHeld => ?_)
            clear hK K
            refine norm_ (a' := ?_) ?_ ?_
            rotate_left
            · show Act.put _ (some 23) _ = _
              simp only [Act.put, List.setIfInBounds_toArray, List.set_cons_zero, List.set_cons_succ, i64_w, i32_w]
              rfl
            refine pure_ (i := 9) (N := some 24) (v := ?_) (a' := ?_) #[true, true, true, true, true, true, true, true, true, true, false, false, false] rfl rfl (any_of HT_.out (by kernel_rfl)) (fun _ _ _ h => h) (Or.inl ⟨by rfl, ?_⟩) ?_ ?_
            rotate_left
            · intro w'
              go_simp
              with_reducible rfl
            rotate_left
            · simp only [Act.put, List.setIfInBounds_toArray, List.set_cons_zero, List.set_cons_succ, i64_w, i32_w]
              rfl
            refine one_ (i := 10) (N := some 25) #[true, true, true, true, true, true, true, true, true, true, true, false, false] rfl rfl (one_of HT_.out (by kernel_rfl)) (by decide) (fun K hK => ?_)
            refine value_ (w1 := ?_) (v := ?_) (by rfl) rfl ?_ ?_
            rotate_left 2
            · go_simp
              constructor
              · rfl
              · rfl
            refine hK.out _ _ trivial (fun hHeld => ?_)
            clear hK K
            refine norm_ (a' := ?_) ?_ ?_
            rotate_left
            · show Act.put _ (some 25) _ = _
              simp only [Act.put, List.setIfInBounds_toArray, List.set_cons_zero, List.set_cons_succ, i64_w, i32_w]
              rfl
            refine one_ (i := 11) (N := some 26) #[true, true, true, true, true, true, true, true, true, true, true, true, false] rfl rfl (one_of HT_.out (by kernel_rfl)) (by decide) (fun K hK => ?_)
            refine Kd.R_append_step k54 (w0 := w) w.heap.size (by rfl) (.tmp 19) (.tmp 25) 23 54 (.agg #[(.int .u64 0), (.bool false)]) 16 rfl Try.underlying23 info54 rfl (by decide) (by omega) v401 t400 (⟨t407, false⟩ : S54) [.int .u64 t407, .bool false] (fun _ => True) (fun _ => False) rfl rfl ?aP (fun _ hk => hk.elim) ?aF ?aO ?aB ?aS ?aL ?_
            (case aP => exact k54_mkM _ _ _ (⟨t407, false⟩ : S54))
            (case aB => exact (by repeat (first | (with_reducible first | exact HB.out | apply below_alloc | apply pw_below_drewN | apply below_drew1) | exact HB.out)))
            (case aF => exact (fun _ _ => trivial))
            (case aO => exact (by (with_reducible repeat (first | apply Kd.R_alloc | apply Kd.R_drewN | apply Kd.R_drew)); exact HO402.out))
            (case aS => exact (below_size (by repeat (first | (with_reducible first | exact HB.out | apply below_alloc | apply pw_below_drewN | apply below_drew1) | exact HB.out))))
            (case aL => have := LMc12.out; omega)
            intro v409 w19 ho hb hg hat
            rw [← Ny408.out] at ho
            have n0_ := Aside0.mk (hb)
            have n1_ := Aside0.mk (ho)
            clear HB
            clear HO402
            have HB := n0_
            have HO410 := n1_
            clear n0_ n1_
            clear ho hb hg hat
            refine hK.out _ _ trivial (fun hHeld => ?_)
            clear hK K
            refine norm_ (a' := ?_) ?_ ?_
            rotate_left
            · show Act.put _ (some 26) _ = _
              simp only [Act.put, List.setIfInBounds_toArray, List.set_cons_zero, List.set_cons_succ, i64_w, i32_w]
              rfl
            refine pure_ (i := 12) (N := some 4) (v := ?_) (a' := ?_) #[true, true, true, true, true, true, true, true, true, true, true, true, true] rfl rfl (any_of HT_.out (by kernel_rfl)) (fun _ _ _ h => h) (Or.inl ⟨by rfl, ?_⟩) ?_ ?_
            rotate_left
            · intro w'
              go_simp
              with_reducible rfl
            rotate_left
            · simp only [Act.put, List.setIfInBounds_toArray, List.set_cons_zero, List.set_cons_succ, i64_w, i32_w]
              rfl
            refine done_ (done_of HT_.out (by kernel_rfl)) ?_
            try go_wp2
            go_ret
            exact ⟨_, by first | rfl | (simp [errW_none, errW_some] <;> rfl) | (simp [*, errW_none, errW_some] <;> rfl), by (with_reducible repeat (first | apply Kd.R_alloc | apply Kd.R_drewN | apply Kd.R_drew)); exact HO410.out, by repeat (first | (with_reducible first | exact HB.out | apply below_alloc | apply pw_below_drewN | apply below_drew1) | exact HB.out)⟩
          · rw [if_neg c12] at H
            exact absurd H (by simp)
        · rw [if_neg c7] at H
          exact absurd H (by simp)
      · rw [if_neg c6] at H
        exact absurd H (by simp)
    · rw [if_neg c5] at H
      have c5b0 : decide (a1 < t395) = false := decide_eq_false c5
      clear c5
      by_cases c20 : 0 ≤ t395
      · rw [if_pos c20] at H
        have c20b0 := eq_true c20
        have c20b1 : decide (0 ≤ t395) = true := decide_eq_true c20
        clear c20
        by_cases c21 : t395 ≤ (l0.length : Int)
        · rw [if_pos c21] at H
          have c21b0 := eq_true c21
          have c21b1 : decide (t395 ≤ (l0.length : Int)) = true := decide_eq_true c21
          clear c21
          obtain ⟨y411, hy411⟩ : ∃ y_ : List (List Int), y_ = (l0.drop (t395 : Int).toNat) := ⟨_, rfl⟩
          replace H : ((kimberliteref07_way.f k y411 (wrap64 (a1 - t395))).bind fun t415 => ((kimberliteref07_Top.f k (l0.take (t395 : Int).toNat)).bind fun t422 => (if t415.length < 8796093022208 then (some (t415 ++ [(⟨t422, true⟩ : S54)])) else (none)))) = some r := by first | (rw [hy411]; with_reducible exact H) | (have H2_ := (Option.bind_some _ _).symm.trans H; rw [hy411]; with_reducible exact H2_) | (have H2_ := (Option.bind_some _ _).symm.trans H; with_reducible exact H2_) | with_reducible exact H | (rw [hy411]; exact H) | exact H
          have Ny411 := Aside0.mk hy411
          clear hy411
          replace H := Option.bind_eq_some_iff.mp H
          obtain ⟨t415, A220, H⟩ := H
          replace H : ((kimberliteref07_Top.f k (l0.take (t395 : Int).toNat)).bind fun t422 => (if t415.length < 8796093022208 then (some (t415 ++ [(⟨t422, true⟩ : S54)])) else (none))) = some r := H
          have A22 := Aside0.mk A220
          clear A220
          have c23b0 := eq_true (of_decide_eq_true (by first | (with_reducible assumption) | assumption) : 0 ≤ t395)
          have c24b0 := eq_true (of_decide_eq_true (by first | (with_reducible assumption) | assumption) : t395 ≤ (l0.length : Int))
          obtain ⟨y418, hy418⟩ : ∃ y_ : List (List Int), y_ = (l0.take (t395 : Int).toNat) := ⟨_, rfl⟩
          replace H : ((kimberliteref07_Top.f k y418).bind fun t422 => (if t415.length < 8796093022208 then (some (t415 ++ [(⟨t422, true⟩ : S54)])) else (none))) = some r := by first | (rw [hy418]; with_reducible exact H) | (have H2_ := (Option.bind_some _ _).symm.trans H; rw [hy418]; with_reducible exact H2_) | (have H2_ := (Option.bind_some _ _).symm.trans H; with_reducible exact H2_) | with_reducible exact H | (rw [hy418]; exact H) | exact H
          have Ny418 := Aside0.mk hy418
          clear hy418
          replace H := Option.bind_eq_some_iff.mp H
          obtain ⟨t422, A250, H⟩ := H
          replace H : (if t415.length < 8796093022208 then (some (t415 ++ [(⟨t422, true⟩ : S54)])) else (none)) = some r := H
          have A25 := Aside0.mk A250
          clear A250
          by_cases c26 : t415.length < 8796093022208
          · rw [if_pos c26] at H
            have LMc26 := Aside0.mk c26
            clear c26
            obtain ⟨y423, hy423⟩ : ∃ y_ : List (S54), y_ = (t415 ++ [(⟨t422, true⟩ : S54)]) := ⟨_, rfl⟩
            replace H : (some y423) = some r := by first | (rw [hy423]; with_reducible exact H) | (have H2_ := (Option.bind_some _ _).symm.trans H; rw [hy423]; with_reducible exact H2_) | (have H2_ := (Option.bind_some _ _).symm.trans H; with_reducible exact H2_) | with_reducible exact H | (rw [hy423]; exact H) | exact H
            have Ny423 := Aside0.mk hy423
            clear hy423
            obtain rfl := Option.some.inj H
            go_enter Try.func71, Try.ntmps71
            try go_wp2_with (first | ((with_reducible refine gate_callee (f := 87) rfl ?_); refine goesL_ (some 11) rfl rfl Try.func87 (by kernel_rfl) rfl #[.int .i64 (l0.length : Int)] rfl (by (try simp only [List.map_toArray, List.map_cons, List.map_nil]); first | done | rfl | (simp only [List.length_drop, List.length_take]; rfl)) ?_; (with_reducible refine (kimberliteref07_half.calls k (l0.length : Int) t395 _ A4.out).mono ?_); rintro e w' ⟨rfl, ⟨nd, rfl⟩⟩; refine ⟨_, rfl, ?_⟩))
            (try (rw [drewN_self w]; generalize hq_ : World.drewN w _ = w27; have n0_ := Aside0.mk (below_at hq_ HB.out); clear hq_ HB; have HB := n0_; clear n0_))
            have n0_ := Aside0.mk (below_drew1 HB.out)
            clear HB
            have HB := n0_
            clear n0_
            have q29 : (t395 : Int) ≤ ((l0.length : Int) : Int) := of_decide_eq_true (by first | (with_reducible assumption) | assumption)
            obtain ⟨i029, hi029, _, hsz29, _⟩ := info_parts info22
            have hroom29 : l0.length ≤ c0 := HC0.out
            have hC29 : Kd.C (Kd.slice 5 (Kd.int .u8)) _ A0 l0.length l0 := HR0.out
            have q029 : (0 : Int) ≤ (t395 : Int) := of_decide_eq_true (by first | (with_reducible assumption) | assumption)
            have hcut29 := cut_from (P := Try.prog) 39 22 .i64 Try.underlying39 hi029 1 hsz29 A0 l0.length c0 t395 q029 q29
            have hr29 := Kd.C_drop (m := (t395 : Int).toNat) (c := c0) hC29 (by omega) hroom29
            obtain ⟨A29, hA29⟩ : ∃ A1, A1 = (if c0 = (t395 : Int).toNat then A0 else (A0 : Option Addr).map (·.add ((t395 : Int).toNat * 1))) := ⟨_, rfl⟩
            obtain ⟨c29, hc29⟩ : ∃ c1, c1 = c0 - (t395 : Int).toNat := ⟨_, rfl⟩
            have hy29 : y411.length = l0.length - (t395 : Int).toNat := (by rw [Ny411.out, List.length_drop] <;> omega)
            rw [show (l0).drop (t395 : Int).toNat = y411 from Ny411.out.symm] at hr29
            replace hr29 : Kd.C (Kd.slice 5 (Kd.int .u8)) _ A29 y411.length y411 := (by rw [hA29]; exact hr29)
            rw [← hy29, ← hA29, ← hc29] at hcut29
            have HR414 := Aside0.mk hr29
            have HC414 := Aside0.mk (show y411.length ≤ c29 from by rw [hy29, hc29]; exact Nat.sub_le_sub_right hroom29 _)
            clear hr29 hC29 hroom29 hi029 hsz29 hc29
            have KY29 := Aside0.mk hy29
            have KA29 := Aside0.mk hA29
            clear hy29 hA29
            replace q29 := eq_true q29
            have q30 : (t395 : Int) ≤ ((l0.length : Int) : Int) := of_decide_eq_true (by first | (with_reducible assumption) | assumption)
            obtain ⟨i030, hi030, _, hsz30, _⟩ := info_parts info22
            have hroom30 : l0.length ≤ c0 := HC0.out
            have hC30 : Kd.C (Kd.slice 5 (Kd.int .u8)) _ A0 l0.length l0 := HR0.out
            have hcut30 := cut_to (P := Try.prog) 39 22 .i64 Try.underlying39 hi030 A0 l0.length c0 t395 (of_decide_eq_true (by first | (with_reducible assumption) | assumption)) q30 hroom30
            have hr30 := Kd.C_take (m := (t395 : Int).toNat) hC30 (by omega)
            have hy30 : y418.length = (t395 : Int).toNat := (by rw [Ny418.out, List.length_take]; omega)
            rw [← Ny418.out] at hr30
            rw [← hy30] at hcut30
            have HR421 := Aside0.mk hr30
            have HC421 := Aside0.mk (show y418.length ≤ c0 from by omega)
            clear hr30 hC30 hroom30 hi030 hsz30
            have KY30 := Aside0.mk hy30
            clear hy30
            replace q30 := eq_true q30
            refine start_ (n := 15) (S := fun w' => True) (ds := []) #[false, false, false, false, false, false, false, false, false, false, false, false, false, false, false] (by kernel_rfl) rfl rfl trivial (fun hHeld => ?_); refine with_tabW kimberliteref07_way.tab6 kimberliteref07_way.bits6 (fun HT_ HW_ => ?_)
            generalize w27.drew = w28 at HB HR414 HR421 hHeld ⊢
            refine pure_ (i := 0) (N := some 27) (v := ?_) (a' := ?_) #[true, false, false, false, false, false, false, false, false, false, false, false, false, false, false] rfl rfl (any_of HT_.out (by kernel_rfl)) (fun _ _ _ h => h) (Or.inl ⟨by rfl, ?_⟩) ?_ ?_
            rotate_left
            · intro w'
              go_simp
              with_reducible rfl
            rotate_left
            · simp only [Act.put, List.setIfInBounds_toArray, List.set_cons_zero, List.set_cons_succ, i64_w, i32_w]
              rfl
            refine pure_ (i := 1) (N := some 28) (v := ?_) (a' := ?_) #[true, true, false, false, false, false, false, false, false, false, false, false, false, false, false] rfl rfl (any_of HT_.out (by kernel_rfl)) (fun _ _ _ h => h) (Or.inl ⟨by rfl, ?_⟩) ?_ ?_
            rotate_left
            · intro w'
              go_simp
              with_reducible rfl
            rotate_left
            · simp only [Act.put, List.setIfInBounds_toArray, List.set_cons_zero, List.set_cons_succ, i64_w, i32_w]
              rfl
            refine pure_ (i := 2) (N := some 29) (v := ?_) (a' := ?_) #[true, true, true, false, false, false, false, false, false, false, false, false, false, false, false] rfl rfl (any_of HT_.out (by kernel_rfl)) (fun _ _ _ h => h) (Or.inl ⟨by rfl, ?_⟩) ?_ ?_
            rotate_left
            · intro w'
              go_simp
              with_reducible rfl
            rotate_left
            · simp only [Act.put, List.setIfInBounds_toArray, List.set_cons_zero, List.set_cons_succ, i64_w, i32_w]
              rfl
            refine pure_ (i := 3) (N := some 30) (v := ?_) (a' := ?_) #[true, true, true, true, false, false, false, false, false, false, false, false, false, false, false] rfl rfl (any_of HT_.out (by kernel_rfl)) (fun _ _ _ h => h) (Or.inl ⟨by rfl, ?_⟩) ?_ ?_
            rotate_left
            · intro w'
              go_simp
              with_reducible rfl
            rotate_left
            · simp only [Act.put, List.setIfInBounds_toArray, List.set_cons_zero, List.set_cons_succ, i64_w, i32_w]
              rfl
            refine pure_ (i := 4) (N := some 31) (v := ?_) (a' := ?_) #[true, true, true, true, true, false, false, false, false, false, false, false, false, false, false] rfl rfl (any_of HT_.out (by kernel_rfl)) (fun _ _ _ h => h) (Or.inl ⟨by rfl, ?_⟩) ?_ ?_
            rotate_left
            · intro w'
              go_simp
              with_reducible rfl
            rotate_left
            · simp only [Act.put, List.setIfInBounds_toArray, List.set_cons_zero, List.set_cons_succ, i64_w, i32_w]
              rfl
            refine pure_ (i := 5) (N := some 32) (v := ?_) (a' := ?_) #[true, true, true, true, true, true, false, false, false, false, false, false, false, false, false] rfl rfl (any_of HT_.out (by kernel_rfl)) (fun _ _ _ h => h) (Or.inl ⟨by rfl, ?_⟩) ?_ ?_
            rotate_left
            · intro w'
              go_simp
              with_reducible rfl
            rotate_left
            · simp only [Act.put, List.setIfInBounds_toArray, List.set_cons_zero, List.set_cons_succ, i64_w, i32_w]
              rfl
            refine pure_ (i := 7) (N := some 34) (v := ?_) (a' := ?_) #[true, true, true, true, true, true, false, true, false, false, false, false, false, false, false] rfl rfl (any_of HT_.out (by kernel_rfl)) (fun _ _ _ h => h) (Or.inl ⟨by rfl, ?_⟩) ?_ ?_
            rotate_left
            · intro w'
              go_simp
              with_reducible rfl
            rotate_left
            · simp only [Act.put, List.setIfInBounds_toArray, List.set_cons_zero, List.set_cons_succ, i64_w, i32_w]
              rfl
            refine pure_ (i := 8) (N := some 35) (v := ?_) (a' := ?_) #[true, true, true, true, true, true, false, true, true, false, false, false, false, false, false] rfl rfl (any_of HT_.out (by kernel_rfl)) (fun _ _ _ h => h) (Or.inl ⟨by rfl, ?_⟩) ?_ ?_
            rotate_left
            · intro w'
              go_simp
              with_reducible rfl
            rotate_left
            · simp only [Act.put, List.setIfInBounds_toArray, List.set_cons_zero, List.set_cons_succ, i64_w, i32_w]
              rfl
            refine pure_ (i := 9) (N := some 36) (v := ?_) (a' := ?_) #[true, true, true, true, true, true, false, true, true, true, false, false, false, false, false] rfl rfl (any_of HT_.out (by kernel_rfl)) (fun _ _ _ h => h) (Or.inl ⟨by rfl, ?_⟩) ?_ ?_
            rotate_left
            · intro w'
              go_simp
              with_reducible rfl
            rotate_left
            · simp only [Act.put, List.setIfInBounds_toArray, List.set_cons_zero, List.set_cons_succ, i64_w, i32_w]
              rfl
            refine one_ (i := 6) (N := some 33) #[true, true, true, true, true, true, true, true, true, true, false, false, false, false, false] rfl rfl (one_of HT_.out (by kernel_rfl)) (by decide) (fun K hK => ?_)
            refine goes_ Try.func71 (by kernel_rfl) rfl #[.slice A29 y411.length c29, .int .i64 (wrap64 (a1 - t395))] (by rfl) rfl rfl (by (try simp only [List.map_toArray, List.map_cons, List.map_nil]); first | done | rfl | (simp only [List.length_drop, List.length_take]; rfl)) ?_
            with_reducible refine (ih k (by omega) _ _ y411 (wrap64 (a1 - t395)) t415 _ ?side1 ?side2 A22.out).mono ?_
            (case side1 => repeat (first | exact (Kd.C_below HR414.out HB.out) | (with_reducible refine Kd.C_alloc ?_ _) | (with_reducible refine Kd.C_drewN ?_ _) | (with_reducible refine Kd.C_drew ?_)))
            (case side2 => exact HC414.out)
            rintro e w31 ⟨v416, rfl, ho0, hb⟩
            refine ⟨_, rfl, ?_⟩
            have n0_ := Aside0.mk (Kd.R_lower ho0 (below_size (by repeat (first | (with_reducible first | exact HB.out | apply below_alloc | apply pw_below_drewN | apply below_drew1) | exact HB.out))))
            have n1_ := Aside0.mk (below_step (by repeat (first | (with_reducible first | exact HB.out | apply below_alloc | apply pw_below_drewN | apply below_drew1) | exact HB.out)) hb)
            clear HB
            have HO417 := n0_
            have HB := n1_
            clear n0_ n1_
            (try clear hb)
            (try clear hb2)
            (try clear hk)
            (try clear hi)
            (try clear ho0)
            refine hK.out _ _ trivial (fun hHeld => ?_)
            clear hK K
            refine norm_ (a' := ?_) ?_ ?_
            rotate_left
            · show Act.put _ (some 33) _ = _
              simp only [Act.put, List.setIfInBounds_toArray, List.set_cons_zero, List.set_cons_succ, i64_w, i32_w]
              rfl
            refine one_ (i := 10) (N := some 37) #[true, true, true, true, true, true, true, true, true, true, true, false, false, false, false] rfl rfl (one_of HT_.out (by kernel_rfl)) (by decide) (fun K hK => ?_)
            refine goes_ Try.func66 (by kernel_rfl) rfl #[.slice A0 y418.length c0] (by rfl) rfl rfl (by (try simp only [List.map_toArray, List.map_cons, List.map_nil]); first | done | rfl | (simp only [List.length_drop, List.length_take]; rfl)) ?_
            with_reducible refine (kimberliteref07_Top.calls k _ _ y418 t422 _ ?side1 ?side2 A25.out).mono ?_
            (case side1 => repeat (first | exact (Kd.C_below HR421.out HB.out) | (with_reducible refine Kd.C_alloc ?_ _) | (with_reducible refine Kd.C_drewN ?_ _) | (with_reducible refine Kd.C_drew ?_)))
            (case side2 => exact HC421.out)
            rintro e w32 ⟨rfl, hb⟩
            refine ⟨_, rfl, ?_⟩
            have n0_ := Aside0.mk (Kd.R_below (by (with_reducible repeat (first | apply Kd.R_alloc | apply Kd.R_drewN | apply Kd.R_drew)); exact HO417.out) hb)
            have n1_ := Aside0.mk (below_step (by repeat (first | (with_reducible first | exact HB.out | apply below_alloc | apply pw_below_drewN | apply below_drew1) | exact HB.out)) hb)
            clear HO417
            clear HB
            have HO417 := n0_
            have HB := n1_
            clear n0_ n1_
            (try clear hb)
            (try clear hb2)
            (try clear hk)
            (try clear hi)
            refine hK.out _ _ trivial (fun hHeld => ?_)
            clear hK K
            refine norm_ (a' := ?_) ?_ ?_
            rotate_left
            · show Act.put _ (some 37) _ = _
              simp only [Act.put, List.setIfInBounds_toArray, List.set_cons_zero, List.set_cons_succ, i64_w, i32_w]
              rfl
            refine pure_ (i := 11) (N := some 38) (v := ?_) (a' := ?_) #[true, true, true, true, true, true, true, true, true, true, true, true, false, false, false] rfl rfl (any_of HT_.out (by kernel_rfl)) (fun _ _ _ h => h) (Or.inl ⟨by rfl, ?_⟩) ?_ ?_
            rotate_left
            · intro w'
              go_simp
              with_reducible rfl
            rotate_left
            · simp only [Act.put, List.setIfInBounds_toArray, List.set_cons_zero, List.set_cons_succ, i64_w, i32_w]
              rfl
            refine one_ (i := 12) (N := some 39) #[true, true, true, true, true, true, true, true, true, true, true, true, true, false, false] rfl rfl (one_of HT_.out (by kernel_rfl)) (by decide) (fun K hK => ?_)
            refine value_ (w1 := ?_) (v := ?_) (by rfl) rfl ?_ ?_
            rotate_left 2
            · go_simp
              constructor
              · rfl
              · rfl
            refine hK.out _ _ trivial (fun hHeld => ?_)
            clear hK K
            refine norm_ (a' := ?_) ?_ ?_
            rotate_left
            · show Act.put _ (some 39) _ = _
              simp only [Act.put, List.setIfInBounds_toArray, List.set_cons_zero, List.set_cons_succ, i64_w, i32_w]
              rfl
            refine one_ (i := 13) (N := some 40) #[true, true, true, true, true, true, true, true, true, true, true, true, true, true, false] rfl rfl (one_of HT_.out (by kernel_rfl)) (by decide) (fun K hK => ?_)
            refine Kd.R_append_step k54 (w0 := w) w.heap.size (by rfl) (.tmp 33) (.tmp 39) 23 54 (.agg #[(.int .u64 0), (.bool false)]) 16 rfl Try.underlying23 info54 rfl (by decide) (by omega) v416 t415 (⟨t422, true⟩ : S54) [.int .u64 t422, .bool true] (fun _ => True) (fun _ => False) rfl rfl ?aP (fun _ hk => hk.elim) ?aF ?aO ?aB ?aS ?aL ?_
            (case aP => exact k54_mkM _ _ _ (⟨t422, true⟩ : S54))
            (case aB => exact (by repeat (first | (with_reducible first | exact HB.out | apply below_alloc | apply pw_below_drewN | apply below_drew1) | exact HB.out)))
            (case aF => exact (fun _ _ => trivial))
            (case aO => exact (by (with_reducible repeat (first | apply Kd.R_alloc | apply Kd.R_drewN | apply Kd.R_drew)); exact HO417.out))
            (case aS => exact (below_size (by repeat (first | (with_reducible first | exact HB.out | apply below_alloc | apply pw_below_drewN | apply below_drew1) | exact HB.out))))
            (case aL => have := LMc26.out; omega)
            intro v424 w33 ho hb hg hat
            rw [← Ny423.out] at ho
            have n0_ := Aside0.mk (hb)
            have n1_ := Aside0.mk (ho)
            clear HB
            clear HO417
            have HB := n0_
            have HO425 := n1_
            clear n0_ n1_
            clear ho hb hg hat
            refine hK.out _ _ trivial (fun hHeld => ?_)
            clear hK K
            refine norm_ (a' := ?_) ?_ ?_
            rotate_left
            · show Act.put _ (some 40) _ = _
              simp only [Act.put, List.setIfInBounds_toArray, List.set_cons_zero, List.set_cons_succ, i64_w, i32_w]
              rfl
            refine pure_ (i := 14) (N := some 4) (v := ?_) (a' := ?_) #[true, true, true, true, true, true, true, true, true, true, true, true, true, true, true] rfl rfl (any_of HT_.out (by kernel_rfl)) (fun _ _ _ h => h) (Or.inl ⟨by rfl, ?_⟩) ?_ ?_
            rotate_left
            · intro w'
              go_simp
              with_reducible rfl
            rotate_left
            · simp only [Act.put, List.setIfInBounds_toArray, List.set_cons_zero, List.set_cons_succ, i64_w, i32_w]
              rfl
            refine done_ (done_of HT_.out (by kernel_rfl)) ?_
            try go_wp2
            go_ret
            exact ⟨_, by first | rfl | (simp [errW_none, errW_some] <;> rfl) | (simp [*, errW_none, errW_some] <;> rfl), by (with_reducible repeat (first | apply Kd.R_alloc | apply Kd.R_drewN | apply Kd.R_drew)); exact HO425.out, by repeat (first | (with_reducible first | exact HB.out | apply below_alloc | apply pw_below_drewN | apply below_drew1) | exact HB.out)⟩
          · rw [if_neg c26] at H
            exact absurd H (by simp)
        · rw [if_neg c21] at H
          exact absurd H (by simp)
      · rw [if_neg c20] at H
        exact absurd H (by simp)
end Go.Proofs.Ytacjdoekgmmfoaa.PL
end
section
namespace Go.Proofs.Ytacjdoekgmmfoaa.PL
open Go.RowKit Go.Proofs.YtacjdoekgmmfoaaW.PrintWords Go.Proofs.YtacjdoekgmmfoaaW.PrintLast Go.Proofs.YtacjdoekgmmfoaaW.PrintMore
set_option linter.unusedVariables false
set_option linter.unusedSimpArgs false
/-- The steps of entry i. -/
def wayS (l : List Int) (i : Nat) : List S54 :=
  if h : l.length < 2 then [] else if i < half l.length then wayS (l.take (half l.length)) i ++ [⟨top (l.drop (half l.length)), false⟩] else wayS (l.drop (half l.length)) (i - half l.length) ++ [⟨top (l.take (half l.length)), true⟩]
termination_by l.length
decreasing_by
  · have := half_lt l.length (by omega); rw [List.length_take]; omega
  · have := half_lt l.length (by omega); rw [List.length_drop]; omega
/-- The hashes of the first m. -/
def extS (l : List Int) (m : Nat) (wh : Bool) : List Int :=
  if h : l.length ≤ m ∨ l.length < 2 then (if wh = true then [] else [top l]) else if m ≤ half l.length then extS (l.take (half l.length)) m wh ++ [top (l.drop (half l.length))] else extS (l.drop (half l.length)) (m - half l.length) false ++ [top (l.take (half l.length))]
termination_by l.length
decreasing_by
  · have := half_lt l.length (by omega); rw [List.length_take]; omega
  · have := half_lt l.length (by omega); rw [List.length_drop]; omega
theorem half_pow (n d : Nat) (h2 : 2 ≤ n) (h : n ≤ 2 ^ d) : half n ≤ 2 ^ (d - 1) ∧ n - half n ≤ 2 ^ (d - 1) := by
  have hq : ∀ (f k : Nat), (∃ j, k = 2 ^ j) → k < n → n ≤ k * 2 ^ f → (∃ j, hlf f n k = 2 ^ j) ∧ hlf f n k < n ∧ n ≤ 2 * hlf f n k := by
    intro f
    induction f with
    | zero => intro k _ h1 h2; omega
    | succ f ih =>
      intro k hk h1 h2
      simp only [hlf]
      by_cases c : 2 * k < n
      · rw [if_pos c]
        obtain ⟨j, rfl⟩ := hk
        exact ih (2 * 2 ^ j) ⟨j + 1, by rw [Nat.pow_succ]; omega⟩ c (by rw [Nat.pow_succ, Nat.mul_comm (2 ^ f) 2, ← Nat.mul_assoc, Nat.mul_comm (2 ^ j) 2] at h2; exact h2)
      · rw [if_neg c]
        exact ⟨hk, h1, by omega⟩
  obtain ⟨⟨j, hj⟩, h3, h4⟩ := hq n 1 ⟨0, rfl⟩ (by omega) (by rw [Nat.one_mul]; exact Nat.le_of_lt Nat.lt_two_pow_self)
  have h5 : half n = 2 ^ j := hj
  change hlf n n 1 < n at h3
  change n ≤ 2 * half n at h4
  have h6 : half n < n := h3
  rw [h5] at h4 h6 ⊢
  have hjd : j < d := by
    rcases Nat.lt_or_ge j d with g | g
    · exact g
    · have := Nat.pow_le_pow_right (n := 2) (by decide) g; omega
  have : 2 ^ j ≤ 2 ^ (d - 1) := Nat.pow_le_pow_right (by decide) (by omega)
  omega
theorem way_len : ∀ (d : Nat) (l : List Int) (i : Nat), l.length ≤ 2 ^ d → (wayS l i).length ≤ d
  | 0, l, i, h => by rw [wayS, dif_pos (by simp at h; omega)]; simp
  | d + 1, l, i, h => by
    rw [wayS]
    by_cases c : l.length < 2
    · rw [dif_pos c]; simp
    · rw [dif_neg c]
      have hh := half_pow l.length (d + 1) (by omega) h
      rw [Nat.add_sub_cancel] at hh
      split
      · have := way_len d (l.take (half l.length)) i (by rw [List.length_take]; omega); simp; omega
      · have := way_len d (l.drop (half l.length)) (i - half l.length) (by rw [List.length_drop]; omega); simp; omega
theorem ext_len : ∀ (d : Nat) (l : List Int) (m : Nat) (wh : Bool), l.length ≤ 2 ^ d → (extS l m wh).length ≤ d + 1
  | 0, l, m, wh, h => by rw [extS, dif_pos (by simp at h; omega)]; split <;> simp
  | d + 1, l, m, wh, h => by
    rw [extS]
    by_cases c : l.length ≤ m ∨ l.length < 2
    · rw [dif_pos c]; split <;> simp
    · rw [dif_neg c]
      have hh := half_pow l.length (d + 1) (by omega) h
      rw [Nat.add_sub_cancel] at hh
      split
      · have := ext_len d (l.take (half l.length)) m wh (by rw [List.length_take]; omega); simp; omega
      · have := ext_len d (l.drop (half l.length)) (m - half l.length) false (by rw [List.length_drop]; omega); simp; omega
theorem way_small (l : List Int) (i : Nat) (h : l.length < 1000000) : (wayS l i).length < 100 := by
  have := way_len 20 l i (by omega); omega
theorem ext_small (l : List Int) (m : Nat) (wh : Bool) (h : l.length < 1000000) : (extS l m wh).length < 100 := by
  have := ext_len 20 l m wh (by omega); omega
theorem ev_proof_include : ∀ (n : Nat) (l : List Int) (i : Nat), l.length ≤ n → l.length < 1000000 → i < l.length → (∀ x ∈ l, okH x) → Ev (fun k => proof_include.f k l (i : Int)) (wayS l i)
  | 0, l, i, h, _, hi, _ => by omega
  | n + 1, l, i, h, hb, hi, hx => by
    rw [wayS]
    by_cases c : l.length < 2
    · rw [dif_pos c]
      exact Ev.here fun k => by simp only [proof_include.f]; rw [if_pos (by omega)]
    · rw [dif_neg c]
      have hl := half_lt l.length (by omega)
      refine Ev.step (fun k => by simp only [proof_include.f]; rw [if_neg (by omega)]) (Ev.bind (ev_part l.length (by omega) (by omega)) ?_)
      by_cases c2 : i < half l.length
      · have h1 := ev_proof_include n (l.take (half l.length)) i (by rw [List.length_take]; omega) (by rw [List.length_take]; omega) (by rw [List.length_take]; omega) (fun x hm => hx x (List.mem_of_mem_take hm))
        have h2 := ev_root _ (l.drop (half l.length)) (Nat.le_refl _) (by rw [List.length_drop]; omega) (fun x hm => hx x (List.mem_of_mem_drop hm))
        have hs := way_small (l.take (half l.length)) i (by rw [List.length_take]; omega)
        simp only [if_pos c2, if_pos (show (i : Int) < ((half l.length : Nat) : Int) by omega), if_pos (show (0 : Int) ≤ ((half l.length : Nat) : Int) by omega), if_pos (show ((half l.length : Nat) : Int) ≤ (l.length : Int) by omega), Int.toNat_natCast]
        refine Ev.bind h1 (Ev.bind h2 ?_)
        simp only [if_pos (show (wayS (l.take (half l.length)) i).length < 8796093022208 by omega)]
        exact Ev.now _
      · have h1 := ev_proof_include n (l.drop (half l.length)) (i - half l.length) (by rw [List.length_drop]; omega) (by rw [List.length_drop]; omega) (by rw [List.length_drop]; omega) (fun x hm => hx x (List.mem_of_mem_drop hm))
        have h2 := ev_root _ (l.take (half l.length)) (Nat.le_refl _) (by rw [List.length_take]; omega) (fun x hm => hx x (List.mem_of_mem_take hm))
        have hs := way_small (l.drop (half l.length)) (i - half l.length) (by rw [List.length_drop]; omega)
        simp only [if_neg c2, if_neg (show ¬ (i : Int) < ((half l.length : Nat) : Int) by omega), if_pos (show (0 : Int) ≤ ((half l.length : Nat) : Int) by omega), if_pos (show ((half l.length : Nat) : Int) ≤ (l.length : Int) by omega), Int.toNat_natCast, show wrap64 ((i : Int) - ((half l.length : Nat) : Int)) = ((i - half l.length : Nat) : Int) by unfold wrap64; omega]
        refine Ev.bind h1 (Ev.bind h2 ?_)
        simp only [if_pos (show (wayS (l.drop (half l.length)) (i - half l.length)).length < 8796093022208 by omega)]
        exact Ev.now _
theorem ev_proof_extend : ∀ (n : Nat) (l : List Int) (m : Nat) (wh : Bool), l.length ≤ n → l.length < 1000000 → 1 ≤ m → m ≤ l.length → (∀ x ∈ l, okH x) → Ev (fun k => proof_extend.f k l (m : Int) wh) (extS l m wh)
  | 0, l, m, wh, h, _, h1, h2, _ => by omega
  | n + 1, l, m, wh, h, hb, hm1, hm2, hx => by
    rw [extS]
    by_cases c : m = l.length
    · rw [dif_pos (by omega)]
      cases wh with
      | true => exact Ev.here fun k => by simp only [proof_extend.f]; rw [if_pos (by omega), if_pos trivial]; rfl
      | false =>
        refine Ev.step (fun k => by simp only [proof_extend.f]; rw [if_pos (by omega), if_neg (by decide)]) (Ev.bind (ev_root _ l (Nat.le_refl _) (by omega) hx) ?_)
        rw [if_neg (by decide)]
        exact Ev.now _
    · rw [dif_neg (by omega)]
      have hl := half_lt l.length (by omega)
      refine Ev.step (fun k => by simp only [proof_extend.f]; rw [if_neg (by omega)]) (Ev.bind (ev_part l.length (by omega) (by omega)) ?_)
      by_cases c2 : m ≤ half l.length
      · have h1 := ev_proof_extend n (l.take (half l.length)) m wh (by rw [List.length_take]; omega) (by rw [List.length_take]; omega) (by omega) (by rw [List.length_take]; omega) (fun x hm => hx x (List.mem_of_mem_take hm))
        have h2 := ev_root _ (l.drop (half l.length)) (Nat.le_refl _) (by rw [List.length_drop]; omega) (fun x hm => hx x (List.mem_of_mem_drop hm))
        have hs := ext_small (l.take (half l.length)) m wh (by rw [List.length_take]; omega)
        simp only [if_pos c2, if_pos (show (m : Int) ≤ ((half l.length : Nat) : Int) by omega), if_pos (show (0 : Int) ≤ ((half l.length : Nat) : Int) by omega), if_pos (show ((half l.length : Nat) : Int) ≤ (l.length : Int) by omega), Int.toNat_natCast]
        refine Ev.bind h1 (Ev.bind h2 ?_)
        simp only [if_pos (show (extS (l.take (half l.length)) m wh).length < 17592186044416 by omega)]
        exact Ev.now _
      · have h1 := ev_proof_extend n (l.drop (half l.length)) (m - half l.length) false (by rw [List.length_drop]; omega) (by rw [List.length_drop]; omega) (by omega) (by rw [List.length_drop]; omega) (fun x hm => hx x (List.mem_of_mem_drop hm))
        have h2 := ev_root _ (l.take (half l.length)) (Nat.le_refl _) (by rw [List.length_take]; omega) (fun x hm => hx x (List.mem_of_mem_take hm))
        have hs := ext_small (l.drop (half l.length)) (m - half l.length) false (by rw [List.length_drop]; omega)
        simp only [if_neg c2, if_neg (show ¬ (m : Int) ≤ ((half l.length : Nat) : Int) by omega), if_pos (show (0 : Int) ≤ ((half l.length : Nat) : Int) by omega), if_pos (show ((half l.length : Nat) : Int) ≤ (l.length : Int) by omega), Int.toNat_natCast, show wrap64 ((m : Int) - ((half l.length : Nat) : Int)) = ((m - half l.length : Nat) : Int) by unfold wrap64; omega]
        refine Ev.bind h1 (Ev.bind h2 ?_)
        simp only [if_pos (show (extS (l.drop (half l.length)) (m - half l.length) false).length < 17592186044416 by omega)]
        exact Ev.now _
/-- What Include answers. -/
def incS (l : List (List Int)) (i : Int) : List S54 × Int := if listE l = 0 then (if 0 ≤ i ∧ i < l.length then (wayS (l.map leafS) i.toNat, 0) else ([], 6)) else ([], listE l)
/-- What Extend answers. -/
def exS (l : List (List Int)) (m : Int) : List Int × Int := if listE l = 0 then (if 1 ≤ m ∧ m ≤ l.length then (extS (l.map leafS) m.toNat true, 0) else ([], 2)) else ([], listE l)
end Go.Proofs.Ytacjdoekgmmfoaa.PL
end
section
namespace Go.Proofs.Ytacjdoekgmmfoaa.PL
open Go.RowKit Go.Proofs.YtacjdoekgmmfoaaW.PrintWords Go.Proofs.YtacjdoekgmmfoaaW.PrintLast Go.Proofs.YtacjdoekgmmfoaaW.PrintMore
attribute [local go_sem] max2_int min2_int max_two min_two max_three min_three max_four min_four   -- for this text's walks alone
set_option linter.unusedVariables false
set_option linter.unusedSimpArgs false
theorem xhid {p : Prop} (h : p) : Hid p := h
/-- The hashes that are left, in memory. -/
structure TK (w0 w : World) (g : Nat) (hs : List Int) (sh : Bool) : Prop where
  below : Below w0.heap.size w0 w
  lo : w0.heap.size ≤ g
  lt : g < w.heap.size
  row : ∃ A c, w.heap[g]? = some (.cells #[.slice A hs.length c, .bool sh] 96 (0, 0)) ∧ Kd.C (Kd.int .u64) w0 A hs.length hs ∧ hs.length ≤ c
theorem TK.next {w0 w w' : World} {g : Nat} {hs : List Int} {sh : Bool} (h : TK w0 w g hs sh) (hb : Below w.heap.size w w') : TK w0 w' g hs sh := by
  obtain ⟨A, c, h1, h2, h3⟩ := h.row
  refine ⟨below_step h.below hb, h.lo, Nat.lt_of_lt_of_le h.lt hb.size, A, c, ?_, h2, h3⟩
  rw [hb.block g h.lt]; exact h1
theorem TK.drewN {w0 w : World} {g : Nat} {hs : List Int} {sh : Bool} (h : TK w0 w g hs sh) (n : Nat) : TK w0 (w.drewN n) g hs sh := ⟨pw_below_drewN h.below n, h.lo, h.lt, h.row⟩
def nxt (hs : List Int) : Int := hs.headD 0
set_option maxHeartbeats 1600000 in
set_option maxRecDepth 100000 in
theorem next_calls (w0 w : World) (g : Nat) (hs : List Int) (sh : Bool) (h : TK w0 w g hs sh) :
    Calls Try.prog 88 #[.pointer (some ⟨g, 0, none⟩)] w fun e w' => e = .returned (.int .u64 (nxt hs)) ∧ TK w0 w' g hs.tail (sh || hs.isEmpty) := by
  obtain ⟨A, c, hb, hC, hc⟩ := h.row
  have HT := xhid h
  have HK := xhid hb
  have HC := xhid hC
  have hc0 := blk_cell hb 0
  have hc1 := blk_cell hb 1
  simp only [List.getElem?_toArray, List.getElem?_cons_zero, List.getElem?_cons_succ] at hc0 hc1
  have hf1 := blk_frozen hb 1
  have hf0 := blk_frozen hb 0
  have hu96 := Try.underlying96
  clear h hb hC
  by_cases he : hs = []
  · subst he
    go_enter Try.func88, Try.ntmps88
    go_wp2
    go_ret
    refine ⟨rfl, ?_⟩
    exact ⟨HT.out.below.setCell HT.out.lo _, HT.out.lo, by have := HT.out.lt; simpa [World.setCell] using this, A, c, by have := blk_put HK.out 1 (.bool true) rfl; simpa using this, HC.out, hc⟩
  · have hlen : 0 < hs.length := List.length_pos_iff.2 he
    have hlb : ((hs.length : Int) == 0) = false := beq_eq_false_iff_ne.mpr (by omega)
    have hl0 : (0 : Int) < (hs.length : Int) := by omega
    obtain ⟨ad, rfl, hx⟩ := Kd.at_int (Kd.C_below HC.out HT.out.below) 0 (by omega) (by omega)
    rw [show ((0 : Int)).toNat = 0 from rfl, Addr.add_zero'] at hx
    obtain ⟨i0, hi0, _, hsz, _⟩ := info_parts info33
    obtain ⟨A1, hcut, hA1, hC1⟩ := print_drop_of (P := Try.prog) (Value.int .u64) 0 46 33 .i64 Try.underlying46 hi0 hsz (some ad) c hs 1 (by omega) (by omega) hc
    have HC1 := xhid (show Kd.C (Kd.int .u64) w0 A1 hs.tail.length hs.tail from by
      have := Kd.C_of_reads (h1 := fun _ => rfl) (hA1 _ (Kd.reads_of_C HC.out))
      rw [show ((1 : Int)).toNat = 1 from rfl, List.drop_one] at this
      exact this)
    have hlc : hs.tail.length ≤ c - 1 := by rw [show ((1 : Int)).toNat = 1 from rfl, List.drop_one] at hC1; exact hC1
    rw [show ((1 : Int)).toNat = 1 from rfl, List.drop_one] at hcut
    have HE := xhid he
    clear hA1 hC1 hi0 hsz he
    go_enter Try.func88, Try.ntmps88
    go_wp2
    go_ret
    refine ⟨?_, ?_⟩
    · have : rd hs 0 = nxt hs := by cases hs with
        | nil => rfl
        | cons x hs => rfl
      rw [← this]; rfl
    · refine ⟨HT.out.below.setCell HT.out.lo _, HT.out.lo, by have := HT.out.lt; simpa [World.setCell] using this, A1, c - 1, ?_, HC1.out, hlc⟩
      have := blk_put HK.out 0 (.slice A1 hs.tail.length (c - 1)) rfl
      have e : hs.isEmpty = false := by have := HE.out; simpa using this
      rw [e, Bool.or_false]
      simpa using this
/-- The two roots that the hashes make, what is left of them, and whether there were too few. -/
def rts : Nat → Int → Int → Bool → Int → List Int → Bool → Option (Int × Int × List Int × Bool)
  | 0, _, _, _, _, _, _ => none
  | k + 1, m, n, wh, old, hs, sh => if m = n then (if wh = true then some (old, old, hs, sh) else some (nxt hs, nxt hs, hs.tail, sh || hs.isEmpty)) else
    (proof_part.f k n).bind fun q => if m ≤ q then
      (rts k m q wh old hs sh).bind fun r => (proof_Node.f k r.2.1 (nxt r.2.2.1)).bind fun x => some (r.1, x, r.2.2.1.tail, r.2.2.2 || r.2.2.1.isEmpty)
    else (rts k (wrap64 (m - q)) (wrap64 (n - q)) false old hs sh).bind fun r => (proof_Node.f k (nxt r.2.2.1) r.1).bind fun x => (proof_Node.f k (nxt r.2.2.1) r.2.1).bind fun y => some (x, y, r.2.2.1.tail, r.2.2.2 || r.2.2.1.isEmpty)
theorem rts_mono : ∀ k m n wh old hs sh, LeO (rts k m n wh old hs sh) (rts (k + 1) m n wh old hs sh)
  | 0, _, _, _, _, _, _ => fun r h => by simp [rts] at h
  | k + 1, m, n, wh, old, hs, sh => by
    have ih := rts_mono k
    unfold rts
    repeat' first
      | exact ih _ _ _ _ _ _
      | exact proof_part.mono _ _
      | exact proof_Node.mono _ _ _
      | exact LeO.refl _
      | refine LeO.ite ?_ ?_
      | refine LeO.bind ?_ (fun _ => ?_)
set_option maxHeartbeats 3200000 in
set_option maxRecDepth 100000 in
theorem roots_calls (w0 : World) (g : Nat) : ∀ (k : Nat) (m n : Int) (wh : Bool) (old : Int) (hs : List Int) (sh : Bool) (w : World) (r : Int × Int × List Int × Bool), TK w0 w g hs sh → rts k m n wh old hs sh = some r →
    Calls Try.prog 68 #[.pointer (some ⟨g, 0, none⟩), .int .i64 m, .int .i64 n, .bool wh, .int .u64 old] w fun e w' => e = .returned (.tuple #[.int .u64 r.1, .int .u64 r.2.1]) ∧ TK w0 w' g r.2.2.1 r.2.2.2 := by
  intro k
  induction k with
  | zero => intro m n wh old hs sh w r _ h; simp [rts] at h
  | succ k ih =>
    intro m n wh old hs sh w r ht h
    have HT := xhid ht
    clear ht
    simp only [rts] at h
    by_cases c1 : m = n
    · subst c1
      rw [if_pos rfl] at h
      have hmm : (m == m) = true := beq_self_eq_true m
      cases wh with
      | true =>
        rw [if_pos rfl] at h
        injection h with h
        subst h
        go_enter Try.func68, Try.ntmps68
        go_wp2
        go_ret2
        exact ⟨rfl, HT.out⟩
      | false =>
        rw [if_neg (by decide)] at h
        injection h with h
        subst h
        go_enter Try.func68, Try.ntmps68
        go_wp2_with (fail)
        refine (next_calls w0 _ g hs sh HT.out).mono ?_
        rintro e w1 ⟨rfl, hT1⟩
        have HT1 := xhid hT1
        clear hT1
        go_wp2_with (fail)
        go_ret2
        exact ⟨rfl, HT1.out⟩
    · rw [if_neg c1] at h
      have hmn : (m == n) = false := beq_eq_false_iff_ne.mpr c1
      obtain ⟨q, hq, h⟩ := Option.bind_eq_some_iff.mp h
      have HQ := xhid hq
      clear hq c1
      by_cases c2 : m ≤ q
      · rw [if_pos c2] at h
        obtain ⟨r1, h1, h⟩ := Option.bind_eq_some_iff.mp h
        obtain ⟨x, h2, h⟩ := Option.bind_eq_some_iff.mp h
        injection h with h
        subst h
        have H1 := xhid h1
        have H2 := xhid h2
        have hc2 : decide (m ≤ q) = true := decide_eq_true c2
        clear h1 h2
        go_enter Try.func68, Try.ntmps68
        go_wp2_with (fail)
        refine (proof_part.calls k n q _ HQ.out).mono ?_
        rintro e w1 ⟨rfl, nd, rfl⟩
        have HT1 := xhid (HT.out.drewN nd)
        generalize w.drewN nd = w1 at *
        go_wp2_with (fail)
        refine (ih m q wh old hs sh _ r1 HT1.out H1.out).mono ?_
        rintro e w2 ⟨rfl, hT2⟩
        have HT2 := xhid hT2
        clear hT2
        go_wp2_with (fail)
        refine (next_calls w0 _ g _ _ HT2.out).mono ?_
        rintro e w3 ⟨rfl, hT3⟩
        have HT3 := xhid hT3
        clear hT3
        go_wp2_with (fail)
        refine (proof_Node.calls k _ _ x _ H2.out).mono ?_
        rintro e w4 ⟨rfl, hb4⟩
        have HT4 := xhid (HT3.out.next hb4)
        clear hb4
        go_wp2_with (fail)
        go_ret2
        exact ⟨rfl, HT4.out⟩
      · rw [if_neg c2] at h
        obtain ⟨r1, h1, h⟩ := Option.bind_eq_some_iff.mp h
        obtain ⟨x, h2, h⟩ := Option.bind_eq_some_iff.mp h
        obtain ⟨y, h3, h⟩ := Option.bind_eq_some_iff.mp h
        injection h with h
        subst h
        have H1 := xhid h1
        have H2 := xhid h2
        have H3 := xhid h3
        have hc2 : decide (m ≤ q) = false := decide_eq_false c2
        clear h1 h2 h3 c2
        go_enter Try.func68, Try.ntmps68
        go_wp2_with (fail)
        refine (proof_part.calls k n q _ HQ.out).mono ?_
        rintro e w1 ⟨rfl, nd, rfl⟩
        have HT1 := xhid (HT.out.drewN nd)
        generalize w.drewN nd = w1 at *
        go_wp2_with (fail)
        refine (ih (wrap64 (m - q)) (wrap64 (n - q)) false old hs sh _ r1 HT1.out H1.out).mono ?_
        rintro e w2 ⟨rfl, hT2⟩
        have HT2 := xhid hT2
        clear hT2
        go_wp2_with (fail)
        refine (next_calls w0 _ g _ _ HT2.out).mono ?_
        rintro e w3 ⟨rfl, hT3⟩
        have HT3 := xhid hT3
        clear hT3
        go_wp2_with (fail)
        refine (proof_Node.calls k _ _ x _ H2.out).mono ?_
        rintro e w4 ⟨rfl, hb4⟩
        have HT4 := xhid (HT3.out.next hb4)
        clear hb4
        go_wp2_with (fail)
        refine (proof_Node.calls k _ _ y _ H3.out).mono ?_
        rintro e w5 ⟨rfl, hb5⟩
        have HT5 := xhid (HT4.out.next hb5)
        clear hb5
        go_wp2_with (fail)
        go_ret2
        exact ⟨rfl, HT5.out⟩
def proof_Extended.f (k : Nat) (a0 : Int) (a1 : Int) (a2 : Int) (a3 : Int) (l4 : List Int) : Option (Bool × Int) :=
  if a1 < 1 ∨ a1 > 4096 ∨ a0 < 1 ∨ a0 > a1 then some (false, 2) else (rts k a0 a1 true a2 l4 false).bind fun r => some (!r.2.2.2 && (r.2.2.1.isEmpty && (r.1 == a2 && r.2.1 == a3)), 0)
theorem proof_Extended.mono : ∀ a0 a1 a2 a3 l4 k, LeO (proof_Extended.f k a0 a1 a2 a3 l4) (proof_Extended.f (k + 1) a0 a1 a2 a3 l4) := by
  intro a0 a1 a2 a3 l4 k
  unfold proof_Extended.f
  repeat' first
    | exact rts_mono _ _ _ _ _ _ _
    | exact LeO.refl _
    | refine LeO.ite ?_ ?_
    | refine LeO.bind ?_ (fun _ => ?_)
set_option maxHeartbeats 3200000 in
set_option maxRecDepth 100000 in
theorem proof_Extended.calls (k : Nat) (a0 : Int) (a1 : Int) (a2 : Int) (a3 : Int) (A4 : Option Addr) (c4 : Nat) (l4 : List Int) (r1 : Bool) (r2 : Int) (w : World) (hr4 : Kd.C (Kd.int .u64) w A4 l4.length l4) (hc4 : l4.length ≤ c4) (h : proof_Extended.f k a0 a1 a2 a3 l4 = some (r1, r2)) :
    Calls Try.prog 34 #[.int .i64 a0, .int .i64 a1, .int .u64 a2, .int .u64 a3, .slice A4 l4.length c4] w fun e w' => e = .returned (.tuple #[.bool r1, .int .i64 r2]) ∧ Below w.heap.size w w' := by
  unfold proof_Extended.f at h
  by_cases c : a1 < 1 ∨ a1 > 4096 ∨ a0 < 1 ∨ a0 > a1
  · rw [if_pos c] at h
    injection h with h
    injection h with h1 h2
    subst h1 h2
    by_cases d1 : a1 < 1
    · have hd1 : decide (a1 < 1) = true := decide_eq_true d1
      go_enter Try.func34, Try.ntmps34
      go_wp2
      go_ret2
      exact ⟨rfl, Below.refl _ _⟩
    have hd1 : decide (a1 < 1) = false := decide_eq_false d1
    by_cases d2 : a1 > 4096
    · have hd2 : decide (a1 > 4096) = true := decide_eq_true d2
      go_enter Try.func34, Try.ntmps34
      go_wp2
      go_ret2
      exact ⟨rfl, Below.refl _ _⟩
    have hd2 : decide (a1 > 4096) = false := decide_eq_false d2
    by_cases d3 : a0 < 1
    · have hd3 : decide (a0 < 1) = true := decide_eq_true d3
      go_enter Try.func34, Try.ntmps34
      go_wp2
      go_ret2
      exact ⟨rfl, Below.refl _ _⟩
    have hd3 : decide (a0 < 1) = false := decide_eq_false d3
    have hd4 : decide (a0 > a1) = true := decide_eq_true (by omega)
    go_enter Try.func34, Try.ntmps34
    go_wp2
    go_ret2
    exact ⟨rfl, Below.refl _ _⟩
  · rw [if_neg c] at h
    obtain ⟨r, hr, h⟩ := Option.bind_eq_some_iff.mp h
    injection h with h
    injection h with h1 h2
    have HE := xhid h1
    subst h2
    have HR := xhid hr
    have HC := xhid hr4
    have HCC := xhid hc4
    have hd1 : decide (a1 < 1) = false := decide_eq_false (by omega)
    have hd2 : decide (a1 > 4096) = false := decide_eq_false (by omega)
    have hd3 : decide (a0 < 1) = false := decide_eq_false (by omega)
    have hd4 : decide (a0 > a1) = false := decide_eq_false (by omega)
    have hu96 := Try.underlying96
    clear h1 hr hr4 hc4
    go_enter Try.func34, Try.ntmps34
    go_wp2_with (fail)
    have HT0 := xhid (show TK w (w.alloc (Obj.cells #[Value.slice A4 l4.length c4, Value.bool false] 96)) w.heap.size l4 false from
      ⟨below_alloc (Below.refl _ _) _, Nat.le_refl _, by simp, A4, c4, blk_new _ _, HC.out, HCC.out⟩)
    generalize w.alloc (Obj.cells #[Value.slice A4 l4.length c4, Value.bool false] 96) = w1 at *
    refine (roots_calls w w.heap.size k a0 a1 true a2 l4 false _ r HT0.out HR.out).mono ?_
    rintro e w2 ⟨rfl, hT2⟩
    clear HT0 HR
    obtain ⟨o, x, hs, sh⟩ := r
    simp only at hT2 HE
    obtain ⟨A, c, hb, _, _⟩ := hT2.row
    have HB := xhid hT2.below
    have hc0 := blk_cell hb 0
    have hc1 := blk_cell hb 1
    simp only [List.getElem?_toArray, List.getElem?_cons_zero, List.getElem?_cons_succ] at hc0 hc1
    generalize hgz : w.heap.size = g at *
    clear hb hT2 w1
    cases sh with
    | true =>
      go_wp2_with (fail)
      go_ret2
      exact ⟨by rw [← HE.out]; rfl, by rw [hgz]; exact HB.out⟩
    | false =>
      by_cases hl : hs = []
      · have hlb : ((hs.length : Int) == 0) = true := by rw [hl]; rfl
        have hle : Hid (hs.isEmpty = true) := xhid (by rw [hl]; rfl)
        clear hl
        by_cases ho : o = a2
        · have hob : (o == a2) = true := beq_iff_eq.mpr ho
          go_wp2_with (fail)
          go_ret2
          exact ⟨by rw [← HE.out, hle.out, hob]; rfl, by rw [hgz]; exact HB.out⟩
        · have hob : (o == a2) = false := beq_eq_false_iff_ne.mpr ho
          go_wp2_with (fail)
          go_ret2
          exact ⟨by rw [← HE.out, hle.out, hob]; rfl, by rw [hgz]; exact HB.out⟩
      · have hlb : ((hs.length : Int) == 0) = false := beq_eq_false_iff_ne.mpr (by intro h; apply hl; exact List.eq_nil_of_length_eq_zero (by omega))
        have hle : Hid (hs.isEmpty = false) := xhid (by simpa using hl)
        clear hl
        go_wp2_with (fail)
        go_ret2
        exact ⟨by rw [← HE.out, hle.out]; rfl, by rw [hgz]; exact HB.out⟩
end Go.Proofs.Ytacjdoekgmmfoaa.PL
end
section
namespace Go.Proofs.Ytacjdoekgmmfoaa.PL
open Go.RowKit Go.Proofs.YtacjdoekgmmfoaaW.PrintWords Go.Proofs.YtacjdoekgmmfoaaW.PrintLast Go.Proofs.YtacjdoekgmmfoaaW.PrintMore
set_option linter.unusedVariables false
set_option linter.unusedSimpArgs false
theorem half_char (n : Nat) (h2 : 2 ≤ n) : (∃ j, half n = 2 ^ j) ∧ half n < n ∧ n ≤ 2 * half n := by
  have hq : ∀ (f k : Nat), (∃ j, k = 2 ^ j) → k < n → n ≤ k * 2 ^ f → (∃ j, hlf f n k = 2 ^ j) ∧ hlf f n k < n ∧ n ≤ 2 * hlf f n k := by
    intro f
    induction f with
    | zero => intro k _ h1 h2; omega
    | succ f ih =>
      intro k hk h1 h2
      simp only [hlf]
      by_cases c : 2 * k < n
      · rw [if_pos c]
        obtain ⟨j, rfl⟩ := hk
        exact ih (2 * 2 ^ j) ⟨j + 1, by rw [Nat.pow_succ]; omega⟩ c (by rw [Nat.pow_succ, Nat.mul_comm (2 ^ f) 2, ← Nat.mul_assoc, Nat.mul_comm (2 ^ j) 2] at h2; exact h2)
      · rw [if_neg c]
        exact ⟨hk, h1, by omega⟩
  exact hq n 1 ⟨0, rfl⟩ (by omega) (by rw [Nat.one_mul]; exact Nat.le_of_lt Nat.lt_two_pow_self)
theorem half_eq (n m : Nat) (h2 : 2 ≤ n) (h : half n < m) (hm : m ≤ n) : half m = half n := by
  obtain ⟨⟨j, hj⟩, h3, h4⟩ := half_char n h2
  have := half_lt n h2
  obtain ⟨⟨i, hi⟩, h5, h6⟩ := half_char m (by omega)
  rw [hj] at h h4 ⊢
  rw [hi] at h5 h6 ⊢
  rcases Nat.lt_trichotomy i j with g | g | g
  · have : 2 ^ (i + 1) ≤ 2 ^ j := Nat.pow_le_pow_right (by decide) g
    rw [Nat.pow_succ] at this; omega
  · rw [g]
  · have : 2 ^ (j + 1) ≤ 2 ^ i := Nat.pow_le_pow_right (by decide) g
    rw [Nat.pow_succ] at this; omega
/-- The hashes that are made make both roots. -/
theorem ext_roots : ∀ (b : Nat) (l : List Int) (m : Nat) (wh : Bool) (old : Int) (rest : List Int), l.length ≤ b → l.length < 1000000 → 1 ≤ m → m ≤ l.length → (∀ x ∈ l, okH x) → (wh = true → old = top (l.take m)) →
    Ev (fun k => rts k (m : Int) (l.length : Int) wh old (extS l m wh ++ rest) false) (top (l.take m), top l, rest, false)
  | 0, l, m, wh, old, rest, h, hb, h1, h2, hx, ho => by omega
  | b + 1, l, m, wh, old, rest, h, hb, h1, h2, hx, ho => by
    rw [extS]
    by_cases c : m = l.length
    · rw [dif_pos (by omega)]
      have e : l.take m = l := by rw [c]; exact List.take_length
      cases wh with
      | true =>
        rw [ho rfl, if_pos rfl, e]
        exact Ev.here fun k => by simp only [rts]; rw [if_pos (by omega), if_pos trivial]; rfl
      | false =>
        rw [if_neg (by decide), e]
        exact Ev.here fun k => by simp only [rts]; rw [if_pos (by omega), if_neg (by decide)]; rfl
    · rw [dif_neg (by omega)]
      have hl := half_lt l.length (by omega)
      have hT : ∀ x ∈ l.take (half l.length), okH x := fun x hm => hx x (List.mem_of_mem_take hm)
      have hD : ∀ x ∈ l.drop (half l.length), okH x := fun x hm => hx x (List.mem_of_mem_drop hm)
      have et : (l.take (half l.length)).length = half l.length := by rw [List.length_take]; omega
      have ed : (l.drop (half l.length)).length = l.length - half l.length := by rw [List.length_drop]
      have etop : top l = nodeS (top (l.take (half l.length))) (top (l.drop (half l.length))) := by rw [top, dif_neg (by omega)]
      by_cases c2 : m ≤ half l.length
      · rw [if_pos c2]
        have ett : (l.take (half l.length)).take m = l.take m := by rw [List.take_take]; congr 1; omega
        have ih := ext_roots b (l.take (half l.length)) m wh old ([top (l.drop (half l.length))] ++ rest) (by omega) (by omega) h1 (by omega) hT (fun hw => by rw [ett]; exact ho hw)
        rw [et, ett, ← List.append_assoc] at ih
        refine Ev.step (fun k => by simp only [rts]; rw [if_neg (by omega)]) (Ev.bind (ev_part l.length (by omega) (by omega)) ?_)
        simp only [if_pos (show (m : Int) ≤ ((half l.length : Nat) : Int) by omega)]
        refine Ev.bind ih ?_
        rw [etop]
        exact Ev.bind (ev_Node _ _ (top_ok _ hT) (top_ok _ hD)) (Ev.now _)
      · rw [if_neg c2]
        have ih := ext_roots b (l.drop (half l.length)) (m - half l.length) false old ([top (l.take (half l.length))] ++ rest) (by omega) (by omega) (by omega) (by omega) hD (fun hw => by cases hw)
        rw [ed, ← List.append_assoc] at ih
        have hm : (l.take m).length = m := by rw [List.length_take]; omega
        have hh : half m = half l.length := half_eq l.length m (by omega) (by omega) h2
        have em : top (l.take m) = nodeS (top (l.take (half l.length))) (top ((l.drop (half l.length)).take (m - half l.length))) := by
          rw [top, dif_neg (by omega), hm, hh, List.take_take, List.drop_take]
          congr 2; congr 1; omega
        refine Ev.step (fun k => by simp only [rts]; rw [if_neg (by omega)]) (Ev.bind (ev_part l.length (by omega) (by omega)) ?_)
        simp only [if_neg (show ¬ (m : Int) ≤ ((half l.length : Nat) : Int) by omega), show wrap64 ((m : Int) - ((half l.length : Nat) : Int)) = ((m - half l.length : Nat) : Int) by unfold wrap64; omega, show wrap64 ((l.length : Int) - ((half l.length : Nat) : Int)) = ((l.length - half l.length : Nat) : Int) by unfold wrap64; omega]
        refine Ev.bind ih ?_
        rw [etop, em]
        have ho1 : okH (top ((l.drop (half l.length)).take (m - half l.length))) := top_ok _ (fun x hm => hD x (List.mem_of_mem_take hm))
        exact Ev.bind (ev_Node _ _ (top_ok _ hT) ho1) (Ev.bind (ev_Node _ _ (top_ok _ hT) (top_ok _ hD)) (Ev.now _))
end Go.Proofs.Ytacjdoekgmmfoaa.PL
end
section
namespace Go.Proofs.Ytacjdoekgmmfoaa.PL
open Go.RowKit Go.Proofs.YtacjdoekgmmfoaaW.PrintWords Go.Proofs.YtacjdoekgmmfoaaW.PrintLast Go.Proofs.YtacjdoekgmmfoaaW.PrintMore
set_option linter.unusedVariables false
set_option linter.unusedSimpArgs false
theorem LG.lower {base base' : Nat} {w : World} {g : Nat} {es : List (List Int)} {ls : List Int} (h : LG base w g es ls) (hb : base' ≤ base) : LG base' w g es ls := by
  obtain ⟨ve, vl, h1, h2, h3⟩ := h.row
  exact ⟨Nat.le_trans hb h.lo, h.lt, ve, vl, h1, Kd.R_lower h2 hb, Kd.R_lower h3 hb⟩
/-- A log with a leaf for each entry. -/
structure LGS (base : Nat) (w : World) (g : Nat) (es : List (List Int)) (ls : List Int) : Prop where
  lg : LG base w g es ls
  len : ls.length = es.length
  ok : ∀ x ∈ ls, okH x
theorem LGS.next {base : Nat} {w w' : World} {g : Nat} {es : List (List Int)} {ls : List Int} (h : LGS base w g es ls) (hb : Below w.heap.size w w') : LGS base w' g es ls := ⟨h.lg.next hb, h.len, h.ok⟩
theorem LGS.size {base : Nat} {w : World} {g : Nat} {es : List (List Int)} {ls : List Int} (h : LGS base w g es ls) : base ≤ w.heap.size := Nat.le_trans h.lg.lo (Nat.le_of_lt h.lg.lt)
/-- What an extension's hashes prove. -/
theorem ext_val (ls : List Int) (hl : ls.length ≤ 4096) (hok : ∀ x ∈ ls, okH x) (m : Int) (h1 : 1 ≤ m) (h2 : m ≤ ls.length) (root : Int) (rest : List Int) :
    Ev (fun k => proof_Extended.f k m (ls.length : Int) (top (ls.take m.toNat)) root (extS ls m.toNat true ++ rest)) (rest.isEmpty && (top ls == root), 0) := by
  have h := ext_roots _ ls m.toNat true (top (ls.take m.toNat)) rest (Nat.le_refl _) (by omega) (by omega) (by omega) hok (fun _ => rfl)
  rw [show ((m.toNat : Nat) : Int) = m by omega] at h
  unfold proof_Extended.f
  simp only [if_neg (show ¬ ((ls.length : Int) < 1 ∨ (ls.length : Int) > 4096 ∨ m < 1 ∨ m > (ls.length : Int)) by omega)]
  refine Ev.bind h ?_
  simp only [beq_self_eq_true, Bool.not_false, Bool.true_and]
  exact Ev.now _
theorem ev_rootL (ls : List Int) (hl : ls.length ≤ 4096) (hok : ∀ x ∈ ls, okH x) : Ev (fun k => proof_root.f k ls) (top ls) := ev_root _ ls (Nat.le_refl _) (by omega) hok
theorem ev_extL (ls : List Int) (hl : ls.length ≤ 4096) (hok : ∀ x ∈ ls, okH x) (m : Int) (h1 : 1 ≤ m) (h2 : m ≤ ls.length) : Ev (fun k => proof_extend.f k ls m true) (extS ls m.toNat true) := by
  have h := ev_proof_extend _ ls m.toNat true (Nat.le_refl _) (by omega) (by omega) (by omega) hok
  rw [show ((m.toNat : Nat) : Int) = m by omega] at h
  exact h
end Go.Proofs.Ytacjdoekgmmfoaa.PL
end
section
namespace Go.Proofs.Ytacjdoekgmmfoaa.PL
open Go.RowKit Go.Proofs.YtacjdoekgmmfoaaW.PrintWords Go.Proofs.YtacjdoekgmmfoaaW.PrintLast Go.Proofs.YtacjdoekgmmfoaaW.PrintMore
set_option linter.unusedVariables false
set_option linter.unusedSimpArgs false
/-- A row of bytes lies in that block. -/
def B5 (w : World) (k : Nat) : Prop := ∃ cs fr, w.heap[k]? = some (.cells cs 5 fr)
/-- What lies in the blocks that M does not name (and every row of bytes) stays. -/
def KeepX (M : Nat → Prop) (w W : World) : Prop := w.heap.size ≤ W.heap.size ∧ ∀ k, k < w.heap.size → (¬ M k ∨ B5 w k) → W.heap[k]? = w.heap[k]?
theorem KeepX.refl (M : Nat → Prop) (w : World) : KeepX M w w := ⟨Nat.le_refl _, fun _ _ _ => rfl⟩
theorem KeepX.of_below (M : Nat → Prop) {w W : World} (h : Below w.heap.size w W) : KeepX M w W := ⟨h.size, fun k hk _ => h.block k hk⟩
theorem B5.next {M : Nat → Prop} {w W : World} (h : KeepX M w W) {k : Nat} (hk : k < w.heap.size) (h5 : B5 w k) : B5 W k := by
  obtain ⟨cs, fr, e⟩ := h5
  exact ⟨cs, fr, (h.2 k hk (.inr ⟨cs, fr, e⟩)).trans e⟩
/-- One after the other: what the second may change is what the first may, or new since. -/
theorem KeepX.trans {M M' : Nat → Prop} {w W W' : World} (h : KeepX M w W) (h' : KeepX M' W W') (hM : ∀ k, M' k → M k ∨ w.heap.size ≤ k) : KeepX M w W' :=
  ⟨Nat.le_trans h.1 h'.1, fun k hk hc => by
    rw [h'.2 k (Nat.lt_of_lt_of_le hk h.1) ?_, h.2 k hk hc]
    rcases hc with hc | hc
    · exact .inl fun hm => (hM k hm).elim hc (fun q => by omega)
    · exact .inr (B5.next h hk hc)⟩
theorem KeepX.mono {M M' : Nat → Prop} {w W : World} (h : KeepX M w W) (hM : ∀ k, M k → M' k) : KeepX M' w W := ⟨h.1, fun k hk hc => h.2 k hk (hc.imp (fun q z => q (hM k z)) id)⟩
theorem KeepX.next {M : Nat → Prop} {w W W' : World} (h : KeepX M w W) (hb : Below W.heap.size W W') : KeepX M w W' := h.trans (M' := fun _ => False) (KeepX.of_below _ hb) (fun _ q => q.elim)
theorem KeepX.grown {M : Nat → Prop} {w W W' : World} {α : Type} {d : Kd α} {e base : Nat} {ok : Nat → Prop} {v : Value} {xs : List α} (h : KeepX M w W) (hR : d.R e W base ok v xs) (he : e ≠ 5) (hv : ∀ k, v.ownBlock = some k → M k ∨ w.heap.size ≤ k) (hg : W.grownBy W' v.ownBlock) (hz : W.heap.size ≤ W'.heap.size) : KeepX M w W' :=
  ⟨Nat.le_trans h.1 hz, fun k hk hc => by
    have hW := h.2 k hk hc
    rw [hg.block k (Nat.lt_of_lt_of_le hk h.1) ?_]
    · exact hW
    · intro ek
      obtain ⟨_, _, cs, h2⟩ := own_typed hR k ek.symm
      rcases hc with g | ⟨cs', fr, g⟩
      · exact (hv k ek.symm).elim g (fun q => by omega)
      · rw [hW, g] at h2
        injection h2 with h2
        injection h2 with _ h2
        exact he h2.symm⟩
theorem KeepX.set {M : Nat → Prop} {w W : World} {g : Nat} (h : KeepX M w W) (hg : M g ∨ w.heap.size ≤ g) (ht : ¬ B5 w g) (j : Nat) (v : Value) : KeepX M w (W.setCell ⟨g, j, none⟩ v) :=
  ⟨by simpa [World.setCell] using h.1, fun k hk hc => by
    have hW := h.2 k hk hc
    rw [Below.heap_setCell _ _ _ _ ?_]
    · exact hW
    · intro e
      have e : k = g := e
      subst e
      rcases hc with q | q
      · exact hg.elim q (fun z => by omega)
      · exact ht q⟩
/-- A row across a call that leaves its own block and its elements' alone. -/
theorem R_keepX {α : Type} {d : Kd α} {e base : Nat} {ok : Nat → Prop} {w W : World} {v : Value} {xs : List α} (h : d.R e w base ok v xs) (hown : ∀ k, v.ownBlock = some k → W.heap[k]? = w.heap[k]?) (hE : ∀ k cells q, k < w.heap.size → q ∈ d.E → w.heap[k]? = some (.cells cells q (0, 0)) → W.heap[k]? = w.heap[k]?) : d.R e W base ok v xs := by
  obtain ⟨h0, inner, ho, hr⟩ := h
  exact ⟨h0, inner, own_move ho hown, hr.imp_ (fun _ _ hp => d.M_mono (fun k hk => hk.1) (d.M_move (fun k hk => by
    obtain ⟨_, _, hlt, q, hq, cells, hc⟩ := hk
    exact hE k cells q hlt hq hc) (d.M_bound hp)))⟩
/-- A log in memory: O names all its blocks, M those that its own calls write to. -/
structure LX (base : Nat) (O M : Nat → Prop) (w : World) (g : Nat) (es : List (List Int)) (ls : List Int) : Prop where
  lo : base ≤ g
  lt : g < w.heap.size
  og : O g
  mg : M g
  row : ∃ ve vl, w.heap[g]? = some (.cells #[.bool true, ve, vl] 70 (0, 0)) ∧ Kd.R (Kd.slice 5 (Kd.int .u8)) 22 w base O ve es ∧ Kd.R (Kd.int .u64) 33 w base O vl ls ∧ (∀ k, ve.ownBlock = some k → M k) ∧ (∀ k, vl.ownBlock = some k → M k)
section
variable {base g : Nat} {O M O' M' S : Nat → Prop} {w W : World} {es : List (List Int)} {ls : List Int}
theorem LX.lg (h : LX base O M w g es ls) : LG base w g es ls := by
  obtain ⟨ve, vl, h1, h2, h3, _⟩ := h.row
  exact ⟨h.lo, h.lt, ve, vl, h1, Kd.R_mono h2 (fun _ _ => trivial), Kd.R_mono h3 (fun _ _ => trivial)⟩
theorem LX.mono (h : LX base O M w g es ls) (hO : ∀ k, O k → O' k) (hM : ∀ k, M k → M' k) : LX base O' M' w g es ls := by
  obtain ⟨ve, vl, h1, h2, h3, h4, h5⟩ := h.row
  exact ⟨h.lo, h.lt, hO _ h.og, hM _ h.mg, ve, vl, h1, Kd.R_mono h2 hO, Kd.R_mono h3 hO, fun k hk => hM k (h4 k hk), fun k hk => hM k (h5 k hk)⟩
/-- Only blocks of this world's, and M none of bytes. -/
theorem LX.bound (h : LX base O M w g es ls) : LX base (fun k => O k ∧ k < w.heap.size) (fun k => (M k ∧ O k) ∧ k < w.heap.size ∧ ¬ B5 w k) w g es ls := by
  obtain ⟨ve, vl, h1, h2, h3, h4, h5⟩ := h.row
  refine ⟨h.lo, h.lt, ⟨h.og, h.lt⟩, ⟨⟨h.mg, h.og⟩, h.lt, ?_⟩, ve, vl, h1, Kd.R_mono (Kd.R_bound h2) (fun k hk => ⟨hk.1, hk.2.2.1⟩), Kd.R_mono (Kd.R_bound h3) (fun k hk => ⟨hk.1, hk.2.2.1⟩), fun k hk => ?_, fun k hk => ?_⟩
  · rintro ⟨cs, fr, e⟩
    rw [h1] at e; injection e with e; injection e with _ e; cases e
  · obtain ⟨_, a, cs, b⟩ := own_typed h2 k hk
    refine ⟨⟨h4 k hk, h2.1 k hk⟩, a, ?_⟩
    rintro ⟨cs', fr, e⟩
    rw [b] at e; injection e with e; injection e with _ e; cases e
  · obtain ⟨_, a, cs, b⟩ := own_typed h3 k hk
    refine ⟨⟨h5 k hk, h3.1 k hk⟩, a, ?_⟩
    rintro ⟨cs', fr, e⟩
    rw [b] at e; injection e with e; injection e with _ e; cases e
/-- Any mover that leaves all its blocks alone. -/
theorem LX.step (h : LX base O M w g es ls) (hz : w.heap.size ≤ W.heap.size) (hm : ∀ k, O k → k < w.heap.size → W.heap[k]? = w.heap[k]?) : LX base O M W g es ls := by
  obtain ⟨ve, vl, h1, h2, h3, h4, h5⟩ := h.row
  exact ⟨h.lo, Nat.lt_of_lt_of_le h.lt hz, h.og, h.mg, ve, vl, (hm g h.og h.lt).trans h1, Kd.R_step h2 hm, Kd.R_step h3 hm, h4, h5⟩
theorem LX.next (h : LX base O M w g es ls) (hb : Below w.heap.size w W) : LX base O M W g es ls := h.step hb.size (fun k _ hk => hb.block k hk)
theorem LX.lower {base' : Nat} (h : LX base O M w g es ls) (hb : base' ≤ base) : LX base' O M w g es ls := by
  obtain ⟨ve, vl, h1, h2, h3, h4, h5⟩ := h.row
  exact ⟨Nat.le_trans hb h.lo, h.lt, h.og, h.mg, ve, vl, h1, Kd.R_lower h2 hb, Kd.R_lower h3 hb, h4, h5⟩
/-- Another log has been written to. -/
theorem LX.beside (h : LX base O M w g es ls) (hk : KeepX S w W) (hd : ∀ k, M k → ¬ S k) : LX base O M W g es ls := by
  obtain ⟨ve, vl, h1, h2, h3, h4, h5⟩ := h.row
  refine ⟨h.lo, Nat.lt_of_lt_of_le h.lt hk.1, h.og, h.mg, ve, vl, (hk.2 g h.lt (.inl (hd g h.mg))).trans h1, R_keepX h2 (fun k hv => ?_) (fun k cells q hlt hq hc => ?_), R_keepX h3 (fun k hv => ?_) (fun k cells q hlt hq hc => ?_), h4, h5⟩
  · exact hk.2 k (own_typed h2 k hv).2.1 (.inl (hd k (h4 k hv)))
  · have e : q = 5 := by
      have : q ∈ [5] := hq
      simpa using this
    subst e
    exact hk.2 k hlt (.inr ⟨cells, _, hc⟩)
  · exact hk.2 k (own_typed h3 k hv).2.1 (.inl (hd k (h5 k hv)))
  · have : q ∈ ([] : List Nat) := hq
    cases this
end
/-- A log within a call: its block, and the rows that will be put there. -/
structure LVX (O M : Nat → Prop) (w0 : World) (base : Nat) (w : World) (g : Nat) (ve vl ve' : Value) (es : List (List Int)) (vl' : Value) (ls : List Int) : Prop where
  below : Below base w0 w
  bz : base ≤ w0.heap.size
  keep : KeepX M w0 w
  lo : base ≤ g
  og : O g
  mg : M g
  hb : w.heap[g]? = some (.cells #[.bool true, ve, vl] 70 (0, 0))
  re : Kd.R (Kd.slice 5 (Kd.int .u8)) 22 w base (fun k => O k ∨ w0.heap.size ≤ k) ve' es
  rl : Kd.R (Kd.int .u64) 33 w base (fun k => O k ∨ w0.heap.size ≤ k) vl' ls
  me : ∀ k, ve'.ownBlock = some k → M k ∨ w0.heap.size ≤ k
  ml : ∀ k, vl'.ownBlock = some k → M k ∨ w0.heap.size ≤ k
section
variable {O M : Nat → Prop} {w0 w W : World} {base g : Nat} {ve vl ve' vl' : Value} {es : List (List Int)} {ls : List Int}
theorem LVX.size (h : LVX O M w0 base w g ve vl ve' es vl' ls) : base ≤ w.heap.size := Nat.le_trans h.bz h.below.size
theorem LVX.lt (h : LVX O M w0 base w g ve vl ve' es vl' ls) : g < w.heap.size := blk_lt h.hb
theorem LVX.next (h : LVX O M w0 base w g ve vl ve' es vl' ls) (hb : Below w.heap.size w W) : LVX O M w0 base W g ve vl ve' es vl' ls :=
  ⟨below_then h.below h.size hb, h.bz, h.keep.next hb, h.lo, h.og, h.mg, by rw [hb.block g h.lt]; exact h.hb, Kd.R_below h.re hb, Kd.R_below h.rl hb, h.me, h.ml⟩
theorem LVX.alloc (h : LVX O M w0 base w g ve vl ve' es vl' ls) (o : Obj) : LVX O M w0 base (w.alloc o) g ve vl ve' es vl' ls := h.next (below_alloc (Below.refl _ _) o)
theorem LVX.drewN (h : LVX O M w0 base w g ve vl ve' es vl' ls) (n : Nat) : LVX O M w0 base (w.drewN n) g ve vl ve' es vl' ls := h.next (pw_below_drewN (Below.refl _ _) n)
theorem LVX.c1 (h : LVX O M w0 base w g ve vl ve' es vl' ls) : w.cell? ⟨g, 1, none⟩ = some ve := by rw [blk_cell h.hb]; rfl
theorem LVX.c2 (h : LVX O M w0 base w g ve vl ve' es vl' ls) : w.cell? ⟨g, 2, none⟩ = some vl := by rw [blk_cell h.hb]; rfl
theorem LVX.f1 (h : LVX O M w0 base w g ve vl ve' es vl' ls) : w.frozen? ⟨g, 1, none⟩ = false := blk_frozen h.hb 1
theorem LVX.f2 (h : LVX O M w0 base w g ve vl ve' es vl' ls) : w.frozen? ⟨g, 2, none⟩ = false := blk_frozen h.hb 2
theorem LVX.neE (h : LVX O M w0 base w g ve vl ve' es vl' ls) : some g ≠ ve'.ownBlock := Kd.R_ne h.re h.hb (by decide)
theorem LVX.neL (h : LVX O M w0 base w g ve vl ve' es vl' ls) : some g ≠ vl'.ownBlock := Kd.R_ne h.rl h.hb (by decide)
theorem grown_size {w W : World} {r : Option Nat} (h : w.grownBy W r) : w.heap.size ≤ W.heap.size := h.size
/-- The entries' row has grown. -/
theorem LVX.appE (h : LVX O M w0 base w g ve vl ve' es vl' ls) {v1 : Value} {es1 : List (List Int)} (ho : Kd.R (Kd.slice 5 (Kd.int .u8)) 22 W base (fun k => O k ∨ w0.heap.size ≤ k) v1 es1) (hb : Below base w0 W) (hg : w.grownBy W ve'.ownBlock) (hat : v1.ownBlock = ve'.ownBlock ∨ ∃ b, v1.ownBlock = some b ∧ w.heap.size ≤ b) : LVX O M w0 base W g ve vl v1 es1 vl' ls := by
  refine ⟨hb, h.bz, h.keep.grown h.re (by decide) h.me hg (grown_size hg), h.lo, h.og, h.mg, blk_grown h.hb hg h.neE, ho, Kd.R_grown2 h.rl rfl hg (fun k hk => ?_), fun k hk => ?_, h.ml⟩
  · obtain ⟨_, _, cs, h1⟩ := own_typed h.re k hk
    exact Kd.R_ne h.rl h1 (by decide)
  · rcases hat with e | ⟨b, e, hle⟩
    · exact h.me k (by rw [← e]; exact hk)
    · rw [hk] at e
      injection e with e
      subst e
      exact .inr (Nat.le_trans h.below.size hle)
/-- The leaves' row has grown. -/
theorem LVX.appL (h : LVX O M w0 base w g ve vl ve' es vl' ls) {v1 : Value} {ls1 : List Int} (ho : Kd.R (Kd.int .u64) 33 W base (fun k => O k ∨ w0.heap.size ≤ k) v1 ls1) (hb : Below base w0 W) (hg : w.grownBy W vl'.ownBlock) (hat : v1.ownBlock = vl'.ownBlock ∨ ∃ b, v1.ownBlock = some b ∧ w.heap.size ≤ b) : LVX O M w0 base W g ve vl ve' es v1 ls1 := by
  refine ⟨hb, h.bz, h.keep.grown h.rl (by decide) h.ml hg (grown_size hg), h.lo, h.og, h.mg, blk_grown h.hb hg h.neL, ?_, ho, h.me, fun k hk => ?_⟩
  · cases hk : vl'.ownBlock with
    | none => exact Kd.R_grown h.re hg (fun k _ => by rw [hk]; simp)
    | some k =>
      obtain ⟨_, _, cs, h1⟩ := own_typed h.rl k hk
      exact Kd.R_mono (Kd.R_grown (Kd.R_types h.re h1 (by decide)) hg (fun k' hk' e => hk'.2 (by rw [hk] at e; injection e))) (fun _ q => q.1)
  · rcases hat with e | ⟨b, e, hle⟩
    · exact h.ml k (by rw [← e]; exact hk)
    · rw [hk] at e
      injection e with e
      subst e
      exact .inr (Nat.le_trans h.below.size hle)
/-- Both rows have been put into the log. -/
theorem LVX.done {e1 l1 : Value} (h : LVX O M w0 base w g ve vl e1 es l1 ls) (h70 : w0.heap[g]? = some (.cells #[.bool true, ve, vl] 70 (0, 0))) :
    LVX O M w0 base ((w.setCell ⟨g, 1, none⟩ e1).setCell ⟨g, 2, none⟩ l1) g e1 l1 e1 es l1 ls := by
  have hn5 : ¬ B5 w0 g := fun ⟨cs, fr, e⟩ => by rw [h70] at e; injection e with e; injection e with _ e; cases e
  refine ⟨(h.below.setCell h.lo _).setCell h.lo _, h.bz, (h.keep.set (.inl h.mg) hn5 1 e1).set (.inl h.mg) hn5 2 l1, h.lo, h.og, h.mg, ?_, ?_, ?_, h.me, h.ml⟩
  · have h1 := blk_put h.hb 1 e1 rfl
    have h2 := blk_put h1 2 l1 rfl
    simpa using h2
  · exact Kd.R_mono (Kd.R_far (Kd.R_far (Kd.R_types h.re h.hb (by decide)) (p := ⟨g, 1, none⟩) (fun k hk => hk.2) e1) (p := ⟨g, 2, none⟩) (fun k hk => hk.2) l1) (fun _ q => q.1)
  · exact Kd.R_mono (Kd.R_far (Kd.R_far (Kd.R_types h.rl h.hb (by decide)) (p := ⟨g, 1, none⟩) (fun k hk => hk.2) e1) (p := ⟨g, 2, none⟩) (fun k hk => hk.2) l1) (fun _ q => q.1)
theorem LVX.lx (h : LVX O M w0 base w g ve vl ve es vl ls) : LX base (fun k => O k ∨ w0.heap.size ≤ k) (fun k => M k ∨ w0.heap.size ≤ k) w g es ls := ⟨h.lo, h.lt, .inl h.og, .inl h.mg, ve, vl, h.hb, h.re, h.rl, h.me, h.ml⟩
end
theorem LX.lv {base : Nat} {O M : Nat → Prop} {w : World} {g : Nat} {es : List (List Int)} {ls : List Int} (h : LX base O M w g es ls) : ∃ Ae ce Al cl, LVX O M w base w g (.slice Ae es.length ce) (.slice Al ls.length cl) (.slice Ae es.length ce) es (.slice Al ls.length cl) ls := by
  obtain ⟨ve, vl, h1, h2, h3, h4, h5⟩ := h.row
  obtain ⟨Ae, ce, rfl⟩ := Kd.R_slice h2
  obtain ⟨Al, cl, rfl⟩ := Kd.R_slice h3
  exact ⟨Ae, ce, Al, cl, Below.refl _ _, Nat.le_trans h.lo (Nat.le_of_lt h.lt), KeepX.refl _ _, h.lo, h.og, h.mg, h1, Kd.R_mono h2 (fun _ q => .inl q), Kd.R_mono h3 (fun _ q => .inl q), fun k hk => .inl (h4 k hk), fun k hk => .inl (h5 k hk)⟩
theorem LG.lx_new {w w' : World} {g : Nat} {es : List (List Int)} {ls : List Int} (h : LG w.heap.size w' g es ls) : LX w.heap.size (fun k => w.heap.size ≤ k) (fun k => w.heap.size ≤ k) w' g es ls := by
  obtain ⟨ve, vl, h1, h2, h3⟩ := h.row
  exact ⟨h.lo, h.lt, h.lo, h.lo, ve, vl, h1, Kd.R_mono (Kd.R_bound h2) (fun _ q => q.2.1), Kd.R_mono (Kd.R_bound h3) (fun _ q => q.2.1), fun k hk => (own_typed h2 k hk).1, fun k hk => (own_typed h3 k hk).1⟩
end Go.Proofs.Ytacjdoekgmmfoaa.PL
end
section
namespace Go.Proofs.Ytacjdoekgmmfoaa.PL
open Go.RowKit Go.Proofs.YtacjdoekgmmfoaaW.PrintWords Go.Proofs.YtacjdoekgmmfoaaW.PrintLast Go.Proofs.YtacjdoekgmmfoaaW.PrintMore
set_option linter.unusedVariables false
set_option linter.unusedSimpArgs false
theorem LX.of_len {O M : Nat → Prop} {w0 w : World} {base g n m : Nat} {Ae Al : Option Addr} {ce cl : Nat} {es : List (List Int)} {ls : List Int} (he : n = es.length) (hl : m = ls.length) (h : LVX O M w0 base w g (.slice Ae n ce) (.slice Al m cl) (.slice Ae n ce) es (.slice Al m cl) ls) : LX base (fun k => O k ∨ w0.heap.size ≤ k) (fun k => M k ∨ w0.heap.size ≤ k) w g es ls := h.lx
set_option maxHeartbeats 3200000 in
set_option maxRecDepth 100000 in
/-- Add: an entry more. -/
theorem addX_calls (k base : Nat) (O M : Nat → Prop) (w : World) (g : Nat) (es : List (List Int)) (ls : List Int) (A : Option Addr) (c : Nat) (xs : List Int) (r : Int) (h : LX base O M w g es ls)
    (hX : ∀ W, KeepX M w W → Kd.C (Kd.int .u8) W A xs.length xs) (hc : xs.length ≤ c) (hl : xs.length ≤ 256) (hn : es.length < 4096) (hll : ls.length < 4096) (hr : proof_Leaf.f k xs = some r) :
    Calls Try.prog 47 #[.pointer (some ⟨g, 0, none⟩), .slice A xs.length c] w fun e w' => e = .returned (.tuple #[.int .i64 es.length, .int .i64 0]) ∧ LX base (fun k => O k ∨ w.heap.size ≤ k) (fun k => M k ∨ w.heap.size ≤ k) w' g (es ++ [xs]) (ls ++ [r]) ∧ Below base w w' ∧ KeepX M w w' := by
  obtain ⟨Ae, ce, Al, cl, hv⟩ := h.lv
  have HV := lhid hv
  have HX := lhid hX
  have HR := lhid hr
  have h70 := lhid hv.hb
  have hu70 := Try.underlying70
  have hc1 := hv.c1
  have hc2 := hv.c2
  have hd1 : decide ((xs.length : Int) > 256) = false := decide_eq_false (by omega)
  have hd2 : decide ((es.length : Int) ≥ 4096) = false := decide_eq_false (by omega)
  have hrd := lhid (ready_calls w g _ _ hv.hb)
  clear hv hX hr h
  go_enter Try.func47, Try.ntmps47
  go_wp2_with fail
  refine hrd.out.mono ?_
  rintro e w' ⟨rfl, rfl⟩
  go_wp2_with fail
  have HV1 := lhid (HV.out.next (below_drew1 (Below.refl _ _)))
  clear hrd hc1 hc2
  refine start_ (n := 24) (S := fun w' => w'.cell? ⟨g, 1, none⟩ = some (.slice Ae es.length ce) ∧ w'.cell? ⟨g, 2, none⟩ = some (.slice Al ls.length cl)) (ds := [20, 23]) #[false, false, false, false, false, false, false, false, false, false, false, false, false, false, false, false, false, false, false, false, false, false, false, false] (by kernel_rfl) rfl rfl ⟨HV1.out.c1, HV1.out.c2⟩ (fun hHeld => ?_)
  generalize w.drew = w1 at HV1 hHeld ⊢
  refine pure_ (i := 0) (N := some 21) (v := ?_) (a' := ?_) #[true, false, false, false, false, false, false, false, false, false, false, false, false, false, false, false, false, false, false, false, false, false, false, false] rfl rfl (by kernel_rfl) (fun _ _ _ h => h) (Or.inl ⟨by rfl, ?_⟩) ?_ ?_
  rotate_left
  · intro w'
    go_simp
    with_reducible rfl
  rotate_left
  · simp only [Act.put, List.setIfInBounds_toArray, List.set_cons_zero, List.set_cons_succ, i64_w, i32_w]
    rfl
  refine pure_ (i := 1) (N := some 22) (v := ?_) (a' := ?_) #[true, true, false, false, false, false, false, false, false, false, false, false, false, false, false, false, false, false, false, false, false, false, false, false] rfl rfl (by kernel_rfl) (fun _ _ _ h => h) (Or.inl ⟨by rfl, ?_⟩) ?_ ?_
  rotate_left
  · intro w'
    go_simp
    with_reducible rfl
  rotate_left
  · simp only [Act.put, List.setIfInBounds_toArray, List.set_cons_zero, List.set_cons_succ, i64_w, i32_w]
    rfl
  refine pure_ (i := 2) (N := some 23) (v := ?_) (a' := ?_) #[true, true, true, false, false, false, false, false, false, false, false, false, false, false, false, false, false, false, false, false, false, false, false, false] rfl rfl (by kernel_rfl) (fun _ _ _ h => h) (Or.inl ⟨by rfl, ?_⟩) ?_ ?_
  rotate_left
  · intro w'
    go_simp
    with_reducible rfl
  rotate_left
  · simp only [Act.put, List.setIfInBounds_toArray, List.set_cons_zero, List.set_cons_succ, i64_w, i32_w]
    rfl
  refine pure_ (i := 3) (N := some 24) (v := ?_) (a' := ?_) #[true, true, true, true, false, false, false, false, false, false, false, false, false, false, false, false, false, false, false, false, false, false, false, false] rfl rfl (by kernel_rfl) (fun _ _ _ h => h) (Or.inl ⟨by rfl, ?_⟩) ?_ ?_
  rotate_left
  · intro w'
    go_simp
    with_reducible rfl
  rotate_left
  · simp only [Act.put, List.setIfInBounds_toArray, List.set_cons_zero, List.set_cons_succ, i64_w, i32_w]
    rfl
  refine pure_ (i := 4) (N := some 25) (v := ?_) (a' := ?_) #[true, true, true, true, true, false, false, false, false, false, false, false, false, false, false, false, false, false, false, false, false, false, false, false] rfl rfl (by kernel_rfl) (fun _ _ _ h => h) (Or.inl ⟨by rfl, ?_⟩) ?_ ?_
  rotate_left
  · intro w'
    go_simp
    with_reducible rfl
  rotate_left
  · simp only [Act.put, List.setIfInBounds_toArray, List.set_cons_zero, List.set_cons_succ, i64_w, i32_w]
    rfl
  refine pure_ (i := 6) (N := some 27) (v := ?_) (a' := ?_) #[true, true, true, true, true, false, true, false, false, false, false, false, false, false, false, false, false, false, false, false, false, false, false, false] rfl rfl (by kernel_rfl) (fun _ _ _ h => h) (Or.inl ⟨by rfl, ?_⟩) ?_ ?_
  rotate_left
  · intro w'
    go_simp
    with_reducible rfl
  rotate_left
  · simp only [Act.put, List.setIfInBounds_toArray, List.set_cons_zero, List.set_cons_succ, i64_w, i32_w]
    rfl
  refine pure_ (i := 10) (N := some 31) (v := ?_) (a' := ?_) #[true, true, true, true, true, false, true, false, false, false, true, false, false, false, false, false, false, false, false, false, false, false, false, false] rfl rfl (by kernel_rfl) (fun _ _ _ h => h) (Or.inl ⟨by rfl, ?_⟩) ?_ ?_
  rotate_left
  · intro w'
    go_simp
    with_reducible rfl
  rotate_left
  · simp only [Act.put, List.setIfInBounds_toArray, List.set_cons_zero, List.set_cons_succ, i64_w, i32_w]
    rfl
  refine pure_ (i := 11) (N := some 32) (v := ?_) (a' := ?_) #[true, true, true, true, true, false, true, false, false, false, true, true, false, false, false, false, false, false, false, false, false, false, false, false] rfl rfl (by kernel_rfl) (fun _ _ _ h => h) (Or.inl ⟨by rfl, ?_⟩) ?_ ?_
  rotate_left
  · intro w'
    go_simp
    with_reducible rfl
  rotate_left
  · simp only [Act.put, List.setIfInBounds_toArray, List.set_cons_zero, List.set_cons_succ, i64_w, i32_w]
    rfl
  refine pure_ (i := 12) (N := some 33) (v := ?_) (a' := ?_) #[true, true, true, true, true, false, true, false, false, false, true, true, true, false, false, false, false, false, false, false, false, false, false, false] rfl rfl (by kernel_rfl) (fun _ _ _ h => h) (Or.inl ⟨by rfl, ?_⟩) ?_ ?_
  rotate_left
  · intro w'
    go_simp
    with_reducible rfl
  rotate_left
  · simp only [Act.put, List.setIfInBounds_toArray, List.set_cons_zero, List.set_cons_succ, i64_w, i32_w]
    rfl
  refine pure_ (i := 14) (N := some 35) (v := ?_) (a' := ?_) #[true, true, true, true, true, false, true, false, false, false, true, true, true, false, true, false, false, false, false, false, false, false, false, false] rfl rfl (by kernel_rfl) (fun _ _ _ h => h) (Or.inl ⟨by rfl, ?_⟩) ?_ ?_
  rotate_left
  · intro w'
    go_simp
    with_reducible rfl
  rotate_left
  · simp only [Act.put, List.setIfInBounds_toArray, List.set_cons_zero, List.set_cons_succ, i64_w, i32_w]
    rfl
  refine take_ (i := 5) (N := some 26) (v := ?_) (a' := ?_) #[true, true, true, true, true, true, true, false, false, false, true, true, true, false, true, false, false, false, false, false, false, false, false, false] rfl rfl (by kernel_rfl) (fun _ _ _ h => h) (Or.inl ⟨by rfl, ?_⟩) hHeld ?_ ?_
  rotate_left
  · rintro w' ⟨s0, s1⟩
    go_simp
    with_reducible rfl
  rotate_left
  · simp only [Act.put, List.setIfInBounds_toArray, List.set_cons_zero, List.set_cons_succ, i64_w, i32_w]
    rfl
  refine take_ (i := 13) (N := some 34) (v := ?_) (a' := ?_) #[true, true, true, true, true, true, true, false, false, false, true, true, true, true, true, false, false, false, false, false, false, false, false, false] rfl rfl (by kernel_rfl) (fun _ _ _ h => h) (Or.inl ⟨by rfl, ?_⟩) hHeld ?_ ?_
  rotate_left
  · rintro w' ⟨s0, s1⟩
    go_simp
    with_reducible rfl
  rotate_left
  · simp only [Act.put, List.setIfInBounds_toArray, List.set_cons_zero, List.set_cons_succ, i64_w, i32_w]
    rfl
  refine one_ (i := 7) (N := some 28) #[true, true, true, true, true, true, true, true, false, false, true, true, true, true, true, false, false, false, false, false, false, false, false, false] rfl rfl (by kernel_rfl) (by decide) (fun K hK => ?_)
  refine goes_ Try.func81 (by kernel_rfl) rfl #[.slice A xs.length c] (by rfl) rfl rfl (by simp only [List.map_toArray, List.map_cons, List.map_nil]; rfl) ?_
  with_reducible refine (clone_calls _ A c xs (HX.out _ HV1.out.keep) hc (by omega)).mono ?_
  rintro e w2 ⟨vc, rfl, ho2, hb2⟩
  refine ⟨_, rfl, ?_⟩
  obtain ⟨Ac, cc, rfl⟩ := Kd.R_slice ho2
  have HV2 := lhid (HV1.out.next hb2)
  have HX2 := lhid (Kd.R_lower (Kd.R_mono (Kd.R_bound (Kd.R_new' (u := .slice Ae es.length ce) ho2 (fun k hk => (own_typed HV1.out.re k hk).2.1))) (fun k hk => (⟨Nat.le_trans HV1.out.below.size hk.2.1, hk.1.2⟩ : w.heap.size ≤ k ∧ some k ≠ (Value.slice Ae es.length ce).ownBlock))) HV1.out.size)
  clear hb2 ho2 HV1
  refine hK.out _ _ ⟨HV2.out.c1, HV2.out.c2⟩ (fun hHeld => ?_)
  clear hK K
  refine norm_ (a' := ?_) ?_ ?_
  rotate_left
  · show Act.put _ (some 28) _ = _
    simp only [Act.put, List.setIfInBounds_toArray, List.set_cons_zero, List.set_cons_succ, i64_w, i32_w]
    rfl
  refine one_ (i := 8) (N := some 29) #[true, true, true, true, true, true, true, true, true, false, true, true, true, true, true, false, false, false, false, false, false, false, false, false] rfl rfl (by kernel_rfl) (by decide) (fun K hK => ?_)
  refine value_ (w1 := ?_) (v := ?_) (by rfl) rfl ?_ ?_
  rotate_left 2
  · go_simp
    constructor
    · rfl
    · rfl
  refine hK.out _ _ ⟨(HV2.out.alloc _).c1, (HV2.out.alloc _).c2⟩ (fun hHeld => ?_)
  clear hK K
  refine norm_ (a' := ?_) ?_ ?_
  rotate_left
  · show Act.put _ (some 29) _ = _
    simp only [Act.put, List.setIfInBounds_toArray, List.set_cons_zero, List.set_cons_succ, i64_w, i32_w]
    rfl
  refine one_ (i := 9) (N := some 30) #[true, true, true, true, true, true, true, true, true, true, true, true, true, true, true, false, false, false, false, false, false, false, false, false] rfl rfl (by kernel_rfl) (by decide) (fun K hK => ?_)
  refine Kd.R_append_step (Kd.slice 5 (Kd.int .u8)) (w0 := w) base (by rfl) (.tmp 26) (.tmp 29) 39 22 (.slice none 0 0) 24 rfl Try.underlying39 info22 rfl (by decide) (by omega) (.slice Ae es.length ce) es xs [.slice Ac xs.length cc] (fun k => O k ∨ w.heap.size ≤ k) (fun k_ => w2.heap.size ≤ k_ ∨ (w.heap.size ≤ k_ ∧ some k_ ≠ (Value.slice Ae es.length ce).ownBlock)) rfl rfl ?aP9 ?aK9 (fun k hk => .inr (Nat.le_trans HV2.out.below.size hk)) ?aO9 ?aB9 ?aS9 ?aL9 ?_
  (case aP9 => exact Kd.M_row (Kd.R_mono HX2.out (fun k hk => .inr hk)))
  (case aK9 =>
    intro k hk
    rcases hk with hk | hk
    · exact ⟨.inr (Nat.le_trans HV2.out.below.size hk), fun e => by have := (own_typed HV2.out.re k e.symm).2.1; omega⟩
    · exact ⟨.inr hk.1, hk.2⟩)
  (case aO9 => exact HV2.out.re)
  (case aB9 => exact HV2.out.below)
  (case aS9 => exact HV2.out.size)
  (case aL9 => omega)
  intro ve3 w3 ho3 hb3 hg3 hat3
  obtain ⟨A3, c3, rfl⟩ := Kd.R_slice ho3
  have HV3 := lhid (HV2.out.appE ho3 hb3 hg3 hat3)
  clear HV2 HX2 ho3 hb3 hg3 hat3
  refine hK.out _ _ ⟨HV3.out.c1, HV3.out.c2⟩ (fun hHeld => ?_)
  clear hK K
  refine norm_ (a' := ?_) ?_ ?_
  rotate_left
  · show Act.put _ (some 30) _ = _
    simp only [Act.put, List.setIfInBounds_toArray, List.set_cons_zero, List.set_cons_succ, i64_w, i32_w]
    rfl
  refine one_ (i := 15) (N := some 36) #[true, true, true, true, true, true, true, true, true, true, true, true, true, true, true, true, false, false, false, false, false, false, false, false] rfl rfl (by kernel_rfl) (by decide) (fun K hK => ?_)
  refine goes_ Try.func28 (by kernel_rfl) rfl #[.slice A xs.length c] (by rfl) rfl rfl (by simp only [List.map_toArray, List.map_cons, List.map_nil]; rfl) ?_
  with_reducible refine (proof_Leaf.calls k A c xs r _ (HX.out _ HV3.out.keep) hc HR.out).mono ?_
  rintro e w4 ⟨rfl, hb4⟩
  refine ⟨_, rfl, ?_⟩
  have HV4 := lhid (HV3.out.next hb4)
  clear hb4 HV3
  refine hK.out _ _ ⟨HV4.out.c1, HV4.out.c2⟩ (fun hHeld => ?_)
  clear hK K
  refine norm_ (a' := ?_) ?_ ?_
  rotate_left
  · show Act.put _ (some 36) _ = _
    simp only [Act.put, List.setIfInBounds_toArray, List.set_cons_zero, List.set_cons_succ, i64_w, i32_w]
    rfl
  refine one_ (i := 16) (N := some 37) #[true, true, true, true, true, true, true, true, true, true, true, true, true, true, true, true, true, false, false, false, false, false, false, false] rfl rfl (by kernel_rfl) (by decide) (fun K hK => ?_)
  refine value_ (w1 := ?_) (v := ?_) (by rfl) rfl ?_ ?_
  rotate_left 2
  · go_simp
    constructor
    · rfl
    · rfl
  refine hK.out _ _ ⟨(HV4.out.alloc _).c1, (HV4.out.alloc _).c2⟩ (fun hHeld => ?_)
  clear hK K
  refine norm_ (a' := ?_) ?_ ?_
  rotate_left
  · show Act.put _ (some 37) _ = _
    simp only [Act.put, List.setIfInBounds_toArray, List.set_cons_zero, List.set_cons_succ, i64_w, i32_w]
    rfl
  refine one_ (i := 17) (N := some 38) #[true, true, true, true, true, true, true, true, true, true, true, true, true, true, true, true, true, true, false, false, false, false, false, false] rfl rfl (by kernel_rfl) (by decide) (fun K hK => ?_)
  refine Kd.R_append_step (Kd.int .u64) (w0 := w) base (by rfl) (.tmp 34) (.tmp 37) 46 33 (.int .u64 0) 8 rfl Try.underlying46 info33 rfl (by decide) (by omega) (.slice Al ls.length cl) ls r [.int .u64 r] (fun k => O k ∨ w.heap.size ≤ k) (fun _ => False) rfl rfl ?aP17 (fun _ hk => hk.elim) (fun k hk => .inr (Nat.le_trans HV4.out.below.size hk)) ?aO17 ?aB17 ?aS17 ?aL17 ?_
  (case aP17 => exact rfl)
  (case aO17 => exact HV4.out.rl)
  (case aB17 => exact HV4.out.below)
  (case aS17 => exact HV4.out.size)
  (case aL17 => omega)
  intro vl5 w5 ho5 hb5 hg5 hat5
  obtain ⟨A5, c5, rfl⟩ := Kd.R_slice ho5
  have HV5 := lhid (HV4.out.appL ho5 hb5 hg5 hat5)
  clear HV4 ho5 hb5 hg5 hat5
  refine hK.out _ _ ⟨HV5.out.c1, HV5.out.c2⟩ (fun hHeld => ?_)
  clear hK K
  refine norm_ (a' := ?_) ?_ ?_
  rotate_left
  · show Act.put _ (some 38) _ = _
    simp only [Act.put, List.setIfInBounds_toArray, List.set_cons_zero, List.set_cons_succ, i64_w, i32_w]
    rfl
  refine pure_ (i := 18) (N := some 39) (v := ?_) (a' := ?_) #[true, true, true, true, true, true, true, true, true, true, true, true, true, true, true, true, true, true, true, false, false, false, false, false] rfl rfl (by kernel_rfl) (fun _ _ _ h => h) (Or.inl ⟨by rfl, ?_⟩) ?_ ?_
  rotate_left
  · intro w'
    go_simp
    with_reducible rfl
  rotate_left
  · simp only [Act.put, List.setIfInBounds_toArray, List.set_cons_zero, List.set_cons_succ, i64_w, i32_w]
    rfl
  refine pure_ (i := 19) (N := some 40) (v := ?_) (a' := ?_) #[true, true, true, true, true, true, true, true, true, true, true, true, true, true, true, true, true, true, true, true, false, false, false, false] rfl rfl (by kernel_rfl) (fun _ _ _ h => h) (Or.inl ⟨by rfl, ?_⟩) ?_ ?_
  rotate_left
  · intro w'
    go_simp
    with_reducible rfl
  rotate_left
  · simp only [Act.put, List.setIfInBounds_toArray, List.set_cons_zero, List.set_cons_succ, i64_w, i32_w]
    rfl
  refine last_ (i := 20) (N := none) #[true, true, true, true, true, true, true, true, true, true, true, true, true, true, true, true, true, true, true, true, true, false, false, false] rfl rfl (by kernel_rfl) (by decide) (fun K hK => ?_)
  have hf5 := HV5.out.f1
  have hc5 := HV5.out.c1
  refine skip_ (w1 := ?_) (by rfl) rfl ?_ ?_
  rotate_left
  · go_simp
    rfl
  refine hK.out _ _ ?_
  clear hK K
  refine pure_ (i := 21) (N := some 41) (v := ?_) (a' := ?_) #[true, true, true, true, true, true, true, true, true, true, true, true, true, true, true, true, true, true, true, true, true, true, false, false] rfl rfl (by kernel_rfl) (fun _ _ _ h => h) (Or.inl ⟨by rfl, ?_⟩) ?_ ?_
  rotate_left
  · intro w'
    go_simp
    with_reducible rfl
  rotate_left
  · simp only [Act.put, List.setIfInBounds_toArray, List.set_cons_zero, List.set_cons_succ, i64_w, i32_w]
    rfl
  refine pure_ (i := 22) (N := some 42) (v := ?_) (a' := ?_) #[true, true, true, true, true, true, true, true, true, true, true, true, true, true, true, true, true, true, true, true, true, true, true, false] rfl rfl (by kernel_rfl) (fun _ _ _ h => h) (Or.inl ⟨by rfl, ?_⟩) ?_ ?_
  rotate_left
  · intro w'
    go_simp
    with_reducible rfl
  rotate_left
  · simp only [Act.put, List.setIfInBounds_toArray, List.set_cons_zero, List.set_cons_succ, i64_w, i32_w]
    rfl
  refine last_ (i := 23) (N := none) #[true, true, true, true, true, true, true, true, true, true, true, true, true, true, true, true, true, true, true, true, true, true, true, true] rfl rfl (by kernel_rfl) (by decide) (fun K hK => ?_)
  have hf6 := HV5.out.f2
  have hc6 := HV5.out.c2
  refine skip_ (w1 := ?_) (by rfl) rfl ?_ ?_
  rotate_left
  · go_simp
    rfl
  refine hK.out _ _ ?_
  clear hK K
  refine done_ (by kernel_rfl) ?_

  have HD := lhid (HV5.out.done h70.out)
  have hlen : (es ++ [xs]).length = es.length + 1 := by simp
  have hlen2 : (ls ++ [r]).length = ls.length + 1 := by simp
  rw [hlen, hlen2] at HD
  generalize (w5.setCell ⟨g, 1, none⟩ (.slice A3 (es.length + 1) c3)).setCell ⟨g, 2, none⟩ (.slice A5 (ls.length + 1) c5) = w6 at *
  have hc6 := HD.out.c1
  clear HV5
  go_wp2_with fail
  go_ret2
  exact ⟨by simp, LX.of_len (by simp) (by simp) HD.out, HD.out.below, HD.out.keep⟩
end Go.Proofs.Ytacjdoekgmmfoaa.PL
end
section
namespace Go.Proofs.Ytacjdoekgmmfoaa.PL
open Go.RowKit Go.Proofs.YtacjdoekgmmfoaaW.PrintWords Go.Proofs.YtacjdoekgmmfoaaW.PrintLast Go.Proofs.YtacjdoekgmmfoaaW.PrintMore Go.Proofs.Ytacjdoekgmmfoaa.Opn
set_option linter.unusedVariables false
set_option linter.unusedSimpArgs false
theorem nil_eq46 (a : Option Addr) (n c : Nat) (w : World) : (binOp .eql 46 (.slice a n c) (.slice none 0 0)).run Try.prog w = .ok (.bool a.isNone) w := by
  have h : ∀ d : Nat, (Op.equalIn (d + 1) 46 (.slice a n c) (.slice none 0 0)).run Try.prog w = .ok a.isNone w := fun d => by
    cases a <;> simp [Op.equalIn, run_underlying Try.underlying46]
  simp only [binOp]
  simp [Op.equal, Op.maxDepth, h 9999]
theorem clone64_calls (w : World) (A : Option Addr) (c : Nat) (xs : List Int) (hC : Kd.C (Kd.int .u64) w A xs.length xs) (hc : xs.length ≤ c) (hl : xs.length ≤ 1000000) :
    Calls Try.prog 80 #[.slice A xs.length c] w fun e w' => ∃ v, e = .returned v ∧ Kd.R (Kd.int .u64) 33 w' w.heap.size (fun _ => True) v xs ∧ Below w.heap.size w w' := by
  have HC := lhid hC
  have HB := Aside0.mk (Below.refl w.heap.size w)
  clear hC
  cases A with
  | none =>
    have hx : xs = [] := by
      cases xs with
      | nil => rfl
      | cons x xs => obtain ⟨ad, e, _⟩ := HC.out.2.2 (by simp); cases e
    subst hx
    have hnil := nil_eq46 none 0 c
    go_enter Try.func80, Try.ntmps80
    go_wp2_with fail
    go_ret
    exact ⟨_, rfl, Kd.R_nil _ _ _ _ _, HB.out⟩
  | some ad =>
    have hnil := nil_eq46 (some ad) xs.length c
    go_enter Try.func80, Try.ntmps80
    go_wp2_with (first | ((with_reducible refine gate_dst (N := 5) rfl ?_); refine Kd.R_lit (Kd.int .u64) _ 33 ?hg (N := 5) ?hd (xs := ([] : List Int)) (inner := []) (ok := fun _ => True) (okp := fun _ => True) ?hr ?hp (fun _ hk => hk) trivial (Below.refl _ _) (Nat.le_refl _) (by simp) ?_; (case hd => rfl); (case hg => rfl); (case hr => first | (go_simp; done) | (go_simp; rfl)); (case hp => exact Reps.none _ _); intro v1 w1 ho8 hb hg_ hnew_; clear hg_ hnew_; have HO1 := Aside0.mk ho8; have HB1 := Aside0.mk hb; clear ho8 hb) | ((with_reducible refine gate_builtin (b := .append) (xs := #[.tmp 5, .tmp 6]) rfl ?_); at_builtin; refine Kd.R_append_rows (Kd.int .u64) (w0 := w) w.heap.size rfl (.tmp 5) (.tmp 6) 46 33 (.int .u64 0) 8 rfl Try.underlying46 info33 rfl (by decide) (by omega) v1 [] xs _ _ _ (fun _ => True) (fun _ => False) rfl rfl ?aO ?aR (fun _ _ h => h) (fun _ h => h.elim) ?aF ?aB ?aS ?aL ?_; (case aR => exact (Kd.C_below HC.out HB1.out)); (case aB => exact HB1.out); (case aF => exact (fun _ _ => trivial)); (case aO => exact HO1.out); (case aS => exact (below_size HB1.out)); (case aL => simp; omega); intro v2 w2 ho hb hg hat; have HO2 := Aside0.mk ho; have HB2 := Aside0.mk hb; clear ho hb hg hat))
    go_ret
    exact ⟨_, rfl, HO2.out, HB2.out⟩
set_option maxHeartbeats 3200000 in
set_option maxRecDepth 100000 in
/-- Entry. -/
theorem entry_calls (base : Nat) (w : World) (g : Nat) (es : List (List Int)) (ls : List Int) (i : Int) (h : LG base w g es ls) (h1 : 0 ≤ i) (h2 : i < (es.length : Int)) (hx : (rd_L1 es i).length ≤ 1000000) :
    Calls Try.prog 49 #[.pointer (some ⟨g, 0, none⟩), .int .i64 i] w fun e w' => ∃ v, e = .returned (.tuple #[v, .int .i64 0]) ∧ Kd.R (Kd.int .u8) 5 w' w.heap.size (fun _ => True) v (rd_L1 es i) ∧ Below w.heap.size w w' := by
  obtain ⟨Ae, ce, Al, cl, hv⟩ := h.lv
  have hrd := lhid (ready_calls w g _ _ hv.hb)
  have hc1 := hv.c1
  obtain ⟨_, _, hC⟩ := Kd.R_reads' hv.re
  have HX := lhid hx
  have hu70 := Try.underlying70
  have hu22 := Try.underlying22
  obtain ⟨ad, Ai, ci, ei, hq, hl, hci⟩ := at_L1 hC i h1 h2
  cases ei
  have HCI := lhid hci
  have HL := lhid hl
  clear hv hC h hci hl hx
  have hd1 : decide (i < 0) = false := decide_eq_false (by omega)
  have hd2 : decide (i ≥ (es.length : Int)) = false := decide_eq_false (by omega)
  go_enter Try.func49, Try.ntmps49
  go_wp2_with fail
  refine hrd.out.mono ?_
  rintro e w' ⟨rfl, rfl⟩
  go_wp2_with fail
  refine (clone_calls w Ai ci _ HCI.out HL.out HX.out).mono ?_
  rintro e w1 ⟨v, rfl, hR, hb⟩
  go_wp2_with fail
  go_ret2
  exact ⟨v, rfl, hR, hb⟩
set_option maxHeartbeats 3200000 in
set_option maxRecDepth 100000 in
theorem entry_none (base : Nat) (w : World) (g : Nat) (es : List (List Int)) (ls : List Int) (i : Int) (h : LG base w g es ls) (hn : ¬ (0 ≤ i ∧ i < (es.length : Int))) :
    Calls Try.prog 49 #[.pointer (some ⟨g, 0, none⟩), .int .i64 i] w fun e w' => e = .returned (.tuple #[.slice none 0 0, .int .i64 6]) ∧ w = w' := by
  obtain ⟨Ae, ce, Al, cl, hv⟩ := h.lv
  have hrd := lhid (ready_calls w g _ _ hv.hb)
  have hc1 := hv.c1
  have hu70 := Try.underlying70
  clear hv h
  go_enter Try.func49, Try.ntmps49
  go_wp2_with fail
  refine hrd.out.mono ?_
  rintro e w' ⟨rfl, rfl⟩
  by_cases hi : i < 0
  · have hd1 : decide (i < 0) = true := decide_eq_true hi
    go_wp2_with fail
    go_ret2
    exact ⟨rfl, rfl⟩
  · have hd1 : decide (i < 0) = false := decide_eq_false hi
    have hd2 : decide (i ≥ (es.length : Int)) = true := decide_eq_true (by omega)
    go_wp2_with fail
    go_ret2
    exact ⟨rfl, rfl⟩
end Go.Proofs.Ytacjdoekgmmfoaa.PL
end
