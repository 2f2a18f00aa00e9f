-- printed by wip/gprint.py of this repo out of the translation and the texts under wip/
import Derived.Test.YtacjdoekgmmfoaaPLx0
import Derived.Test.YtacjdoekgmmfoaaPLx4
import Derived.Test.YtacjdoekgmmfoaaPLx5
import Derived.Test.YtacjdoekgmmfoaaPLx6
import Derived.Test.YtacjdoekgmmfoaaPLx11
import Derived.Test.YtacjdoekgmmfoaaPLx12
import Derived.Test.YtacjdoekgmmfoaaPLx15
namespace Go.Proofs.Ytacjdoekgmmfoaa.PL
open Go.RowKit Go.Proofs.YtacjdoekgmmfoaaW.PrintWords Go.Proofs.YtacjdoekgmmfoaaW.PrintLast Go.Proofs.YtacjdoekgmmfoaaW.PrintMore
attribute [local go_sem] max2_int min2_int max_two min_two max_three min_three max_four min_four   -- for this text's walks alone
set_option linter.unusedVariables false
set_option linter.unusedSimpArgs false

/-! ### kimberlitelaw07_ProofJudges: function 6 -/
mutual
def kimberlitelaw07_ProofJudges.j0 : Nat → List Int → Int → Int → Int → List (S54) → Int → Int → List Int → Bool → Option (Bool)
  | 0, _, _, _, _, _, _, _, _, _ => none
  | k + 1, x0, x1, x2, x3, x4, x5, x6, x7, x33 => if x33 = true then ((kimberlitelaw07_alive.f k).bind fun t376 => (some t376)) else ((proof_Included.f k x0 x1 x2 x3 x4).bind fun bt377 => ((kimberliteref07_Included.f k x0 x1 x2 x3 x4).bind fun bt379 => (if (bt377.1 != bt379.1) = true then (kimberlitelaw07_ProofJudges.j1 k x2 x3 x5 x6 x7 true) else (if bt377.2 = bt379.2 then ((proof_Follow.f k x0 x4).bind fun t381 => ((kimberliteref07_Follow.f k x0 x4).bind fun t382 => (kimberlitelaw07_ProofJudges.j1 k x2 x3 x5 x6 x7 (t381 != t382)))) else (kimberlitelaw07_ProofJudges.j1 k x2 x3 x5 x6 x7 true)))))
def kimberlitelaw07_ProofJudges.j1 : Nat → Int → Int → Int → Int → List Int → Bool → Option (Bool)
  | 0, _, _, _, _, _, _ => none
  | k + 1, x2, x3, x5, x6, x7, x69 => if x69 = true then (some false) else ((proof_Extended.f k x5 x2 x6 x3 x7).bind fun bt383 => ((kimberliteref07_Extended.f k x5 x2 x6 x3 x7).bind fun bt385 => (if (bt383.1 == bt385.1) = true then (if bt383.2 = bt385.2 then ((kimberlitelaw07_alive.f k).bind fun t387 => (some t387)) else (some false)) else (some false))))
end
def kimberlitelaw07_ProofJudges.f (k : Nat) (l0 : List Int) (a1 : Int) (a2 : Int) (a3 : Int) (l4 : List (S54)) (a5 : Int) (a6 : Int) (l7 : List Int) : Option (Bool) := if (l0.length : Int) > 400 then (kimberlitelaw07_ProofJudges.j0 k l0 a1 a2 a3 l4 a5 a6 l7 true) else (if (l4.length : Int) > 100 then (kimberlitelaw07_ProofJudges.j0 k l0 a1 a2 a3 l4 a5 a6 l7 true) else (kimberlitelaw07_ProofJudges.j0 k l0 a1 a2 a3 l4 a5 a6 l7 (decide ((l7.length : Int) > 100))))
theorem kimberlitelaw07_ProofJudges.mono_l : ∀ k, (∀ y0 y1 y2 y3 y4 y5 y6 y7 y8, LeO (kimberlitelaw07_ProofJudges.j0 k y0 y1 y2 y3 y4 y5 y6 y7 y8) (kimberlitelaw07_ProofJudges.j0 (k + 1) y0 y1 y2 y3 y4 y5 y6 y7 y8)) ∧ (∀ y0 y1 y2 y3 y4 y5, LeO (kimberlitelaw07_ProofJudges.j1 k y0 y1 y2 y3 y4 y5) (kimberlitelaw07_ProofJudges.j1 (k + 1) y0 y1 y2 y3 y4 y5))
  | 0 => ⟨fun _ _ _ _ _ _ _ _ _ r h => by simp [kimberlitelaw07_ProofJudges.j0] at h, fun _ _ _ _ _ _ r h => by simp [kimberlitelaw07_ProofJudges.j1] at h⟩
  | k + 1 => by
    obtain ⟨ih0, ih1⟩ := kimberlitelaw07_ProofJudges.mono_l k
    refine ⟨?_, ?_⟩
    · intro y0 y1 y2 y3 y4 y5 y6 y7 y8
      unfold kimberlitelaw07_ProofJudges.j0
      repeat' first
      | (with_reducible exact ih0 _ _ _ _ _ _ _ _ _)
      | (with_reducible exact ih1 _ _ _ _ _ _)
      | (with_reducible exact kimberlitelaw07_alive.mono _)
      | (with_reducible exact kimberliteref07_Extended.mono _ _ _ _ _ _)
      | (with_reducible exact kimberliteref07_Follow.mono _ _ _)
      | (with_reducible exact kimberliteref07_Included.mono _ _ _ _ _ _)
      | (with_reducible exact proof_Extended.mono _ _ _ _ _ _)
      | (with_reducible exact proof_Follow.mono _ _ _)
      | (with_reducible exact proof_Included.mono _ _ _ _ _ _)
      | (with_reducible exact LeO.refl _)
      | (with_reducible exact LeO.none _)
      | (with_reducible refine LeO.ite ?_ ?_)
      | (with_reducible refine LeO.bind ?_ (fun _ => ?_))
      | exact ih0 _ _ _ _ _ _ _ _ _
      | exact ih1 _ _ _ _ _ _
      | exact kimberlitelaw07_alive.mono _
      | exact kimberliteref07_Extended.mono _ _ _ _ _ _
      | exact kimberliteref07_Follow.mono _ _ _
      | exact kimberliteref07_Included.mono _ _ _ _ _ _
      | exact proof_Extended.mono _ _ _ _ _ _
      | exact proof_Follow.mono _ _ _
      | exact proof_Included.mono _ _ _ _ _ _
      | exact LeO.none _
      | refine LeO.ite ?_ ?_
      | refine LeO.bind ?_ (fun _ => ?_)
    · intro y0 y1 y2 y3 y4 y5
      unfold kimberlitelaw07_ProofJudges.j1
      repeat' first
      | (with_reducible exact ih0 _ _ _ _ _ _ _ _ _)
      | (with_reducible exact ih1 _ _ _ _ _ _)
      | (with_reducible exact kimberlitelaw07_alive.mono _)
      | (with_reducible exact kimberliteref07_Extended.mono _ _ _ _ _ _)
      | (with_reducible exact kimberliteref07_Follow.mono _ _ _)
      | (with_reducible exact kimberliteref07_Included.mono _ _ _ _ _ _)
      | (with_reducible exact proof_Extended.mono _ _ _ _ _ _)
      | (with_reducible exact proof_Follow.mono _ _ _)
      | (with_reducible exact proof_Included.mono _ _ _ _ _ _)
      | (with_reducible exact LeO.refl _)
      | (with_reducible exact LeO.none _)
      | (with_reducible refine LeO.ite ?_ ?_)
      | (with_reducible refine LeO.bind ?_ (fun _ => ?_))
      | exact ih0 _ _ _ _ _ _ _ _ _
      | exact ih1 _ _ _ _ _ _
      | exact kimberlitelaw07_alive.mono _
      | exact kimberliteref07_Extended.mono _ _ _ _ _ _
      | exact kimberliteref07_Follow.mono _ _ _
      | exact kimberliteref07_Included.mono _ _ _ _ _ _
      | exact proof_Extended.mono _ _ _ _ _ _
      | exact proof_Follow.mono _ _ _
      | exact proof_Included.mono _ _ _ _ _ _
      | exact LeO.none _
      | refine LeO.ite ?_ ?_
      | refine LeO.bind ?_ (fun _ => ?_)
theorem kimberlitelaw07_ProofJudges.mono : ∀ a0 a1 a2 a3 a4 a5 a6 a7 k, LeO (kimberlitelaw07_ProofJudges.f k a0 a1 a2 a3 a4 a5 a6 a7) (kimberlitelaw07_ProofJudges.f (k + 1) a0 a1 a2 a3 a4 a5 a6 a7) := by
  intro a0 a1 a2 a3 a4 a5 a6 a7 k
  obtain ⟨ih0, ih1⟩ := kimberlitelaw07_ProofJudges.mono_l k
  unfold kimberlitelaw07_ProofJudges.f
  repeat' first
      | (with_reducible exact ih0 _ _ _ _ _ _ _ _ _)
      | (with_reducible exact ih1 _ _ _ _ _ _)
      | (with_reducible exact kimberlitelaw07_alive.mono _)
      | (with_reducible exact kimberliteref07_Extended.mono _ _ _ _ _ _)
      | (with_reducible exact kimberliteref07_Follow.mono _ _ _)
      | (with_reducible exact kimberliteref07_Included.mono _ _ _ _ _ _)
      | (with_reducible exact proof_Extended.mono _ _ _ _ _ _)
      | (with_reducible exact proof_Follow.mono _ _ _)
      | (with_reducible exact proof_Included.mono _ _ _ _ _ _)
      | (with_reducible exact LeO.refl _)
      | (with_reducible exact LeO.none _)
      | (with_reducible refine LeO.ite ?_ ?_)
      | (with_reducible refine LeO.bind ?_ (fun _ => ?_))
      | exact ih0 _ _ _ _ _ _ _ _ _
      | exact ih1 _ _ _ _ _ _
      | exact kimberlitelaw07_alive.mono _
      | exact kimberliteref07_Extended.mono _ _ _ _ _ _
      | exact kimberliteref07_Follow.mono _ _ _
      | exact kimberliteref07_Included.mono _ _ _ _ _ _
      | exact proof_Extended.mono _ _ _ _ _ _
      | exact proof_Follow.mono _ _ _
      | exact proof_Included.mono _ _ _ _ _ _
      | exact LeO.none _
      | refine LeO.ite ?_ ?_
      | refine LeO.bind ?_ (fun _ => ?_)
set_option maxHeartbeats 8000000 in
set_option maxRecDepth 100000 in
theorem kimberlitelaw07_ProofJudges.calls (k : Nat) (A0 : Option Addr) (c0 : Nat) (l0 : List Int) (a1 : Int) (a2 : Int) (a3 : Int) (A4 : Option Addr) (c4 : Nat) (l4 : List (S54)) (a5 : Int) (a6 : Int) (A7 : Option Addr) (c7 : Nat) (l7 : List Int) (r : Bool) (w : World) (hr0 : Kd.C (Kd.int .u8) w A0 l0.length l0) (hc0 : l0.length ≤ c0) (hr4 : Kd.C k54 w A4 l4.length l4) (hc4 : l4.length ≤ c4) (hr7 : Kd.C (Kd.int .u64) w A7 l7.length l7) (hc7 : l7.length ≤ c7) (h : kimberlitelaw07_ProofJudges.f k l0 a1 a2 a3 l4 a5 a6 l7 = some r) :
    Calls Try.prog 6 #[.slice A0 l0.length c0, .int .i64 a1, .int .i64 a2, .int .u64 a3, .slice A4 l4.length c4, .int .i64 a5, .int .u64 a6, .slice A7 l7.length c7] w fun e w' => e = .returned (.bool r) ∧ Below w.heap.size w w' := by
  have HR0 := Aside0.mk hr0
  have HC0 := Aside0.mk hc0
  clear hr0 hc0
  have HR4 := Aside0.mk hr4
  have HC4 := Aside0.mk hc4
  clear hr4 hc4
  have HR7 := Aside0.mk hr7
  have HC7 := Aside0.mk hc7
  clear hr7 hc7
  have HB := Aside0.mk (Below.refl w.heap.size w)
  have H : (if (l0.length : Int) > 400 then (kimberlitelaw07_ProofJudges.j0 k l0 a1 a2 a3 l4 a5 a6 l7 true) else (if (l4.length : Int) > 100 then (kimberlitelaw07_ProofJudges.j0 k l0 a1 a2 a3 l4 a5 a6 l7 true) else (kimberlitelaw07_ProofJudges.j0 k l0 a1 a2 a3 l4 a5 a6 l7 (decide ((l7.length : Int) > 100))))) = some r := h
  clear h
  have HC9 := Aside0.mk H
  clear H
  go_enter Try.func6, Try.ntmps6
  go_upto_region 1 with (fail)
  go_cut [33] (fun v33 wc => ∃ (kq : Nat) (x33_8 : Bool), v33 = .bool x33_8 ∧ Aside0 (kimberlitelaw07_ProofJudges.j0 kq l0 a1 a2 a3 l4 a5 a6 l7 x33_8 = some r) ∧ Aside0 (kq ≤ k) ∧ Aside0 (Below w.heap.size w wc))
  case first =>
    have H := HC9.out
    clear HC9
    by_cases c10 : (l0.length : Int) > 400
    · rw [if_pos c10] at H
      have c10b0 : decide (400 < (l0.length : Int)) = true := decide_eq_true c10
      have c10b1 : decide (400 < l0.length) = true := decide_eq_true (by omega)
      clear c10
      (first | rw [c10b0] | (simp only [i64_w, i32_w]; rw [c10b0]) | skip)
      have H' := Aside0.mk H
      clear H
      go_wp2
      go_meet
      case rel => exact ⟨_, (true), (by first | rfl | (simp; done) | (simp [*]; done)), H', ⟨by first | omega | exact Nat.le_refl _⟩, ⟨by repeat (first | (with_reducible first | exact HB.out | apply below_alloc | apply pw_below_drewN | apply below_drew1) | exact HB.out)⟩⟩
    · rw [if_neg c10] at H
      have c10b0 : decide (400 < (l0.length : Int)) = false := decide_eq_false c10
      have c10b1 : decide (400 < l0.length) = false := decide_eq_false (by omega)
      clear c10
      (first | rw [c10b0] | (simp only [i64_w, i32_w]; rw [c10b0]) | skip)
      by_cases c11 : (l4.length : Int) > 100
      · rw [if_pos c11] at H
        have c11b0 : decide (100 < (l4.length : Int)) = true := decide_eq_true c11
        have c11b1 : decide (100 < l4.length) = true := decide_eq_true (by omega)
        clear c11
        have H' := Aside0.mk H
        clear H
        go_wp2
        go_meet
        case rel => exact ⟨_, (true), (by first | rfl | (simp; done) | (simp [*]; done)), H', ⟨by first | omega | exact Nat.le_refl _⟩, ⟨by repeat (first | (with_reducible first | exact HB.out | apply below_alloc | apply pw_below_drewN | apply below_drew1) | exact HB.out)⟩⟩
      · rw [if_neg c11] at H
        have c11b0 : decide (100 < (l4.length : Int)) = false := decide_eq_false c11
        have c11b1 : decide (100 < l4.length) = false := decide_eq_false (by omega)
        clear c11
        have H' := Aside0.mk H
        clear H
        go_wp2
        go_meet
        case rel => exact ⟨_, (decide ((l7.length : Int) > 100)), (by first | rfl | (simp; done) | (simp [*]; done)), H', ⟨by first | omega | exact Nat.le_refl _⟩, ⟨by repeat (first | (with_reducible first | exact HB.out | apply below_alloc | apply pw_below_drewN | apply below_drew1) | exact HB.out)⟩⟩
  case rest =>
    clear HC9
    try clear c1
    try clear p2
    try clear c4
    try clear c6
    try clear c7
    try clear c10
    try clear c10b0
    try clear c10b1
    try clear c11
    try clear c11b0
    try clear c11b1
    obtain ⟨kq, x33_8, rfl, HA, HJ8, HB⟩ := hcut
    cases kq with
    | zero => exact absurd HA.out (by simp [kimberlitelaw07_ProofJudges.j0])
    | succ kj8 =>
      have H := HA.out
      clear HA
      simp only [kimberlitelaw07_ProofJudges.j0] at H
      by_cases c12 : x33_8 = true
      · subst c12
        have H1 : ((kimberlitelaw07_alive.f kj8).bind fun t376 => (some t376)) = some r := by rw [if_pos rfl] at H; exact H
        clear H
        have H := H1
        clear H1
        replace H := Option.bind_eq_some_iff.mp H
        obtain ⟨t376, A130, H⟩ := H
        replace H : (some t376) = some r := H
        have A13 := Aside0.mk A130
        clear A130
        obtain rfl := Option.some.inj H
        go_wp2_with (first | ((with_reducible refine gate_callee (f := 16) rfl ?_); refine goesL_ (some 34) rfl rfl Try.func16 (by kernel_rfl) rfl #[] rfl (by (try simp only [List.map_toArray, List.map_cons, List.map_nil]); first | done | rfl | (simp only [List.length_drop, List.length_take]; rfl)) ?_; (with_reducible refine (kimberlitelaw07_alive.calls kj8  t376 _ A13.out).mono ?_); rintro e w14 ⟨rfl, hb⟩; refine ⟨_, rfl, ?_⟩; have n0_ := Aside0.mk (below_step (by repeat (first | (with_reducible first | exact HB.out | apply below_alloc | apply pw_below_drewN | apply below_drew1) | exact HB.out)) hb); clear HB; have HB := n0_; clear n0_; (try clear hb); (try clear hb2); (try clear hk); (try clear hi)))
        go_ret
        exact ⟨by first | rfl | (simp [errW_none, errW_some] <;> rfl) | (simp [*, errW_none, errW_some] <;> rfl), by repeat (first | (with_reducible first | exact HB.out | apply below_alloc | apply pw_below_drewN | apply below_drew1) | exact HB.out)⟩
      · replace c12 := Bool.eq_false_iff.mpr c12
        subst c12
        have H1 : ((proof_Included.f kj8 l0 a1 a2 a3 l4).bind fun bt377 => ((kimberliteref07_Included.f kj8 l0 a1 a2 a3 l4).bind fun bt379 => (if (bt377.1 != bt379.1) = true then (kimberlitelaw07_ProofJudges.j1 kj8 a2 a3 a5 a6 l7 true) else (if bt377.2 = bt379.2 then ((proof_Follow.f kj8 l0 l4).bind fun t381 => ((kimberliteref07_Follow.f kj8 l0 l4).bind fun t382 => (kimberlitelaw07_ProofJudges.j1 kj8 a2 a3 a5 a6 l7 (t381 != t382)))) else (kimberlitelaw07_ProofJudges.j1 kj8 a2 a3 a5 a6 l7 true))))) = some r := by rw [if_neg (show ¬ (false = true) by decide)] at H; exact H
        clear H
        have H := H1
        clear H1
        replace H := Option.bind_eq_some_iff.mp H
        obtain ⟨⟨t377, t378⟩, A150, H⟩ := H
        replace H : ((kimberliteref07_Included.f kj8 l0 a1 a2 a3 l4).bind fun bt379 => (if (t377 != bt379.1) = true then (kimberlitelaw07_ProofJudges.j1 kj8 a2 a3 a5 a6 l7 true) else (if t378 = bt379.2 then ((proof_Follow.f kj8 l0 l4).bind fun t381 => ((kimberliteref07_Follow.f kj8 l0 l4).bind fun t382 => (kimberlitelaw07_ProofJudges.j1 kj8 a2 a3 a5 a6 l7 (t381 != t382)))) else (kimberlitelaw07_ProofJudges.j1 kj8 a2 a3 a5 a6 l7 true)))) = some r := H
        have A15 := Aside0.mk A150
        clear A150
        replace H := Option.bind_eq_some_iff.mp H
        obtain ⟨⟨t379, t380⟩, A160, H⟩ := H
        replace H : (if (t377 != t379) = true then (kimberlitelaw07_ProofJudges.j1 kj8 a2 a3 a5 a6 l7 true) else (if t378 = t380 then ((proof_Follow.f kj8 l0 l4).bind fun t381 => ((kimberliteref07_Follow.f kj8 l0 l4).bind fun t382 => (kimberlitelaw07_ProofJudges.j1 kj8 a2 a3 a5 a6 l7 (t381 != t382)))) else (kimberlitelaw07_ProofJudges.j1 kj8 a2 a3 a5 a6 l7 true))) = some r := H
        have A16 := Aside0.mk A160
        clear A160
        have HC17 := Aside0.mk H
        clear H
        go_upto_region 5 with (first | ((with_reducible refine gate_callee (f := 20) rfl ?_); refine goesL_ (some 41) rfl rfl Try.func20 (by kernel_rfl) rfl #[.slice A0 l0.length c0, .int .i64 a1, .int .i64 a2, .int .u64 a3, .slice A4 l4.length c4] rfl (by (try simp only [List.map_toArray, List.map_cons, List.map_nil]); first | done | rfl | (simp only [List.length_drop, List.length_take]; rfl)) ?_; (with_reducible refine (proof_Included.calls kj8 _ _ l0 a1 a2 a3 _ _ l4 t377 t378 _ ?side1 ?side2 ?side3 ?side4 A15.out).mono ?_); (case side1 => repeat (first | exact (Kd.C_below HR0.out HB.out) | (with_reducible refine Kd.C_alloc ?_ _) | (with_reducible refine Kd.C_drewN ?_ _) | (with_reducible refine Kd.C_drew ?_))); (case side2 => exact HC0.out); (case side3 => repeat (first | exact (Kd.C_below HR4.out HB.out) | (with_reducible refine Kd.C_alloc ?_ _) | (with_reducible refine Kd.C_drewN ?_ _) | (with_reducible refine Kd.C_drew ?_))); (case side4 => exact HC4.out); rintro e w18 ⟨rfl, hb⟩; refine ⟨_, rfl, ?_⟩; have n0_ := Aside0.mk (below_step (by repeat (first | (with_reducible first | exact HB.out | apply below_alloc | apply pw_below_drewN | apply below_drew1) | exact HB.out)) hb); clear HB; have HB := n0_; clear n0_; (try clear hb); (try clear hb2); (try clear hk); (try clear hi)) | ((with_reducible refine gate_callee (f := 32) rfl ?_); refine goesL_ (some 50) rfl rfl Try.func32 (by kernel_rfl) rfl #[.slice A0 l0.length c0, .int .i64 a1, .int .i64 a2, .int .u64 a3, .slice A4 l4.length c4] rfl (by (try simp only [List.map_toArray, List.map_cons, List.map_nil]); first | done | rfl | (simp only [List.length_drop, List.length_take]; rfl)) ?_; (with_reducible refine (kimberliteref07_Included.calls kj8 _ _ l0 a1 a2 a3 _ _ l4 t379 t380 _ ?side1 ?side2 ?side3 ?side4 A16.out).mono ?_); (case side1 => repeat (first | exact (Kd.C_below HR0.out HB.out) | (with_reducible refine Kd.C_alloc ?_ _) | (with_reducible refine Kd.C_drewN ?_ _) | (with_reducible refine Kd.C_drew ?_))); (case side2 => exact HC0.out); (case side3 => repeat (first | exact (Kd.C_below HR4.out HB.out) | (with_reducible refine Kd.C_alloc ?_ _) | (with_reducible refine Kd.C_drewN ?_ _) | (with_reducible refine Kd.C_drew ?_))); (case side4 => exact HC4.out); rintro e w19 ⟨rfl, hb⟩; refine ⟨_, rfl, ?_⟩; have n0_ := Aside0.mk (below_step (by repeat (first | (with_reducible first | exact HB.out | apply below_alloc | apply pw_below_drewN | apply below_drew1) | exact HB.out)) hb); clear HB; have HB := n0_; clear n0_; (try clear hb); (try clear hb2); (try clear hk); (try clear hi)))
        (try simp only [Act.put, List.setIfInBounds_toArray, List.set_cons_zero, List.set_cons_succ])
        go_cut [69] (fun v69 wc => ∃ (kq : Nat) (x69_16 : Bool), v69 = .bool x69_16 ∧ Aside0 (kimberlitelaw07_ProofJudges.j1 kq a2 a3 a5 a6 l7 x69_16 = some r) ∧ Aside0 (kq ≤ kj8) ∧ Aside0 (Below w.heap.size w wc))
        case first =>
          have H := HC17.out
          clear HC17
          by_cases c20 : (t377 != t379) = true
          · rw [if_pos c20] at H
            have c20b0 : (t377 != t379) = true := c20
            (try (have c20b1 : decide (t377 = t379) = false := by simpa using c20))
            (try (have c20b2 : (t377 == t379) = false := by simpa using c20))
            (try (have c20b3 : ¬ (t377 = t379) := by simpa using c20))
            clear c20
            (first | rw [c20b0] | (simp only [i64_w, i32_w]; rw [c20b0]) | skip)
            have H' := Aside0.mk H
            clear H
            go_wp2
            go_meet
            case rel => exact ⟨_, (true), (by first | rfl | (simp; done) | (simp [*]; done)), H', ⟨by have := HJ8.out; first | omega | exact Nat.le_refl _⟩, ⟨by repeat (first | (with_reducible first | exact HB.out | apply below_alloc | apply pw_below_drewN | apply below_drew1) | exact HB.out)⟩⟩
          · rw [if_neg c20] at H
            have c20b0 : (t377 != t379) = false := by simpa using c20
            (try (have c20b1 : decide (t377 = t379) = true := by simpa using c20))
            (try (have c20b2 : (t377 == t379) = true := by simpa using c20))
            clear c20
            (first | rw [c20b0] | (simp only [i64_w, i32_w]; rw [c20b0]) | skip)
            by_cases c21 : t378 = t380
            · rw [if_pos c21] at H
              have c21b0 : (t378 == t380) = true := beq_iff_eq.mpr c21
              have c21b1 : (t378 != t380) = false := bne_eq_false_iff_eq.mpr c21
              clear c21
              replace H := Option.bind_eq_some_iff.mp H
              obtain ⟨t381, A220, H⟩ := H
              replace H : ((kimberliteref07_Follow.f kj8 l0 l4).bind fun t382 => (kimberlitelaw07_ProofJudges.j1 kj8 a2 a3 a5 a6 l7 (t381 != t382))) = some r := H
              have A22 := Aside0.mk A220
              clear A220
              replace H := Option.bind_eq_some_iff.mp H
              obtain ⟨t382, A230, H⟩ := H
              replace H : (kimberlitelaw07_ProofJudges.j1 kj8 a2 a3 a5 a6 l7 (t381 != t382)) = some r := H
              have A23 := Aside0.mk A230
              clear A230
              have H' := Aside0.mk H
              clear H
              go_wp2_with (first | (go_at_call 19; (with_reducible refine (proof_Follow.calls kj8 _ _ l0 _ _ l4 t381 _ ?side1 ?side2 ?side3 ?side4 A22.out).mono ?_); (case side1 => repeat (first | exact (Kd.C_below HR0.out HB.out) | (with_reducible refine Kd.C_alloc ?_ _) | (with_reducible refine Kd.C_drewN ?_ _) | (with_reducible refine Kd.C_drew ?_))); (case side2 => exact HC0.out); (case side3 => repeat (first | exact (Kd.C_below HR4.out HB.out) | (with_reducible refine Kd.C_alloc ?_ _) | (with_reducible refine Kd.C_drewN ?_ _) | (with_reducible refine Kd.C_drew ?_))); (case side4 => exact HC4.out); rintro e w24 ⟨rfl, hb⟩; have n0_ := Aside0.mk (below_step (by repeat (first | (with_reducible first | exact HB.out | apply below_alloc | apply pw_below_drewN | apply below_drew1) | exact HB.out)) hb); clear HB; have HB := n0_; clear n0_; (try clear hb); (try clear hb2); (try clear hk); (try clear hi)) | (go_at_call 33; (with_reducible refine (kimberliteref07_Follow.calls kj8 _ _ l0 _ _ l4 t382 _ ?side1 ?side2 ?side3 ?side4 A23.out).mono ?_); (case side1 => repeat (first | exact (Kd.C_below HR0.out HB.out) | (with_reducible refine Kd.C_alloc ?_ _) | (with_reducible refine Kd.C_drewN ?_ _) | (with_reducible refine Kd.C_drew ?_))); (case side2 => exact HC0.out); (case side3 => repeat (first | exact (Kd.C_below HR4.out HB.out) | (with_reducible refine Kd.C_alloc ?_ _) | (with_reducible refine Kd.C_drewN ?_ _) | (with_reducible refine Kd.C_drew ?_))); (case side4 => exact HC4.out); rintro e w25 ⟨rfl, hb⟩; have n0_ := Aside0.mk (below_step (by repeat (first | (with_reducible first | exact HB.out | apply below_alloc | apply pw_below_drewN | apply below_drew1) | exact HB.out)) hb); clear HB; have HB := n0_; clear n0_; (try clear hb); (try clear hb2); (try clear hk); (try clear hi)))
              go_meet
              case rel => exact ⟨_, ((t381 != t382)), (by first | rfl | (simp; done) | (simp [*]; done)), H', ⟨by have := HJ8.out; first | omega | exact Nat.le_refl _⟩, ⟨by repeat (first | (with_reducible first | exact HB.out | apply below_alloc | apply pw_below_drewN | apply below_drew1) | exact HB.out)⟩⟩
            · rw [if_neg c21] at H
              have c21b0 : (t378 == t380) = false := beq_eq_false_iff_ne.mpr c21
              have c21b1 : (t378 != t380) = true := bne_iff_ne.mpr c21
              have H' := Aside0.mk H
              clear H
              go_wp2
              go_meet
              case rel => exact ⟨_, (true), (by first | rfl | (simp; done) | (simp [*]; done)), H', ⟨by have := HJ8.out; first | omega | exact Nat.le_refl _⟩, ⟨by repeat (first | (with_reducible first | exact HB.out | apply below_alloc | apply pw_below_drewN | apply below_drew1) | exact HB.out)⟩⟩
        case rest =>
          clear HC17
          try clear c1
          try clear c2
          try clear p2
          try clear c3
          try clear c4
          try clear c6
          try clear c7
          try clear c10
          try clear c10b0
          try clear c10b1
          try clear c11
          try clear c11b0
          try clear c11b1
          try clear c12
          try clear c16
          try clear c20
          try clear c20b0
          try clear c20b1
          try clear c20b2
          try clear c21
          try clear c21b0
          try clear c21b1
          try clear p2
          obtain ⟨kq, x69_16, rfl, HA, HJ16, HB⟩ := hcut
          cases kq with
          | zero => exact absurd HA.out (by simp [kimberlitelaw07_ProofJudges.j1])
          | succ kj16 =>
            have H := HA.out
            clear HA
            simp only [kimberlitelaw07_ProofJudges.j1] at H
            by_cases c26 : x69_16 = true
            · subst c26
              have H1 : (some false) = some r := by rw [if_pos rfl] at H; exact H
              clear H
              have H := H1
              clear H1
              obtain rfl := Option.some.inj H
              go_wp2
              go_ret
              exact ⟨by first | rfl | (simp [errW_none, errW_some] <;> rfl) | (simp [*, errW_none, errW_some] <;> rfl), by repeat (first | (with_reducible first | exact HB.out | apply below_alloc | apply pw_below_drewN | apply below_drew1) | exact HB.out)⟩
            · replace c26 := Bool.eq_false_iff.mpr c26
              subst c26
              have H1 : ((proof_Extended.f kj16 a5 a2 a6 a3 l7).bind fun bt383 => ((kimberliteref07_Extended.f kj16 a5 a2 a6 a3 l7).bind fun bt385 => (if (bt383.1 == bt385.1) = true then (if bt383.2 = bt385.2 then ((kimberlitelaw07_alive.f kj16).bind fun t387 => (some t387)) else (some false)) else (some false)))) = some r := by rw [if_neg (show ¬ (false = true) by decide)] at H; exact H
              clear H
              have H := H1
              clear H1
              replace H := Option.bind_eq_some_iff.mp H
              obtain ⟨⟨t383, t384⟩, A270, H⟩ := H
              replace H : ((kimberliteref07_Extended.f kj16 a5 a2 a6 a3 l7).bind fun bt385 => (if (t383 == bt385.1) = true then (if t384 = bt385.2 then ((kimberlitelaw07_alive.f kj16).bind fun t387 => (some t387)) else (some false)) else (some false))) = some r := H
              have A27 := Aside0.mk A270
              clear A270
              replace H := Option.bind_eq_some_iff.mp H
              obtain ⟨⟨t385, t386⟩, A280, H⟩ := H
              replace H : (if (t383 == t385) = true then (if t384 = t386 then ((kimberlitelaw07_alive.f kj16).bind fun t387 => (some t387)) else (some false)) else (some false)) = some r := H
              have A28 := Aside0.mk A280
              clear A280
              by_cases c29 : (t383 == t385) = true
              · rw [if_pos c29] at H
                have c29b0 : (t383 == t385) = true := c29
                (try (have c29b1 : decide (t383 = t385) = true := by simpa using c29))
                (try (have c29b2 : (t383 == t385) = true := by simpa using c29))
                clear c29
                by_cases c30 : t384 = t386
                · rw [if_pos c30] at H
                  have c30b0 : (t384 == t386) = true := beq_iff_eq.mpr c30
                  have c30b1 : (t384 != t386) = false := bne_eq_false_iff_eq.mpr c30
                  clear c30
                  replace H := Option.bind_eq_some_iff.mp H
                  obtain ⟨t387, A310, H⟩ := H
                  replace H : (some t387) = some r := H
                  have A31 := Aside0.mk A310
                  clear A310
                  obtain rfl := Option.some.inj H
                  go_wp2_with (first | ((with_reducible refine gate_callee (f := 34) rfl ?_); refine goesL_ (some 76) rfl rfl Try.func34 (by kernel_rfl) rfl #[.int .i64 a5, .int .i64 a2, .int .u64 a6, .int .u64 a3, .slice A7 l7.length c7] rfl (by (try simp only [List.map_toArray, List.map_cons, List.map_nil]); first | done | rfl | (simp only [List.length_drop, List.length_take]; rfl)) ?_; (with_reducible refine (proof_Extended.calls kj16 a5 a2 a6 a3 _ _ l7 t383 t384 _ ?side1 ?side2 A27.out).mono ?_); (case side1 => repeat (first | exact (Kd.C_below HR7.out HB.out) | (with_reducible refine Kd.C_alloc ?_ _) | (with_reducible refine Kd.C_drewN ?_ _) | (with_reducible refine Kd.C_drew ?_))); (case side2 => exact HC7.out); rintro e w32 ⟨rfl, hb⟩; refine ⟨_, rfl, ?_⟩; have n0_ := Aside0.mk (below_step (by repeat (first | (with_reducible first | exact HB.out | apply below_alloc | apply pw_below_drewN | apply below_drew1) | exact HB.out)) hb); clear HB; have HB := n0_; clear n0_; (try clear hb); (try clear hb2); (try clear hk); (try clear hi)) | ((with_reducible refine gate_callee (f := 35) rfl ?_); refine goesL_ (some 85) rfl rfl Try.func35 (by kernel_rfl) rfl #[.int .i64 a5, .int .i64 a2, .int .u64 a6, .int .u64 a3, .slice A7 l7.length c7] rfl (by (try simp only [List.map_toArray, List.map_cons, List.map_nil]); first | done | rfl | (simp only [List.length_drop, List.length_take]; rfl)) ?_; (with_reducible refine (kimberliteref07_Extended.calls kj16 a5 a2 a6 a3 _ _ l7 t385 t386 _ ?side1 ?side2 A28.out).mono ?_); (case side1 => repeat (first | exact (Kd.C_below HR7.out HB.out) | (with_reducible refine Kd.C_alloc ?_ _) | (with_reducible refine Kd.C_drewN ?_ _) | (with_reducible refine Kd.C_drew ?_))); (case side2 => exact HC7.out); rintro e w33 ⟨rfl, hb⟩; refine ⟨_, rfl, ?_⟩; have n0_ := Aside0.mk (below_step (by repeat (first | (with_reducible first | exact HB.out | apply below_alloc | apply pw_below_drewN | apply below_drew1) | exact HB.out)) hb); clear HB; have HB := n0_; clear n0_; (try clear hb); (try clear hb2); (try clear hk); (try clear hi)) | (go_at_call 16; (with_reducible refine (kimberlitelaw07_alive.calls kj16  t387 _ A31.out).mono ?_); rintro e w34 ⟨rfl, hb⟩; have n0_ := Aside0.mk (below_step (by repeat (first | (with_reducible first | exact HB.out | apply below_alloc | apply pw_below_drewN | apply below_drew1) | exact HB.out)) hb); clear HB; have HB := n0_; clear n0_; (try clear hb); (try clear hb2); (try clear hk); (try clear hi)))
                  go_ret
                  exact ⟨by first | rfl | (simp [errW_none, errW_some] <;> rfl) | (simp [*, errW_none, errW_some] <;> rfl), by repeat (first | (with_reducible first | exact HB.out | apply below_alloc | apply pw_below_drewN | apply below_drew1) | exact HB.out)⟩
                · rw [if_neg c30] at H
                  have c30b0 : (t384 == t386) = false := beq_eq_false_iff_ne.mpr c30
                  have c30b1 : (t384 != t386) = true := bne_iff_ne.mpr c30
                  obtain rfl := Option.some.inj H
                  go_wp2_with (first | ((with_reducible refine gate_callee (f := 34) rfl ?_); refine goesL_ (some 76) rfl rfl Try.func34 (by kernel_rfl) rfl #[.int .i64 a5, .int .i64 a2, .int .u64 a6, .int .u64 a3, .slice A7 l7.length c7] rfl (by (try simp only [List.map_toArray, List.map_cons, List.map_nil]); first | done | rfl | (simp only [List.length_drop, List.length_take]; rfl)) ?_; (with_reducible refine (proof_Extended.calls kj16 a5 a2 a6 a3 _ _ l7 t383 t384 _ ?side1 ?side2 A27.out).mono ?_); (case side1 => repeat (first | exact (Kd.C_below HR7.out HB.out) | (with_reducible refine Kd.C_alloc ?_ _) | (with_reducible refine Kd.C_drewN ?_ _) | (with_reducible refine Kd.C_drew ?_))); (case side2 => exact HC7.out); rintro e w35 ⟨rfl, hb⟩; refine ⟨_, rfl, ?_⟩; have n0_ := Aside0.mk (below_step (by repeat (first | (with_reducible first | exact HB.out | apply below_alloc | apply pw_below_drewN | apply below_drew1) | exact HB.out)) hb); clear HB; have HB := n0_; clear n0_; (try clear hb); (try clear hb2); (try clear hk); (try clear hi)) | ((with_reducible refine gate_callee (f := 35) rfl ?_); refine goesL_ (some 85) rfl rfl Try.func35 (by kernel_rfl) rfl #[.int .i64 a5, .int .i64 a2, .int .u64 a6, .int .u64 a3, .slice A7 l7.length c7] rfl (by (try simp only [List.map_toArray, List.map_cons, List.map_nil]); first | done | rfl | (simp only [List.length_drop, List.length_take]; rfl)) ?_; (with_reducible refine (kimberliteref07_Extended.calls kj16 a5 a2 a6 a3 _ _ l7 t385 t386 _ ?side1 ?side2 A28.out).mono ?_); (case side1 => repeat (first | exact (Kd.C_below HR7.out HB.out) | (with_reducible refine Kd.C_alloc ?_ _) | (with_reducible refine Kd.C_drewN ?_ _) | (with_reducible refine Kd.C_drew ?_))); (case side2 => exact HC7.out); rintro e w36 ⟨rfl, hb⟩; refine ⟨_, rfl, ?_⟩; have n0_ := Aside0.mk (below_step (by repeat (first | (with_reducible first | exact HB.out | apply below_alloc | apply pw_below_drewN | apply below_drew1) | exact HB.out)) hb); clear HB; have HB := n0_; clear n0_; (try clear hb); (try clear hb2); (try clear hk); (try clear hi)))
                  go_ret
                  exact ⟨by first | rfl | (simp [errW_none, errW_some] <;> rfl) | (simp [*, errW_none, errW_some] <;> rfl), by repeat (first | (with_reducible first | exact HB.out | apply below_alloc | apply pw_below_drewN | apply below_drew1) | exact HB.out)⟩
              · rw [if_neg c29] at H
                have c29b0 : (t383 == t385) = false := by simpa using c29
                (try (have c29b1 : decide (t383 = t385) = false := by simpa using c29))
                (try (have c29b2 : (t383 == t385) = false := by simpa using c29))
                (try (have c29b3 : ¬ (t383 = t385) := by simpa using c29))
                clear c29
                obtain rfl := Option.some.inj H
                go_wp2_with (first | ((with_reducible refine gate_callee (f := 34) rfl ?_); refine goesL_ (some 76) rfl rfl Try.func34 (by kernel_rfl) rfl #[.int .i64 a5, .int .i64 a2, .int .u64 a6, .int .u64 a3, .slice A7 l7.length c7] rfl (by (try simp only [List.map_toArray, List.map_cons, List.map_nil]); first | done | rfl | (simp only [List.length_drop, List.length_take]; rfl)) ?_; (with_reducible refine (proof_Extended.calls kj16 a5 a2 a6 a3 _ _ l7 t383 t384 _ ?side1 ?side2 A27.out).mono ?_); (case side1 => repeat (first | exact (Kd.C_below HR7.out HB.out) | (with_reducible refine Kd.C_alloc ?_ _) | (with_reducible refine Kd.C_drewN ?_ _) | (with_reducible refine Kd.C_drew ?_))); (case side2 => exact HC7.out); rintro e w37 ⟨rfl, hb⟩; refine ⟨_, rfl, ?_⟩; have n0_ := Aside0.mk (below_step (by repeat (first | (with_reducible first | exact HB.out | apply below_alloc | apply pw_below_drewN | apply below_drew1) | exact HB.out)) hb); clear HB; have HB := n0_; clear n0_; (try clear hb); (try clear hb2); (try clear hk); (try clear hi)) | ((with_reducible refine gate_callee (f := 35) rfl ?_); refine goesL_ (some 85) rfl rfl Try.func35 (by kernel_rfl) rfl #[.int .i64 a5, .int .i64 a2, .int .u64 a6, .int .u64 a3, .slice A7 l7.length c7] rfl (by (try simp only [List.map_toArray, List.map_cons, List.map_nil]); first | done | rfl | (simp only [List.length_drop, List.length_take]; rfl)) ?_; (with_reducible refine (kimberliteref07_Extended.calls kj16 a5 a2 a6 a3 _ _ l7 t385 t386 _ ?side1 ?side2 A28.out).mono ?_); (case side1 => repeat (first | exact (Kd.C_below HR7.out HB.out) | (with_reducible refine Kd.C_alloc ?_ _) | (with_reducible refine Kd.C_drewN ?_ _) | (with_reducible refine Kd.C_drew ?_))); (case side2 => exact HC7.out); rintro e w38 ⟨rfl, hb⟩; refine ⟨_, rfl, ?_⟩; have n0_ := Aside0.mk (below_step (by repeat (first | (with_reducible first | exact HB.out | apply below_alloc | apply pw_below_drewN | apply below_drew1) | exact HB.out)) hb); clear HB; have HB := n0_; clear n0_; (try clear hb); (try clear hb2); (try clear hk); (try clear hi)))
                go_ret
                exact ⟨by first | rfl | (simp [errW_none, errW_some] <;> rfl) | (simp [*, errW_none, errW_some] <;> rfl), by repeat (first | (with_reducible first | exact HB.out | apply below_alloc | apply pw_below_drewN | apply below_drew1) | exact HB.out)⟩

end Go.Proofs.Ytacjdoekgmmfoaa.PL
