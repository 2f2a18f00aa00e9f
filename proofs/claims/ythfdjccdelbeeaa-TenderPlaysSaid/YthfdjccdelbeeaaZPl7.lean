/-
  The texts that the theorem in YthfdjccdelbeeaaZRowPl rests on, merged (part 8); only what it reaches.
-/
import Derived.Test.YthfdjccdelbeeaaZPl2
import Derived.Test.YthfdjccdelbeeaaZPl4
import Derived.Test.YthfdjccdelbeeaaZPl5
import Derived.Test.YthfdjccdelbeeaaZPl6
section
namespace Go.Proofs.Ythfdjccdelbeeaa.PT
open Go.RowKit Go.Proofs.YthfdjccdelbeeaaW.PrintWords Go.Proofs.YthfdjccdelbeeaaW.PrintLast Go.Proofs.YthfdjccdelbeeaaW.PrintMore
attribute [local go_sem] max2_int min2_int max_two min_two max_three min_three max_four min_four   -- for this text's walks alone
set_option linter.unusedVariables false
set_option linter.unusedSimpArgs false
mutual
def kimberliteref05_Best.l0 : Nat → List (S50) → Int → List Int → Int → Int → Option (List Int × Int)
 | 0, _, _, _, _, _ => none
 | k + 1, x0, x1, x6, x7, x8 => if x8 ≥ 0 then (kimberliteref05_Best.l1 k x0 x1 x6 x7 x8 ([] : List Int) true 0 0 0) else (some (x6, x7))
def kimberliteref05_Best.l1 : Nat → List (S50) → Int → List Int → Int → Int → List Int → Bool → Int → Int → Int → Option (List Int × Int)
 | 0, _, _, _, _, _, _, _, _, _, _ => none
 | k + 1, x0, x1, x6, x7, x8, x9, x10, x11, x12, x13 => if x13 < (x0.length : Int) then (kimberliteref05_Best.j2 k x0 x1 x6 x7 x8 x9 x10 x11 x12 x13 x10) else (kimberliteref05_Best.j2 k x0 x1 x6 x7 x8 x9 x10 x11 x12 x13 false)
def kimberliteref05_Best.j2 : Nat → List (S50) → Int → List Int → Int → Int → List Int → Bool → Int → Int → Int → Bool → Option (List Int × Int)
 | 0, _, _, _, _, _, _, _, _, _, _, _ => none
 | k + 1, x0, x1, x6, x7, x8, x9, x10, x11, x12, x13, x30 => if x30 = true then (if 0 ≤ (wrap64 ((wrap64 ((x0.length : Int) - 1)) - x13)) then (if (Int.tmod (shr .i64 x8 (wrap64 ((wrap64 ((x0.length : Int) - 1)) - x13))) 2) = 0 then (kimberliteref05_Best.l1 k x0 x1 x6 x7 x8 x9 x10 x11 x12 (wrap64 (x13 + 1))) else (if 0 ≤ x13 then (if x13 < (x0.length : Int) then (if ((rd_T50 x0 x13).f0) = x1 then (if 0 ≤ ((rd_T50 x0 x13).f0) then (if x9.length < 17592186044416 then (kimberliteref05_Best.l1 k x0 x1 x6 x7 x8 (x9 ++ [x13]) false (Go.bits .or .i64 x11 ((rd_T50 x0 x13).f1)) (Go.bits .or .i64 x12 (shl .i64 1 ((rd_T50 x0 x13).f0))) (wrap64 (x13 + 1))) else (none)) else (none)) else (if (Go.bits .and .i64 x11 ((rd_T50 x0 x13).f1)) = 0 then (if 0 ≤ ((rd_T50 x0 x13).f0) then (if x9.length < 17592186044416 then (kimberliteref05_Best.l1 k x0 x1 x6 x7 x8 (x9 ++ [x13]) ((Int.tmod (shr .i64 x12 ((rd_T50 x0 x13).f0)) 2) == 0) (Go.bits .or .i64 x11 ((rd_T50 x0 x13).f1)) (Go.bits .or .i64 x12 (shl .i64 1 ((rd_T50 x0 x13).f0))) (wrap64 (x13 + 1))) else (none)) else (none)) else (if 0 ≤ ((rd_T50 x0 x13).f0) then (if x9.length < 17592186044416 then (kimberliteref05_Best.l1 k x0 x1 x6 x7 x8 (x9 ++ [x13]) false (Go.bits .or .i64 x11 ((rd_T50 x0 x13).f1)) (Go.bits .or .i64 x12 (shl .i64 1 ((rd_T50 x0 x13).f0))) (wrap64 (x13 + 1))) else (none)) else (none)))) else (none)) else (none))) else (none)) else (if x10 = true then ((kimberliteref05_Choice.f k x0 x9).bind fun bt186 => (if bt186.1 > x7 then (kimberliteref05_Best.l0 k x0 x1 x9 bt186.1 (wrap64 (x8 - 1))) else (kimberliteref05_Best.l0 k x0 x1 x6 x7 (wrap64 (x8 - 1))))) else (kimberliteref05_Best.l0 k x0 x1 x6 x7 (wrap64 (x8 - 1))))
end
def kimberliteref05_Best.f (k : Nat) (l0 : List (S50)) (a1 : Int) : Option (List Int × Int) := kimberliteref05_Best.l0 k l0 a1 ([] : List Int) (-1) (wrap64 ((shl .i64 1 (l0.length : Int)) - 1))
theorem kimberliteref05_Best.mono_l : ∀ k, (∀ y0 y1 y2 y3 y4, LeO (kimberliteref05_Best.l0 k y0 y1 y2 y3 y4) (kimberliteref05_Best.l0 (k + 1) y0 y1 y2 y3 y4)) ∧ (∀ y0 y1 y2 y3 y4 y5 y6 y7 y8 y9, LeO (kimberliteref05_Best.l1 k y0 y1 y2 y3 y4 y5 y6 y7 y8 y9) (kimberliteref05_Best.l1 (k + 1) y0 y1 y2 y3 y4 y5 y6 y7 y8 y9)) ∧ (∀ y0 y1 y2 y3 y4 y5 y6 y7 y8 y9 y10, LeO (kimberliteref05_Best.j2 k y0 y1 y2 y3 y4 y5 y6 y7 y8 y9 y10) (kimberliteref05_Best.j2 (k + 1) y0 y1 y2 y3 y4 y5 y6 y7 y8 y9 y10))
 | 0 => ⟨fun _ _ _ _ _ r h => by simp [kimberliteref05_Best.l0] at h, fun _ _ _ _ _ _ _ _ _ _ r h => by simp [kimberliteref05_Best.l1] at h, fun _ _ _ _ _ _ _ _ _ _ _ r h => by simp [kimberliteref05_Best.j2] at h⟩
 | k + 1 => by
  obtain ⟨ih0, ih1, ih2⟩ := kimberliteref05_Best.mono_l k
  refine ⟨?_, ?_, ?_⟩
  ·
   intro y0 y1 y2 y3 y4
   unfold kimberliteref05_Best.l0
   repeat' first
   | (with_reducible exact ih0 _ _ _ _ _)
   | (with_reducible exact ih1 _ _ _ _ _ _ _ _ _ _)
   | (with_reducible exact ih2 _ _ _ _ _ _ _ _ _ _ _)
   | (with_reducible exact kimberliteref05_Choice.mono _ _ _)
   | (with_reducible exact LeO.refl _)
   | (with_reducible exact LeO.none _)
   | (with_reducible refine LeO.ite ?_ ?_)
   | (with_reducible refine LeO.bind ?_ (fun _ => ?_))
   | exact ih0 _ _ _ _ _
   | exact ih1 _ _ _ _ _ _ _ _ _ _
   | exact ih2 _ _ _ _ _ _ _ _ _ _ _
   | exact kimberliteref05_Choice.mono _ _ _
   | exact LeO.none _
   | refine LeO.ite ?_ ?_
   | refine LeO.bind ?_ (fun _ => ?_)
  ·
   intro y0 y1 y2 y3 y4 y5 y6 y7 y8 y9
   unfold kimberliteref05_Best.l1
   repeat' first
   | (with_reducible exact ih0 _ _ _ _ _)
   | (with_reducible exact ih1 _ _ _ _ _ _ _ _ _ _)
   | (with_reducible exact ih2 _ _ _ _ _ _ _ _ _ _ _)
   | (with_reducible exact kimberliteref05_Choice.mono _ _ _)
   | (with_reducible exact LeO.refl _)
   | (with_reducible exact LeO.none _)
   | (with_reducible refine LeO.ite ?_ ?_)
   | (with_reducible refine LeO.bind ?_ (fun _ => ?_))
   | exact ih0 _ _ _ _ _
   | exact ih1 _ _ _ _ _ _ _ _ _ _
   | exact ih2 _ _ _ _ _ _ _ _ _ _ _
   | exact kimberliteref05_Choice.mono _ _ _
   | exact LeO.none _
   | refine LeO.ite ?_ ?_
   | refine LeO.bind ?_ (fun _ => ?_)
  ·
   intro y0 y1 y2 y3 y4 y5 y6 y7 y8 y9 y10
   unfold kimberliteref05_Best.j2
   repeat' first
   | (with_reducible exact ih0 _ _ _ _ _)
   | (with_reducible exact ih1 _ _ _ _ _ _ _ _ _ _)
   | (with_reducible exact ih2 _ _ _ _ _ _ _ _ _ _ _)
   | (with_reducible exact kimberliteref05_Choice.mono _ _ _)
   | (with_reducible exact LeO.refl _)
   | (with_reducible exact LeO.none _)
   | (with_reducible refine LeO.ite ?_ ?_)
   | (with_reducible refine LeO.bind ?_ (fun _ => ?_))
   | exact ih0 _ _ _ _ _
   | exact ih1 _ _ _ _ _ _ _ _ _ _
   | exact ih2 _ _ _ _ _ _ _ _ _ _ _
   | exact kimberliteref05_Choice.mono _ _ _
   | exact LeO.none _
   | refine LeO.ite ?_ ?_
   | refine LeO.bind ?_ (fun _ => ?_)
theorem kimberliteref05_Best.mono : ∀ a0 a1 k, LeO (kimberliteref05_Best.f k a0 a1) (kimberliteref05_Best.f (k + 1) a0 a1) := by
 intro a0 a1 k
 obtain ⟨ih0, ih1, ih2⟩ := kimberliteref05_Best.mono_l k
 unfold kimberliteref05_Best.f
 repeat' first
   | (with_reducible exact ih0 _ _ _ _ _)
   | (with_reducible exact ih1 _ _ _ _ _ _ _ _ _ _)
   | (with_reducible exact ih2 _ _ _ _ _ _ _ _ _ _ _)
   | (with_reducible exact kimberliteref05_Choice.mono _ _ _)
   | (with_reducible exact LeO.refl _)
   | (with_reducible exact LeO.none _)
   | (with_reducible refine LeO.ite ?_ ?_)
   | (with_reducible refine LeO.bind ?_ (fun _ => ?_))
   | exact ih0 _ _ _ _ _
   | exact ih1 _ _ _ _ _ _ _ _ _ _
   | exact ih2 _ _ _ _ _ _ _ _ _ _ _
   | exact kimberliteref05_Choice.mono _ _ _
   | exact LeO.none _
   | refine LeO.ite ?_ ?_
   | refine LeO.bind ?_ (fun _ => ?_)
set_option maxHeartbeats 8000000 in
set_option maxRecDepth 100000 in
theorem kimberliteref05_Best.calls (k : Nat) (A0 : Option Addr) (c0 : Nat) (l0 : List (S50)) (a1 : Int) (r1 : List Int) (r2 : Int) (w : World) (hr0 : Kd.C k50 w A0 l0.length l0) (hc0 : l0.length ≤ c0) (h : kimberliteref05_Best.f k l0 a1 = some (r1, r2)) :
  Calls Try.prog 21 #[.slice A0 l0.length c0, .int .i64 a1] w fun e w' => ∃ v0_ : Value, e = .returned (.tuple #[v0_, .int .i64 r2]) ∧ Kd.R (Kd.int .i64) 3 w' w.heap.size (fun _ => True) v0_ r1 ∧ Below w.heap.size w w' := by
 have HR0 := Aside0.mk hr0
 have HC0 := Aside0.mk hc0
 clear hr0 hc0
 have HB := Aside0.mk (Below.refl w.heap.size w)
 have H : (kimberliteref05_Best.l0 k l0 a1 ([] : List Int) (-1) (wrap64 ((shl .i64 1 (l0.length : Int)) - 1))) = some (r1, r2) := h
 clear h
 obtain ⟨ji3, hji3⟩ : ∃ j_ : Int, (shl .i64 1 (l0.length : Int)) = j_ := ⟨_, rfl⟩
 replace H : (kimberliteref05_Best.l0 k l0 a1 ([] : List Int) (-1) (wrap64 ((ji3) - 1))) = some (r1, r2) := by first | (rw [hji3] at H; exact H) | (simp only [hji3] at H ⊢; exact H)
 have hji3_ : (IntKind.i64.wrap (1 * 2 ^ min (l0.length : Int).toNat 64)) = ji3 := hji3
 have hji3z : (l0.length : Int) ≤ 64 → (IntKind.i64.wrap (1 * 2 ^ (l0.length : Int).toNat)) = ji3 := shl_small hji3
 have hji3p : (IntKind.i64.wrap (1 * 2 ^ min l0.length 64)) = ji3 := hji3_
 have hji3q : (l0.length : Int) ≤ 64 → (IntKind.i64.wrap (1 * 2 ^ l0.length)) = ji3 := hji3z
 have hji3r : (IntKind.i64.wrap (2 ^ min l0.length 64)) = ji3 := by have h_ := hji3p; rw [Int.one_mul] at h_; exact h_
 have hji3s : (l0.length : Int) ≤ 64 → (IntKind.i64.wrap (2 ^ l0.length)) = ji3 := fun hle_ => by have h_ := hji3q hle_; rw [Int.one_mul] at h_; exact h_
 have hji3u : (IntKind.i64.wrap (2 ^ min (l0.length : Int).toNat 64)) = ji3 := by have h_ := hji3_; rw [Int.one_mul] at h_; exact h_
 have hji3v : (l0.length : Int) ≤ 64 → (IntKind.i64.wrap (2 ^ (l0.length : Int).toNat)) = ji3 := fun hle_ => by have h_ := hji3z hle_; rw [Int.one_mul] at h_; exact h_
 have hji3y : (wrap64 (1 * 2 ^ min (l0.length : Int).toNat 64)) = ji3 := (i64_w _).symm.trans hji3_
 have hji3x : (l0.length : Int) ≤ 64 → (wrap64 (1 * 2 ^ (l0.length : Int).toNat)) = ji3 := fun h_ => (i64_w _).symm.trans (hji3z h_)
 have H' := Aside0.mk H
 clear H
 go_enter Try.func21, Try.ntmps21
 go_wp2
 go_loopg [6, 7, 8] k (fun kq v6 v7 v8 w' => ∃ (x6_1 : List Int) (x7_1 : Int) (x8_1 : Int), v7 = .int .i64 x7_1 ∧ v8 = .int .i64 x8_1 ∧ Aside0 (kimberliteref05_Best.l0 kq l0 a1 x6_1 x7_1 x8_1 = some (r1, r2)) ∧ Aside0 (kq ≤ k) ∧ Aside0 (Kd.R (Kd.int .i64) 3 w' w.heap.size (fun _ => True) v6 x6_1) ∧ Aside0 (Below w.heap.size w w'))
 case atStart => exact ⟨(([] : List Int)), ((-1)), (wrap64 ((ji3) - 1)), (by first | rfl | (simp; done) | (simp [*]; done)), (by first | rfl | (simp; done) | (simp only [← hji3] <;> (first | rfl | simp)) | (simp [*]; done)), H', ⟨Nat.le_refl _⟩, ⟨by first | exact Kd.R_nil _ _ _ _ _ | exact Kd.N_nil _ _ _ _ _ | exact Kd.V_nil _ _ _ _ _ | exact Kd.Q_nil _ _ _ _ _ | exact Kd.S_nil _ _ _ _ _⟩, ⟨by repeat (first | (with_reducible first | exact HB.out | apply Zba | apply Zbn | apply Zbd) | exact HB.out)⟩⟩
 case round =>
  clear H'
  try clear c2
  try clear p2
  obtain ⟨x6_1, x7_1, x8_1, rfl, rfl, HA, HK1, HO_6, HB⟩ := hrel
  cases gk with
  | zero => exact absurd HA.out (by simp [kimberliteref05_Best.l0])
  | succ k1 =>
   have H := HA.out
   clear HA
   simp only [kimberliteref05_Best.l0] at H
   by_cases c4 : x8_1 ≥ 0
   ·
    rw [if_pos c4] at H
    have c4b0 : decide (0 ≤ x8_1) = true := decide_eq_true c4
    clear c4
    have H' := Aside0.mk H
    clear H
    go_wp2
    go_loopg [9, 10, 11, 12, 13] k1 (fun kq v9 v10 v11 v12 v13 w' => ∃ (x9_2 : List Int) (x10_2 : Bool) (x11_2 : Int) (x12_2 : Int) (x13_2 : Int), v10 = .bool x10_2 ∧ v11 = .int .i64 x11_2 ∧ v12 = .int .i64 x12_2 ∧ v13 = .int .i64 x13_2 ∧ Aside0 (kimberliteref05_Best.l1 kq l0 a1 x6_1 x7_1 x8_1 x9_2 x10_2 x11_2 x12_2 x13_2 = some (r1, r2)) ∧ Aside0 (kq ≤ k1) ∧ Aside0 (Kd.R (Kd.int .i64) 3 w' w.heap.size (fun k_ => some k_ ≠ (v9 : Value).ownBlock) u6 x6_1) ∧ Aside0 (Kd.R (Kd.int .i64) 3 w' w.heap.size (fun k_ => some k_ ≠ (u6 : Value).ownBlock) v9 x9_2) ∧ Aside0 (Below w.heap.size w w'))
    case atStart => exact ⟨(([] : List Int)), (true), (0), (0), (0), (by first | rfl | (simp; done) | (simp [*]; done)), (by first | rfl | (simp; done) | (simp [*]; done)), (by first | rfl | (simp; done) | (simp [*]; done)), (by first | rfl | (simp; done) | (simp [*]; done)), H', ⟨Nat.le_refl _⟩, ⟨by (with_reducible repeat (first | apply Zra | apply Zrn | apply Zrd)); exact Kd.R_mono HO_6.out (fun _ hk => (by simp [Value.ownBlock]))⟩, ⟨by first | exact Kd.R_nil _ _ _ _ _ | exact Kd.N_nil _ _ _ _ _ | exact Kd.V_nil _ _ _ _ _ | exact Kd.Q_nil _ _ _ _ _ | exact Kd.S_nil _ _ _ _ _⟩, ⟨by repeat (first | (with_reducible first | exact HB.out | apply Zba | apply Zbn | apply Zbd) | exact HB.out)⟩⟩
    case round =>
     clear H'
     try clear c2
     try clear p2
     try clear c4
     try clear c4b0
     try clear p2
     obtain ⟨x9_2, x10_2, x11_2, x12_2, x13_2, rfl, rfl, rfl, rfl, HA, HK2, HO_6, HO_9, HB⟩ := hrel
     cases gk with
     | zero => exact absurd HA.out (by simp [kimberliteref05_Best.l1])
     | succ k2 =>
      have H := HA.out
      clear HA
      simp only [kimberliteref05_Best.l1] at H
      have HC5 := Aside0.mk H
      clear H
      go_upto_region 10 with (fail)
      go_cut [30] (fun v30 wc => ∃ (kq : Nat) (x30_4 : Bool), v30 = .bool x30_4 ∧ Aside0 (kimberliteref05_Best.j2 kq l0 a1 x6_1 x7_1 x8_1 x9_2 x10_2 x11_2 x12_2 x13_2 x30_4 = some (r1, r2)) ∧ Aside0 (kq ≤ k2) ∧ Aside0 (Kd.R (Kd.int .i64) 3 wc w.heap.size (fun k_ => some k_ ≠ (u9 : Value).ownBlock) u6 x6_1) ∧ Aside0 (Kd.R (Kd.int .i64) 3 wc w.heap.size (fun k_ => some k_ ≠ (u6 : Value).ownBlock) u9 x9_2) ∧ Aside0 (Below w.heap.size w wc))
      case first =>
       have H := HC5.out
       clear HC5
       by_cases c6 : x13_2 < (l0.length : Int)
       ·
        rw [if_pos c6] at H
        have c6b0 : decide (x13_2 < (l0.length : Int)) = true := decide_eq_true c6
        clear c6
        (first | rw [c6b0] | (simp only [i64_w, i32_w]; rw [c6b0]) | skip)
        have H' := Aside0.mk H
        clear H
        go_wp2
        go_meet
        case rel => exact ⟨_, (x10_2), (by first | rfl | (simp; done) | (simp [*]; done)), H', ⟨by have := HK1.out; have := HK2.out; first | omega | exact Nat.le_refl _⟩, ⟨by (with_reducible repeat (first | apply Zra | apply Zrn | apply Zrd)); exact HO_6.out⟩, ⟨by (with_reducible repeat (first | apply Zra | apply Zrn | apply Zrd)); exact HO_9.out⟩, ⟨by repeat (first | (with_reducible first | exact HB.out | apply Zba | apply Zbn | apply Zbd) | exact HB.out)⟩⟩
       ·
        rw [if_neg c6] at H
        have c6b0 : decide (x13_2 < (l0.length : Int)) = false := decide_eq_false c6
        clear c6
        (first | rw [c6b0] | (simp only [i64_w, i32_w]; rw [c6b0]) | skip)
        have H' := Aside0.mk H
        clear H
        go_wp2
        go_meet
        case rel => exact ⟨_, (false), (by first | rfl | (simp; done) | (simp [*]; done)), H', ⟨by have := HK1.out; have := HK2.out; first | omega | exact Nat.le_refl _⟩, ⟨by (with_reducible repeat (first | apply Zra | apply Zrn | apply Zrd)); exact HO_6.out⟩, ⟨by (with_reducible repeat (first | apply Zra | apply Zrn | apply Zrd)); exact HO_9.out⟩, ⟨by repeat (first | (with_reducible first | exact HB.out | apply Zba | apply Zbn | apply Zbd) | exact HB.out)⟩⟩
      case rest =>
       clear HC5
       try clear c2
       try clear p2
       try clear c4
       try clear c4b0
       try clear c6
       try clear c6b0
       try clear p6
       try clear p2
       obtain ⟨kq, x30_4, rfl, HA, HJ4, HO_6, HO_9, HB⟩ := hcut
       cases kq with
       | zero => exact absurd HA.out (by simp [kimberliteref05_Best.j2])
       | succ kj4 =>
        have H := HA.out
        clear HA
        simp only [kimberliteref05_Best.j2] at H
        by_cases c7 : x30_4 = true
        ·
         subst c7
         have H1 : (if 0 ≤ (wrap64 ((wrap64 ((l0.length : Int) - 1)) - x13_2)) then (if (Int.tmod (shr .i64 x8_1 (wrap64 ((wrap64 ((l0.length : Int) - 1)) - x13_2))) 2) = 0 then (kimberliteref05_Best.l1 kj4 l0 a1 x6_1 x7_1 x8_1 x9_2 x10_2 x11_2 x12_2 (wrap64 (x13_2 + 1))) else (if 0 ≤ x13_2 then (if x13_2 < (l0.length : Int) then (if ((rd_T50 l0 x13_2).f0) = a1 then (if 0 ≤ ((rd_T50 l0 x13_2).f0) then (if x9_2.length < 17592186044416 then (kimberliteref05_Best.l1 kj4 l0 a1 x6_1 x7_1 x8_1 (x9_2 ++ [x13_2]) false (Go.bits .or .i64 x11_2 ((rd_T50 l0 x13_2).f1)) (Go.bits .or .i64 x12_2 (shl .i64 1 ((rd_T50 l0 x13_2).f0))) (wrap64 (x13_2 + 1))) else (none)) else (none)) else (if (Go.bits .and .i64 x11_2 ((rd_T50 l0 x13_2).f1)) = 0 then (if 0 ≤ ((rd_T50 l0 x13_2).f0) then (if x9_2.length < 17592186044416 then (kimberliteref05_Best.l1 kj4 l0 a1 x6_1 x7_1 x8_1 (x9_2 ++ [x13_2]) ((Int.tmod (shr .i64 x12_2 ((rd_T50 l0 x13_2).f0)) 2) == 0) (Go.bits .or .i64 x11_2 ((rd_T50 l0 x13_2).f1)) (Go.bits .or .i64 x12_2 (shl .i64 1 ((rd_T50 l0 x13_2).f0))) (wrap64 (x13_2 + 1))) else (none)) else (none)) else (if 0 ≤ ((rd_T50 l0 x13_2).f0) then (if x9_2.length < 17592186044416 then (kimberliteref05_Best.l1 kj4 l0 a1 x6_1 x7_1 x8_1 (x9_2 ++ [x13_2]) false (Go.bits .or .i64 x11_2 ((rd_T50 l0 x13_2).f1)) (Go.bits .or .i64 x12_2 (shl .i64 1 ((rd_T50 l0 x13_2).f0))) (wrap64 (x13_2 + 1))) else (none)) else (none)))) else (none)) else (none))) else (none)) = some (r1, r2) := by rw [if_pos rfl] at H; exact H
         clear H
         have H := H1
         clear H1
         obtain ⟨ji8, hji8⟩ : ∃ j_ : Int, (wrap64 ((wrap64 ((l0.length : Int) - 1)) - x13_2)) = j_ := ⟨_, rfl⟩
         replace H : (if 0 ≤ (ji8) then (if (Int.tmod (shr .i64 x8_1 (ji8)) 2) = 0 then (kimberliteref05_Best.l1 kj4 l0 a1 x6_1 x7_1 x8_1 x9_2 x10_2 x11_2 x12_2 (wrap64 (x13_2 + 1))) else (if 0 ≤ x13_2 then (if x13_2 < (l0.length : Int) then (if ((rd_T50 l0 x13_2).f0) = a1 then (if 0 ≤ ((rd_T50 l0 x13_2).f0) then (if x9_2.length < 17592186044416 then (kimberliteref05_Best.l1 kj4 l0 a1 x6_1 x7_1 x8_1 (x9_2 ++ [x13_2]) false (Go.bits .or .i64 x11_2 ((rd_T50 l0 x13_2).f1)) (Go.bits .or .i64 x12_2 (shl .i64 1 ((rd_T50 l0 x13_2).f0))) (wrap64 (x13_2 + 1))) else (none)) else (none)) else (if (Go.bits .and .i64 x11_2 ((rd_T50 l0 x13_2).f1)) = 0 then (if 0 ≤ ((rd_T50 l0 x13_2).f0) then (if x9_2.length < 17592186044416 then (kimberliteref05_Best.l1 kj4 l0 a1 x6_1 x7_1 x8_1 (x9_2 ++ [x13_2]) ((Int.tmod (shr .i64 x12_2 ((rd_T50 l0 x13_2).f0)) 2) == 0) (Go.bits .or .i64 x11_2 ((rd_T50 l0 x13_2).f1)) (Go.bits .or .i64 x12_2 (shl .i64 1 ((rd_T50 l0 x13_2).f0))) (wrap64 (x13_2 + 1))) else (none)) else (none)) else (if 0 ≤ ((rd_T50 l0 x13_2).f0) then (if x9_2.length < 17592186044416 then (kimberliteref05_Best.l1 kj4 l0 a1 x6_1 x7_1 x8_1 (x9_2 ++ [x13_2]) false (Go.bits .or .i64 x11_2 ((rd_T50 l0 x13_2).f1)) (Go.bits .or .i64 x12_2 (shl .i64 1 ((rd_T50 l0 x13_2).f0))) (wrap64 (x13_2 + 1))) else (none)) else (none)))) else (none)) else (none))) else (none)) = some (r1, r2) := by first | (rw [hji8] at H; exact H) | (simp only [hji8] at H ⊢; exact H)
         have hji8w : (IntKind.i64.wrap ((wrap64 ((l0.length : Int) - 1)) - x13_2)) = ji8 := (i64_w _).trans hji8
         by_cases c9 : 0 ≤ (ji8)
         ·
          rw [if_pos c9] at H
          have c9b0 := eq_true c9
          have c9b1 : decide (0 ≤ (ji8)) = true := decide_eq_true c9
          clear c9
          obtain ⟨ji10, hji10⟩ : ∃ j_ : Int, (shr .i64 x8_1 (ji8)) = j_ := ⟨_, rfl⟩
          replace H : (if (Int.tmod (ji10) 2) = 0 then (kimberliteref05_Best.l1 kj4 l0 a1 x6_1 x7_1 x8_1 x9_2 x10_2 x11_2 x12_2 (wrap64 (x13_2 + 1))) else (if 0 ≤ x13_2 then (if x13_2 < (l0.length : Int) then (if ((rd_T50 l0 x13_2).f0) = a1 then (if 0 ≤ ((rd_T50 l0 x13_2).f0) then (if x9_2.length < 17592186044416 then (kimberliteref05_Best.l1 kj4 l0 a1 x6_1 x7_1 x8_1 (x9_2 ++ [x13_2]) false (Go.bits .or .i64 x11_2 ((rd_T50 l0 x13_2).f1)) (Go.bits .or .i64 x12_2 (shl .i64 1 ((rd_T50 l0 x13_2).f0))) (wrap64 (x13_2 + 1))) else (none)) else (none)) else (if (Go.bits .and .i64 x11_2 ((rd_T50 l0 x13_2).f1)) = 0 then (if 0 ≤ ((rd_T50 l0 x13_2).f0) then (if x9_2.length < 17592186044416 then (kimberliteref05_Best.l1 kj4 l0 a1 x6_1 x7_1 x8_1 (x9_2 ++ [x13_2]) ((Int.tmod (shr .i64 x12_2 ((rd_T50 l0 x13_2).f0)) 2) == 0) (Go.bits .or .i64 x11_2 ((rd_T50 l0 x13_2).f1)) (Go.bits .or .i64 x12_2 (shl .i64 1 ((rd_T50 l0 x13_2).f0))) (wrap64 (x13_2 + 1))) else (none)) else (none)) else (if 0 ≤ ((rd_T50 l0 x13_2).f0) then (if x9_2.length < 17592186044416 then (kimberliteref05_Best.l1 kj4 l0 a1 x6_1 x7_1 x8_1 (x9_2 ++ [x13_2]) false (Go.bits .or .i64 x11_2 ((rd_T50 l0 x13_2).f1)) (Go.bits .or .i64 x12_2 (shl .i64 1 ((rd_T50 l0 x13_2).f0))) (wrap64 (x13_2 + 1))) else (none)) else (none)))) else (none)) else (none))) = some (r1, r2) := by first | (rw [hji10] at H; exact H) | (simp only [hji10] at H ⊢; exact H)
          have hji10_ : (x8_1 / 2 ^ min (ji8).toNat 64) = ji10 := hji10
          have hji10z : (ji8) ≤ 64 → (x8_1 / 2 ^ (ji8).toNat) = ji10 := shr_small hji10
          by_cases c11 : (Int.tmod (ji10) 2) = 0
          ·
           rw [if_pos c11] at H
           have c11b0 : ((Int.tmod (ji10) 2) == 0) = true := beq_iff_eq.mpr c11
           have c11b1 : ((Int.tmod (ji10) 2) != 0) = false := bne_eq_false_iff_eq.mpr c11
           clear c11
           have H' := Aside0.mk H
           clear H
           go_wp2
           go_roundg kj4
           case measure => have := HK1.out; have := HK2.out; have := HJ4.out; omega
           case rel => exact ⟨(x9_2), (x10_2), (x11_2), (x12_2), (wrap64 (x13_2 + 1)), (by first | rfl | (simp; done) | (simp [*]; done)), (by first | rfl | (simp; done) | (simp [*]; done)), (by first | rfl | (simp; done) | (simp [*]; done)), (by first | rfl | (simp; done) | (simp [*]; done)), H', ⟨by have := HK1.out; have := HK2.out; have := HJ4.out; omega⟩, ⟨by (with_reducible repeat (first | apply Zra | apply Zrn | apply Zrd)); exact HO_6.out⟩, ⟨by (with_reducible repeat (first | apply Zra | apply Zrn | apply Zrd)); exact HO_9.out⟩, ⟨by repeat (first | (with_reducible first | exact HB.out | apply Zba | apply Zbn | apply Zbd) | exact HB.out)⟩⟩
          ·
           rw [if_neg c11] at H
           have c11b0 : ((Int.tmod (ji10) 2) == 0) = false := beq_eq_false_iff_ne.mpr c11
           have c11b1 : ((Int.tmod (ji10) 2) != 0) = true := bne_iff_ne.mpr c11
           by_cases c12 : 0 ≤ x13_2
           ·
            rw [if_pos c12] at H
            have c12b0 : decide (0 ≤ x13_2) = true := decide_eq_true c12
            clear c12
            by_cases c13 : x13_2 < (l0.length : Int)
            ·
             rw [if_pos c13] at H
             have c13b0 : decide (x13_2 < (l0.length : Int)) = true := decide_eq_true c13
             clear c13
             by_cases c14 : ((rd_T50 l0 x13_2).f0) = a1
             ·
              rw [if_pos c14] at H
              have c14b0 : (((rd_T50 l0 x13_2).f0) == a1) = true := beq_iff_eq.mpr c14
              have c14b1 : (((rd_T50 l0 x13_2).f0) != a1) = false := bne_eq_false_iff_eq.mpr c14
              clear c14
              by_cases c15 : 0 ≤ ((rd_T50 l0 x13_2).f0)
              ·
               rw [if_pos c15] at H
               have c15b0 := eq_true c15
               have c15b1 : decide (0 ≤ ((rd_T50 l0 x13_2).f0)) = true := decide_eq_true c15
               clear c15
               obtain ⟨ji16, hji16⟩ : ∃ j_ : Int, (shl .i64 1 ((rd_T50 l0 x13_2).f0)) = j_ := ⟨_, rfl⟩
               replace H : (if x9_2.length < 17592186044416 then (kimberliteref05_Best.l1 kj4 l0 a1 x6_1 x7_1 x8_1 (x9_2 ++ [x13_2]) false (Go.bits .or .i64 x11_2 ((rd_T50 l0 x13_2).f1)) (Go.bits .or .i64 x12_2 (ji16)) (wrap64 (x13_2 + 1))) else (none)) = some (r1, r2) := by first | (rw [hji16] at H; exact H) | (simp only [hji16] at H ⊢; exact H)
               have hji16_ : (IntKind.i64.wrap (1 * 2 ^ min ((rd_T50 l0 x13_2).f0).toNat 64)) = ji16 := hji16
               have hji16z : ((rd_T50 l0 x13_2).f0) ≤ 64 → (IntKind.i64.wrap (1 * 2 ^ ((rd_T50 l0 x13_2).f0).toNat)) = ji16 := shl_small hji16
               have hji16u : (IntKind.i64.wrap (2 ^ min ((rd_T50 l0 x13_2).f0).toNat 64)) = ji16 := by have h_ := hji16_; rw [Int.one_mul] at h_; exact h_
               have hji16v : ((rd_T50 l0 x13_2).f0) ≤ 64 → (IntKind.i64.wrap (2 ^ ((rd_T50 l0 x13_2).f0).toNat)) = ji16 := fun hle_ => by have h_ := hji16z hle_; rw [Int.one_mul] at h_; exact h_
               have hji16y : (wrap64 (1 * 2 ^ min ((rd_T50 l0 x13_2).f0).toNat 64)) = ji16 := (i64_w _).symm.trans hji16_
               have hji16x : ((rd_T50 l0 x13_2).f0) ≤ 64 → (wrap64 (1 * 2 ^ ((rd_T50 l0 x13_2).f0).toNat)) = ji16 := fun h_ => (i64_w _).symm.trans (hji16z h_)
               by_cases c17 : x9_2.length < 17592186044416
               ·
                rw [if_pos c17] at H
                have LMc17 := Aside0.mk c17
                clear c17
                obtain ⟨y171, hy171⟩ : ∃ y_ : List Int, y_ = (x9_2 ++ [x13_2]) := ⟨_, rfl⟩
                replace H : (kimberliteref05_Best.l1 kj4 l0 a1 x6_1 x7_1 x8_1 y171 false (Go.bits .or .i64 x11_2 ((rd_T50 l0 x13_2).f1)) (Go.bits .or .i64 x12_2 (ji16)) (wrap64 (x13_2 + 1))) = some (r1, r2) := by first | (rw [hy171]; with_reducible exact H) | (have H2_ := (Option.bind_some _ _).symm.trans H; rw [hy171]; with_reducible exact H2_) | (have H2_ := (Option.bind_some _ _).symm.trans H; with_reducible exact H2_) | with_reducible exact H | (rw [hy171]; exact H) | exact H
                have Ny171 := Aside0.mk hy171
                clear hy171
                have H' := Aside0.mk H
                clear H
                have p168 : 0 ≤ (x13_2 : Int) := of_decide_eq_true (by first | (with_reducible assumption) | assumption)
                have q168 : x13_2 < (l0.length : Int) := of_decide_eq_true (by first | (with_reducible assumption) | assumption)
                obtain ⟨ad168, e168, hx168_0, hx168_1, hx168_2⟩ := at_T50 HR0.out x13_2 p168 q168
                cases e168
                replace hx168_0 := (HB.out.cell (World.block_lt_of_cell? w _ hx168_0)).trans hx168_0
                replace hx168_1 := (HB.out.cell (World.block_lt_of_cell? w _ hx168_1)).trans hx168_1
                replace hx168_2 := (HB.out.cell (World.block_lt_of_cell? w _ hx168_2)).trans hx168_2
                replace p168 := eq_true p168
                replace q168 := eq_true q168
                have p169 : 0 ≤ (x13_2 : Int) := of_decide_eq_true (by first | (with_reducible assumption) | assumption)
                have q169 : x13_2 < (l0.length : Int) := of_decide_eq_true (by first | (with_reducible assumption) | assumption)
                obtain ⟨ad169, e169, hx169_0, hx169_1, hx169_2⟩ := at_T50 HR0.out x13_2 p169 q169
                obtain rfl : ad168 = ad169 := (by injection e169)
                replace hx169_0 := (HB.out.cell (World.block_lt_of_cell? w _ hx169_0)).trans hx169_0
                replace hx169_1 := (HB.out.cell (World.block_lt_of_cell? w _ hx169_1)).trans hx169_1
                replace hx169_2 := (HB.out.cell (World.block_lt_of_cell? w _ hx169_2)).trans hx169_2
                replace p169 := eq_true p169
                replace q169 := eq_true q169
                have p170 : 0 ≤ (x13_2 : Int) := of_decide_eq_true (by first | (with_reducible assumption) | assumption)
                have q170 : x13_2 < (l0.length : Int) := of_decide_eq_true (by first | (with_reducible assumption) | assumption)
                obtain ⟨ad170, e170, hx170_0, hx170_1, hx170_2⟩ := at_T50 HR0.out x13_2 p170 q170
                obtain rfl : ad168 = ad170 := (by injection e170)
                replace hx170_0 := (HB.out.cell (World.block_lt_of_cell? w _ hx170_0)).trans hx170_0
                replace hx170_1 := (HB.out.cell (World.block_lt_of_cell? w _ hx170_1)).trans hx170_1
                replace hx170_2 := (HB.out.cell (World.block_lt_of_cell? w _ hx170_2)).trans hx170_2
                replace p170 := eq_true p170
                replace q170 := eq_true q170
                go_wp2_with (first | ((with_reducible refine gate_builtin (b := .append) (xs := #[.tmp 85, .tmp 87]) rfl ?_); at_builtin; refine Kd.R_append (Kd.int .i64) (w0 := w) w.heap.size rfl (.tmp 85) (.tmp 87) 26 3 (.int .i64 0) 8 rfl Try.underlying26 info3 rfl (by decide) (by omega) u9 x9_2 x13_2 [.int .i64 x13_2] (fun k_ => some k_ ≠ (u6 : Value).ownBlock) (fun _ => False) rfl rfl ?aP (fun _ hk => hk.elim) ?aF ?aO ?aB ?aS ?aL ?_; (case aP => exact rfl); (case aB => exact (by repeat (first | (with_reducible first | exact HB.out | apply Zba | apply Zbn | apply Zbd) | exact HB.out))); (case aF => exact (fun k_ hk => Kd.fresh' (Kd.R_lt (by (with_reducible repeat (first | apply Zra | apply Zrn | apply Zrd)); exact HO_6.out)) k_ hk)); (case aO => exact (by (with_reducible repeat (first | apply Zra | apply Zrn | apply Zrd)); exact HO_9.out)); (case aS => exact (below_size (by repeat (first | (with_reducible first | exact HB.out | apply Zba | apply Zbn | apply Zbd) | exact HB.out)))); (case aL => have := LMc17.out; omega); intro v172 w18 ho hb hg hat; rw [← Ny171.out] at ho; have n0_ := Aside0.mk (Kd.R_after (ok := (fun _ => True)) (by (with_reducible repeat (first | apply Zra | apply Zrn | apply Zrd)); exact Kd.R_mono HO_6.out (fun _ hk => ⟨trivial, hk⟩)) hg hat); have n1_ := Aside0.mk (hb); have n2_ := Aside0.mk (ho); clear HO_6; clear HB; clear HO_9; have HO_6 := n0_; have HB := n1_; have HO173 := n2_; clear n0_ n1_ n2_; clear ho hb hg hat))
                go_roundg kj4
                case measure => have := HK1.out; have := HK2.out; have := HJ4.out; omega
                case rel => exact ⟨(y171), (false), (Go.bits .or .i64 x11_2 ((rd_T50 l0 x13_2).f1)), (Go.bits .or .i64 x12_2 (ji16)), (wrap64 (x13_2 + 1)), (by first | rfl | (simp; done) | (simp [*]; done)), (by first | rfl | (simp; done) | (simp [*]; done)), (by first | rfl | (simp; done) | (simp only [← hji16] <;> (first | rfl | simp)) | (simp [*]; done)), (by first | rfl | (simp; done) | (simp [*]; done)), H', ⟨by have := HK1.out; have := HK2.out; have := HJ4.out; omega⟩, ⟨by (with_reducible repeat (first | apply Zra | apply Zrn | apply Zrd)); exact Kd.R_mono HO_6.out (fun _ hk => hk.2)⟩, ⟨by (with_reducible repeat (first | apply Zra | apply Zrn | apply Zrd)); exact HO173.out⟩, ⟨by repeat (first | (with_reducible first | exact HB.out | apply Zba | apply Zbn | apply Zbd) | exact HB.out)⟩⟩
               ·
                rw [if_neg c17] at H
                exact absurd H (by simp)
              ·
               rw [if_neg c15] at H
               exact absurd H (by simp)
             ·
              rw [if_neg c14] at H
              have c14b0 : (((rd_T50 l0 x13_2).f0) == a1) = false := beq_eq_false_iff_ne.mpr c14
              have c14b1 : (((rd_T50 l0 x13_2).f0) != a1) = true := bne_iff_ne.mpr c14
              by_cases c19 : (Go.bits .and .i64 x11_2 ((rd_T50 l0 x13_2).f1)) = 0
              ·
               rw [if_pos c19] at H
               have c19b0 : ((Go.bits .and .i64 x11_2 ((rd_T50 l0 x13_2).f1)) == 0) = true := beq_iff_eq.mpr c19
               have c19b1 : ((Go.bits .and .i64 x11_2 ((rd_T50 l0 x13_2).f1)) != 0) = false := bne_eq_false_iff_eq.mpr c19
               clear c19
               by_cases c20 : 0 ≤ ((rd_T50 l0 x13_2).f0)
               ·
                rw [if_pos c20] at H
                have c20b0 := eq_true c20
                have c20b1 : decide (0 ≤ ((rd_T50 l0 x13_2).f0)) = true := decide_eq_true c20
                clear c20
                obtain ⟨ji21, hji21⟩ : ∃ j_ : Int, (shr .i64 x12_2 ((rd_T50 l0 x13_2).f0)) = j_ := ⟨_, rfl⟩
                replace H : (if x9_2.length < 17592186044416 then (kimberliteref05_Best.l1 kj4 l0 a1 x6_1 x7_1 x8_1 (x9_2 ++ [x13_2]) ((Int.tmod (ji21) 2) == 0) (Go.bits .or .i64 x11_2 ((rd_T50 l0 x13_2).f1)) (Go.bits .or .i64 x12_2 (shl .i64 1 ((rd_T50 l0 x13_2).f0))) (wrap64 (x13_2 + 1))) else (none)) = some (r1, r2) := by first | (rw [hji21] at H; exact H) | (simp only [hji21] at H ⊢; exact H)
                have hji21_ : (x12_2 / 2 ^ min ((rd_T50 l0 x13_2).f0).toNat 64) = ji21 := hji21
                have hji21z : ((rd_T50 l0 x13_2).f0) ≤ 64 → (x12_2 / 2 ^ ((rd_T50 l0 x13_2).f0).toNat) = ji21 := shr_small hji21
                have c22b0 := eq_true (of_decide_eq_true (by first | (with_reducible assumption) | assumption) : 0 ≤ ((rd_T50 l0 x13_2).f0))
                obtain ⟨ji23, hji23⟩ : ∃ j_ : Int, (shl .i64 1 ((rd_T50 l0 x13_2).f0)) = j_ := ⟨_, rfl⟩
                replace H : (if x9_2.length < 17592186044416 then (kimberliteref05_Best.l1 kj4 l0 a1 x6_1 x7_1 x8_1 (x9_2 ++ [x13_2]) ((Int.tmod (ji21) 2) == 0) (Go.bits .or .i64 x11_2 ((rd_T50 l0 x13_2).f1)) (Go.bits .or .i64 x12_2 (ji23)) (wrap64 (x13_2 + 1))) else (none)) = some (r1, r2) := by first | (rw [hji23] at H; exact H) | (simp only [hji23] at H ⊢; exact H)
                have hji23_ : (IntKind.i64.wrap (1 * 2 ^ min ((rd_T50 l0 x13_2).f0).toNat 64)) = ji23 := hji23
                have hji23z : ((rd_T50 l0 x13_2).f0) ≤ 64 → (IntKind.i64.wrap (1 * 2 ^ ((rd_T50 l0 x13_2).f0).toNat)) = ji23 := shl_small hji23
                have hji23u : (IntKind.i64.wrap (2 ^ min ((rd_T50 l0 x13_2).f0).toNat 64)) = ji23 := by have h_ := hji23_; rw [Int.one_mul] at h_; exact h_
                have hji23v : ((rd_T50 l0 x13_2).f0) ≤ 64 → (IntKind.i64.wrap (2 ^ ((rd_T50 l0 x13_2).f0).toNat)) = ji23 := fun hle_ => by have h_ := hji23z hle_; rw [Int.one_mul] at h_; exact h_
                have hji23y : (wrap64 (1 * 2 ^ min ((rd_T50 l0 x13_2).f0).toNat 64)) = ji23 := (i64_w _).symm.trans hji23_
                have hji23x : ((rd_T50 l0 x13_2).f0) ≤ 64 → (wrap64 (1 * 2 ^ ((rd_T50 l0 x13_2).f0).toNat)) = ji23 := fun h_ => (i64_w _).symm.trans (hji23z h_)
                by_cases c24 : x9_2.length < 17592186044416
                ·
                 rw [if_pos c24] at H
                 have LMc24 := Aside0.mk c24
                 clear c24
                 obtain ⟨y178, hy178⟩ : ∃ y_ : List Int, y_ = (x9_2 ++ [x13_2]) := ⟨_, rfl⟩
                 replace H : (kimberliteref05_Best.l1 kj4 l0 a1 x6_1 x7_1 x8_1 y178 ((Int.tmod (ji21) 2) == 0) (Go.bits .or .i64 x11_2 ((rd_T50 l0 x13_2).f1)) (Go.bits .or .i64 x12_2 (ji23)) (wrap64 (x13_2 + 1))) = some (r1, r2) := by first | (rw [hy178]; with_reducible exact H) | (have H2_ := (Option.bind_some _ _).symm.trans H; rw [hy178]; with_reducible exact H2_) | (have H2_ := (Option.bind_some _ _).symm.trans H; with_reducible exact H2_) | with_reducible exact H | (rw [hy178]; exact H) | exact H
                 have Ny178 := Aside0.mk hy178
                 clear hy178
                 have H' := Aside0.mk H
                 clear H
                 have p168 : 0 ≤ (x13_2 : Int) := of_decide_eq_true (by first | (with_reducible assumption) | assumption)
                 have q168 : x13_2 < (l0.length : Int) := of_decide_eq_true (by first | (with_reducible assumption) | assumption)
                 obtain ⟨ad168, e168, hx168_0, hx168_1, hx168_2⟩ := at_T50 HR0.out x13_2 p168 q168
                 cases e168
                 replace hx168_0 := (HB.out.cell (World.block_lt_of_cell? w _ hx168_0)).trans hx168_0
                 replace hx168_1 := (HB.out.cell (World.block_lt_of_cell? w _ hx168_1)).trans hx168_1
                 replace hx168_2 := (HB.out.cell (World.block_lt_of_cell? w _ hx168_2)).trans hx168_2
                 replace p168 := eq_true p168
                 replace q168 := eq_true q168
                 have p174 : 0 ≤ (x13_2 : Int) := of_decide_eq_true (by first | (with_reducible assumption) | assumption)
                 have q174 : x13_2 < (l0.length : Int) := of_decide_eq_true (by first | (with_reducible assumption) | assumption)
                 obtain ⟨ad174, e174, hx174_0, hx174_1, hx174_2⟩ := at_T50 HR0.out x13_2 p174 q174
                 obtain rfl : ad168 = ad174 := (by injection e174)
                 replace hx174_0 := (HB.out.cell (World.block_lt_of_cell? w _ hx174_0)).trans hx174_0
                 replace hx174_1 := (HB.out.cell (World.block_lt_of_cell? w _ hx174_1)).trans hx174_1
                 replace hx174_2 := (HB.out.cell (World.block_lt_of_cell? w _ hx174_2)).trans hx174_2
                 replace p174 := eq_true p174
                 replace q174 := eq_true q174
                 have p175 : 0 ≤ (x13_2 : Int) := of_decide_eq_true (by first | (with_reducible assumption) | assumption)
                 have q175 : x13_2 < (l0.length : Int) := of_decide_eq_true (by first | (with_reducible assumption) | assumption)
                 obtain ⟨ad175, e175, hx175_0, hx175_1, hx175_2⟩ := at_T50 HR0.out x13_2 p175 q175
                 obtain rfl : ad168 = ad175 := (by injection e175)
                 replace hx175_0 := (HB.out.cell (World.block_lt_of_cell? w _ hx175_0)).trans hx175_0
                 replace hx175_1 := (HB.out.cell (World.block_lt_of_cell? w _ hx175_1)).trans hx175_1
                 replace hx175_2 := (HB.out.cell (World.block_lt_of_cell? w _ hx175_2)).trans hx175_2
                 replace p175 := eq_true p175
                 replace q175 := eq_true q175
                 have p176 : 0 ≤ (x13_2 : Int) := of_decide_eq_true (by first | (with_reducible assumption) | assumption)
                 have q176 : x13_2 < (l0.length : Int) := of_decide_eq_true (by first | (with_reducible assumption) | assumption)
                 obtain ⟨ad176, e176, hx176_0, hx176_1, hx176_2⟩ := at_T50 HR0.out x13_2 p176 q176
                 obtain rfl : ad168 = ad176 := (by injection e176)
                 replace hx176_0 := (HB.out.cell (World.block_lt_of_cell? w _ hx176_0)).trans hx176_0
                 replace hx176_1 := (HB.out.cell (World.block_lt_of_cell? w _ hx176_1)).trans hx176_1
                 replace hx176_2 := (HB.out.cell (World.block_lt_of_cell? w _ hx176_2)).trans hx176_2
                 replace p176 := eq_true p176
                 replace q176 := eq_true q176
                 have p177 : 0 ≤ (x13_2 : Int) := of_decide_eq_true (by first | (with_reducible assumption) | assumption)
                 have q177 : x13_2 < (l0.length : Int) := of_decide_eq_true (by first | (with_reducible assumption) | assumption)
                 obtain ⟨ad177, e177, hx177_0, hx177_1, hx177_2⟩ := at_T50 HR0.out x13_2 p177 q177
                 obtain rfl : ad168 = ad177 := (by injection e177)
                 replace hx177_0 := (HB.out.cell (World.block_lt_of_cell? w _ hx177_0)).trans hx177_0
                 replace hx177_1 := (HB.out.cell (World.block_lt_of_cell? w _ hx177_1)).trans hx177_1
                 replace hx177_2 := (HB.out.cell (World.block_lt_of_cell? w _ hx177_2)).trans hx177_2
                 replace p177 := eq_true p177
                 replace q177 := eq_true q177
                 go_wp2_with (first | ((with_reducible refine gate_builtin (b := .append) (xs := #[.tmp 85, .tmp 87]) rfl ?_); at_builtin; refine Kd.R_append (Kd.int .i64) (w0 := w) w.heap.size rfl (.tmp 85) (.tmp 87) 26 3 (.int .i64 0) 8 rfl Try.underlying26 info3 rfl (by decide) (by omega) u9 x9_2 x13_2 [.int .i64 x13_2] (fun k_ => some k_ ≠ (u6 : Value).ownBlock) (fun _ => False) rfl rfl ?aP (fun _ hk => hk.elim) ?aF ?aO ?aB ?aS ?aL ?_; (case aP => exact rfl); (case aB => exact (by repeat (first | (with_reducible first | exact HB.out | apply Zba | apply Zbn | apply Zbd) | exact HB.out))); (case aF => exact (fun k_ hk => Kd.fresh' (Kd.R_lt (by (with_reducible repeat (first | apply Zra | apply Zrn | apply Zrd)); exact HO_6.out)) k_ hk)); (case aO => exact (by (with_reducible repeat (first | apply Zra | apply Zrn | apply Zrd)); exact HO_9.out)); (case aS => exact (below_size (by repeat (first | (with_reducible first | exact HB.out | apply Zba | apply Zbn | apply Zbd) | exact HB.out)))); (case aL => have := LMc24.out; omega); intro v179 w25 ho hb hg hat; rw [← Ny178.out] at ho; have n0_ := Aside0.mk (Kd.R_after (ok := (fun _ => True)) (by (with_reducible repeat (first | apply Zra | apply Zrn | apply Zrd)); exact Kd.R_mono HO_6.out (fun _ hk => ⟨trivial, hk⟩)) hg hat); have n1_ := Aside0.mk (hb); have n2_ := Aside0.mk (ho); clear HO_6; clear HB; clear HO_9; have HO_6 := n0_; have HB := n1_; have HO180 := n2_; clear n0_ n1_ n2_; clear ho hb hg hat))
                 go_roundg kj4
                 case measure => have := HK1.out; have := HK2.out; have := HJ4.out; omega
                 case rel => exact ⟨(y178), (((Int.tmod (ji21) 2) == 0)), (Go.bits .or .i64 x11_2 ((rd_T50 l0 x13_2).f1)), (Go.bits .or .i64 x12_2 (ji23)), (wrap64 (x13_2 + 1)), (by first | rfl | (simp; done) | (simp only [← hji21] <;> (first | rfl | simp)) | (simp [*]; done)), (by first | rfl | (simp; done) | (simp [*]; done)), (by first | rfl | (simp; done) | (simp only [← hji23] <;> (first | rfl | simp)) | (simp [*]; done)), (by first | rfl | (simp; done) | (simp [*]; done)), H', ⟨by have := HK1.out; have := HK2.out; have := HJ4.out; omega⟩, ⟨by (with_reducible repeat (first | apply Zra | apply Zrn | apply Zrd)); exact Kd.R_mono HO_6.out (fun _ hk => hk.2)⟩, ⟨by (with_reducible repeat (first | apply Zra | apply Zrn | apply Zrd)); exact HO180.out⟩, ⟨by repeat (first | (with_reducible first | exact HB.out | apply Zba | apply Zbn | apply Zbd) | exact HB.out)⟩⟩
                ·
                 rw [if_neg c24] at H
                 exact absurd H (by simp)
               ·
                rw [if_neg c20] at H
                exact absurd H (by simp)
              ·
               rw [if_neg c19] at H
               have c19b0 : ((Go.bits .and .i64 x11_2 ((rd_T50 l0 x13_2).f1)) == 0) = false := beq_eq_false_iff_ne.mpr c19
               have c19b1 : ((Go.bits .and .i64 x11_2 ((rd_T50 l0 x13_2).f1)) != 0) = true := bne_iff_ne.mpr c19
               by_cases c26 : 0 ≤ ((rd_T50 l0 x13_2).f0)
               ·
                rw [if_pos c26] at H
                have c26b0 := eq_true c26
                have c26b1 : decide (0 ≤ ((rd_T50 l0 x13_2).f0)) = true := decide_eq_true c26
                clear c26
                obtain ⟨ji27, hji27⟩ : ∃ j_ : Int, (shl .i64 1 ((rd_T50 l0 x13_2).f0)) = j_ := ⟨_, rfl⟩
                replace H : (if x9_2.length < 17592186044416 then (kimberliteref05_Best.l1 kj4 l0 a1 x6_1 x7_1 x8_1 (x9_2 ++ [x13_2]) false (Go.bits .or .i64 x11_2 ((rd_T50 l0 x13_2).f1)) (Go.bits .or .i64 x12_2 (ji27)) (wrap64 (x13_2 + 1))) else (none)) = some (r1, r2) := by first | (rw [hji27] at H; exact H) | (simp only [hji27] at H ⊢; exact H)
                have hji27_ : (IntKind.i64.wrap (1 * 2 ^ min ((rd_T50 l0 x13_2).f0).toNat 64)) = ji27 := hji27
                have hji27z : ((rd_T50 l0 x13_2).f0) ≤ 64 → (IntKind.i64.wrap (1 * 2 ^ ((rd_T50 l0 x13_2).f0).toNat)) = ji27 := shl_small hji27
                have hji27u : (IntKind.i64.wrap (2 ^ min ((rd_T50 l0 x13_2).f0).toNat 64)) = ji27 := by have h_ := hji27_; rw [Int.one_mul] at h_; exact h_
                have hji27v : ((rd_T50 l0 x13_2).f0) ≤ 64 → (IntKind.i64.wrap (2 ^ ((rd_T50 l0 x13_2).f0).toNat)) = ji27 := fun hle_ => by have h_ := hji27z hle_; rw [Int.one_mul] at h_; exact h_
                have hji27y : (wrap64 (1 * 2 ^ min ((rd_T50 l0 x13_2).f0).toNat 64)) = ji27 := (i64_w _).symm.trans hji27_
                have hji27x : ((rd_T50 l0 x13_2).f0) ≤ 64 → (wrap64 (1 * 2 ^ ((rd_T50 l0 x13_2).f0).toNat)) = ji27 := fun h_ => (i64_w _).symm.trans (hji27z h_)
                by_cases c28 : x9_2.length < 17592186044416
                ·
                 rw [if_pos c28] at H
                 have LMc28 := Aside0.mk c28
                 clear c28
                 obtain ⟨y183, hy183⟩ : ∃ y_ : List Int, y_ = (x9_2 ++ [x13_2]) := ⟨_, rfl⟩
                 replace H : (kimberliteref05_Best.l1 kj4 l0 a1 x6_1 x7_1 x8_1 y183 false (Go.bits .or .i64 x11_2 ((rd_T50 l0 x13_2).f1)) (Go.bits .or .i64 x12_2 (ji27)) (wrap64 (x13_2 + 1))) = some (r1, r2) := by first | (rw [hy183]; with_reducible exact H) | (have H2_ := (Option.bind_some _ _).symm.trans H; rw [hy183]; with_reducible exact H2_) | (have H2_ := (Option.bind_some _ _).symm.trans H; with_reducible exact H2_) | with_reducible exact H | (rw [hy183]; exact H) | exact H
                 have Ny183 := Aside0.mk hy183
                 clear hy183
                 have H' := Aside0.mk H
                 clear H
                 have p168 : 0 ≤ (x13_2 : Int) := of_decide_eq_true (by first | (with_reducible assumption) | assumption)
                 have q168 : x13_2 < (l0.length : Int) := of_decide_eq_true (by first | (with_reducible assumption) | assumption)
                 obtain ⟨ad168, e168, hx168_0, hx168_1, hx168_2⟩ := at_T50 HR0.out x13_2 p168 q168
                 cases e168
                 replace hx168_0 := (HB.out.cell (World.block_lt_of_cell? w _ hx168_0)).trans hx168_0
                 replace hx168_1 := (HB.out.cell (World.block_lt_of_cell? w _ hx168_1)).trans hx168_1
                 replace hx168_2 := (HB.out.cell (World.block_lt_of_cell? w _ hx168_2)).trans hx168_2
                 replace p168 := eq_true p168
                 replace q168 := eq_true q168
                 have p174 : 0 ≤ (x13_2 : Int) := of_decide_eq_true (by first | (with_reducible assumption) | assumption)
                 have q174 : x13_2 < (l0.length : Int) := of_decide_eq_true (by first | (with_reducible assumption) | assumption)
                 obtain ⟨ad174, e174, hx174_0, hx174_1, hx174_2⟩ := at_T50 HR0.out x13_2 p174 q174
                 obtain rfl : ad168 = ad174 := (by injection e174)
                 replace hx174_0 := (HB.out.cell (World.block_lt_of_cell? w _ hx174_0)).trans hx174_0
                 replace hx174_1 := (HB.out.cell (World.block_lt_of_cell? w _ hx174_1)).trans hx174_1
                 replace hx174_2 := (HB.out.cell (World.block_lt_of_cell? w _ hx174_2)).trans hx174_2
                 replace p174 := eq_true p174
                 replace q174 := eq_true q174
                 have p181 : 0 ≤ (x13_2 : Int) := of_decide_eq_true (by first | (with_reducible assumption) | assumption)
                 have q181 : x13_2 < (l0.length : Int) := of_decide_eq_true (by first | (with_reducible assumption) | assumption)
                 obtain ⟨ad181, e181, hx181_0, hx181_1, hx181_2⟩ := at_T50 HR0.out x13_2 p181 q181
                 obtain rfl : ad168 = ad181 := (by injection e181)
                 replace hx181_0 := (HB.out.cell (World.block_lt_of_cell? w _ hx181_0)).trans hx181_0
                 replace hx181_1 := (HB.out.cell (World.block_lt_of_cell? w _ hx181_1)).trans hx181_1
                 replace hx181_2 := (HB.out.cell (World.block_lt_of_cell? w _ hx181_2)).trans hx181_2
                 replace p181 := eq_true p181
                 replace q181 := eq_true q181
                 have p182 : 0 ≤ (x13_2 : Int) := of_decide_eq_true (by first | (with_reducible assumption) | assumption)
                 have q182 : x13_2 < (l0.length : Int) := of_decide_eq_true (by first | (with_reducible assumption) | assumption)
                 obtain ⟨ad182, e182, hx182_0, hx182_1, hx182_2⟩ := at_T50 HR0.out x13_2 p182 q182
                 obtain rfl : ad168 = ad182 := (by injection e182)
                 replace hx182_0 := (HB.out.cell (World.block_lt_of_cell? w _ hx182_0)).trans hx182_0
                 replace hx182_1 := (HB.out.cell (World.block_lt_of_cell? w _ hx182_1)).trans hx182_1
                 replace hx182_2 := (HB.out.cell (World.block_lt_of_cell? w _ hx182_2)).trans hx182_2
                 replace p182 := eq_true p182
                 replace q182 := eq_true q182
                 go_wp2_with (first | ((with_reducible refine gate_builtin (b := .append) (xs := #[.tmp 85, .tmp 87]) rfl ?_); at_builtin; refine Kd.R_append (Kd.int .i64) (w0 := w) w.heap.size rfl (.tmp 85) (.tmp 87) 26 3 (.int .i64 0) 8 rfl Try.underlying26 info3 rfl (by decide) (by omega) u9 x9_2 x13_2 [.int .i64 x13_2] (fun k_ => some k_ ≠ (u6 : Value).ownBlock) (fun _ => False) rfl rfl ?aP (fun _ hk => hk.elim) ?aF ?aO ?aB ?aS ?aL ?_; (case aP => exact rfl); (case aB => exact (by repeat (first | (with_reducible first | exact HB.out | apply Zba | apply Zbn | apply Zbd) | exact HB.out))); (case aF => exact (fun k_ hk => Kd.fresh' (Kd.R_lt (by (with_reducible repeat (first | apply Zra | apply Zrn | apply Zrd)); exact HO_6.out)) k_ hk)); (case aO => exact (by (with_reducible repeat (first | apply Zra | apply Zrn | apply Zrd)); exact HO_9.out)); (case aS => exact (below_size (by repeat (first | (with_reducible first | exact HB.out | apply Zba | apply Zbn | apply Zbd) | exact HB.out)))); (case aL => have := LMc28.out; omega); intro v184 w29 ho hb hg hat; rw [← Ny183.out] at ho; have n0_ := Aside0.mk (Kd.R_after (ok := (fun _ => True)) (by (with_reducible repeat (first | apply Zra | apply Zrn | apply Zrd)); exact Kd.R_mono HO_6.out (fun _ hk => ⟨trivial, hk⟩)) hg hat); have n1_ := Aside0.mk (hb); have n2_ := Aside0.mk (ho); clear HO_6; clear HB; clear HO_9; have HO_6 := n0_; have HB := n1_; have HO185 := n2_; clear n0_ n1_ n2_; clear ho hb hg hat))
                 go_roundg kj4
                 case measure => have := HK1.out; have := HK2.out; have := HJ4.out; omega
                 case rel => exact ⟨(y183), (false), (Go.bits .or .i64 x11_2 ((rd_T50 l0 x13_2).f1)), (Go.bits .or .i64 x12_2 (ji27)), (wrap64 (x13_2 + 1)), (by first | rfl | (simp; done) | (simp [*]; done)), (by first | rfl | (simp; done) | (simp [*]; done)), (by first | rfl | (simp; done) | (simp only [← hji27] <;> (first | rfl | simp)) | (simp [*]; done)), (by first | rfl | (simp; done) | (simp [*]; done)), H', ⟨by have := HK1.out; have := HK2.out; have := HJ4.out; omega⟩, ⟨by (with_reducible repeat (first | apply Zra | apply Zrn | apply Zrd)); exact Kd.R_mono HO_6.out (fun _ hk => hk.2)⟩, ⟨by (with_reducible repeat (first | apply Zra | apply Zrn | apply Zrd)); exact HO185.out⟩, ⟨by repeat (first | (with_reducible first | exact HB.out | apply Zba | apply Zbn | apply Zbd) | exact HB.out)⟩⟩
                ·
                 rw [if_neg c28] at H
                 exact absurd H (by simp)
               ·
                rw [if_neg c26] at H
                exact absurd H (by simp)
            ·
             rw [if_neg c13] at H
             exact absurd H (by simp)
           ·
            rw [if_neg c12] at H
            exact absurd H (by simp)
         ·
          rw [if_neg c9] at H
          exact absurd H (by simp)
        ·
         replace c7 := Bool.eq_false_iff.mpr c7
         subst c7
         have H1 : (if x10_2 = true then ((kimberliteref05_Choice.f kj4 l0 x9_2).bind fun bt186 => (if bt186.1 > x7_1 then (kimberliteref05_Best.l0 kj4 l0 a1 x9_2 bt186.1 (wrap64 (x8_1 - 1))) else (kimberliteref05_Best.l0 kj4 l0 a1 x6_1 x7_1 (wrap64 (x8_1 - 1))))) else (kimberliteref05_Best.l0 kj4 l0 a1 x6_1 x7_1 (wrap64 (x8_1 - 1)))) = some (r1, r2) := by rw [if_neg (show ¬ (false = true) by decide)] at H; exact H
         clear H
         have H := H1
         clear H1
         by_cases c30 : x10_2 = true
         ·
          subst c30
          have H1 : ((kimberliteref05_Choice.f kj4 l0 x9_2).bind fun bt186 => (if bt186.1 > x7_1 then (kimberliteref05_Best.l0 kj4 l0 a1 x9_2 bt186.1 (wrap64 (x8_1 - 1))) else (kimberliteref05_Best.l0 kj4 l0 a1 x6_1 x7_1 (wrap64 (x8_1 - 1))))) = some (r1, r2) := by rw [if_pos rfl] at H; exact H
          clear H
          have H := H1
          clear H1
          replace H := Option.bind_eq_some_iff.mp H
          obtain ⟨⟨t186, t187⟩, A310, H⟩ := H
          replace H : (if t186 > x7_1 then (kimberliteref05_Best.l0 kj4 l0 a1 x9_2 t186 (wrap64 (x8_1 - 1))) else (kimberliteref05_Best.l0 kj4 l0 a1 x6_1 x7_1 (wrap64 (x8_1 - 1)))) = some (r1, r2) := H
          have A31 := Aside0.mk A310
          clear A310
          by_cases c32 : t186 > x7_1
          ·
           rw [if_pos c32] at H
           have c32b0 : decide (x7_1 < t186) = true := decide_eq_true c32
           clear c32
           have H' := Aside0.mk H
           clear H
           obtain ⟨Ao33, co33, eo33⟩ := Kd.R_slice HO_9.out
           subst eo33
           go_wp2_with (first | ((with_reducible refine gate_callee (f := 25) rfl ?_); refine goesL_ (some 94) rfl rfl Try.func25 (by kernel_rfl) rfl #[.slice A0 l0.length c0, .slice Ao33 x9_2.length co33] rfl (by (try simp only [List.map_toArray, List.map_cons, List.map_nil]); first | done | rfl | (simp only [List.length_drop, List.length_take]; rfl)) ?_; (with_reducible refine (kimberliteref05_Choice.calls kj4 _ _ l0 _ _ x9_2 t186 t187 _ ?side1 ?side2 ?side3 ?side4 A31.out).mono ?_); (case side1 => repeat (first | exact (Kd.C_below HR0.out HB.out) | (with_reducible refine Kd.C_alloc ?_ _) | (with_reducible refine Kd.C_drewN ?_ _) | (with_reducible refine Kd.C_drew ?_))); (case side2 => exact HC0.out); (case side3 => repeat (first | exact (Kd.R_reads' HO_9.out).2.2 | (with_reducible refine Kd.C_alloc ?_ _) | (with_reducible refine Kd.C_drewN ?_ _) | (with_reducible refine Kd.C_drew ?_))); (case side4 => exact (Kd.R_reads' HO_9.out).2.1); rintro e w34 ⟨rfl, hb⟩; refine ⟨_, rfl, ?_⟩; have n0_ := Aside0.mk (Kd.R_below (by (with_reducible repeat (first | apply Zra | apply Zrn | apply Zrd)); exact HO_6.out) hb); have n1_ := Aside0.mk (Kd.R_below (by (with_reducible repeat (first | apply Zra | apply Zrn | apply Zrd)); exact HO_9.out) hb); have n2_ := Aside0.mk (below_step (by repeat (first | (with_reducible first | exact HB.out | apply Zba | apply Zbn | apply Zbd) | exact HB.out)) hb); clear HO_6; clear HO_9; clear HB; have HO_6 := n0_; have HO_9 := n1_; have HB := n2_; clear n0_ n1_ n2_; (try clear hb); (try clear hb2); (try clear hk); (try clear hi)))
           go_roundg kj4
           case measure => have := HK1.out; have := HK2.out; have := HJ4.out; omega
           case rel => exact ⟨(x9_2), (t186), (wrap64 (x8_1 - 1)), (by first | rfl | (simp; done) | (simp [*]; done)), (by first | rfl | (simp; done) | (simp [*]; done)), H', ⟨by have := HK1.out; have := HK2.out; have := HJ4.out; omega⟩, ⟨by (with_reducible repeat (first | apply Zra | apply Zrn | apply Zrd)); exact Kd.R_mono HO_9.out (fun _ hk => trivial)⟩, ⟨by repeat (first | (with_reducible first | exact HB.out | apply Zba | apply Zbn | apply Zbd) | exact HB.out)⟩⟩
          ·
           rw [if_neg c32] at H
           have c32b0 : decide (x7_1 < t186) = false := decide_eq_false c32
           clear c32
           have H' := Aside0.mk H
           clear H
           obtain ⟨Ao35, co35, eo35⟩ := Kd.R_slice HO_9.out
           subst eo35
           go_wp2_with (first | ((with_reducible refine gate_callee (f := 25) rfl ?_); refine goesL_ (some 94) rfl rfl Try.func25 (by kernel_rfl) rfl #[.slice A0 l0.length c0, .slice Ao35 x9_2.length co35] rfl (by (try simp only [List.map_toArray, List.map_cons, List.map_nil]); first | done | rfl | (simp only [List.length_drop, List.length_take]; rfl)) ?_; (with_reducible refine (kimberliteref05_Choice.calls kj4 _ _ l0 _ _ x9_2 t186 t187 _ ?side1 ?side2 ?side3 ?side4 A31.out).mono ?_); (case side1 => repeat (first | exact (Kd.C_below HR0.out HB.out) | (with_reducible refine Kd.C_alloc ?_ _) | (with_reducible refine Kd.C_drewN ?_ _) | (with_reducible refine Kd.C_drew ?_))); (case side2 => exact HC0.out); (case side3 => repeat (first | exact (Kd.R_reads' HO_9.out).2.2 | (with_reducible refine Kd.C_alloc ?_ _) | (with_reducible refine Kd.C_drewN ?_ _) | (with_reducible refine Kd.C_drew ?_))); (case side4 => exact (Kd.R_reads' HO_9.out).2.1); rintro e w36 ⟨rfl, hb⟩; refine ⟨_, rfl, ?_⟩; have n0_ := Aside0.mk (Kd.R_below (by (with_reducible repeat (first | apply Zra | apply Zrn | apply Zrd)); exact HO_6.out) hb); have n1_ := Aside0.mk (Kd.R_below (by (with_reducible repeat (first | apply Zra | apply Zrn | apply Zrd)); exact HO_9.out) hb); have n2_ := Aside0.mk (below_step (by repeat (first | (with_reducible first | exact HB.out | apply Zba | apply Zbn | apply Zbd) | exact HB.out)) hb); clear HO_6; clear HO_9; clear HB; have HO_6 := n0_; have HO_9 := n1_; have HB := n2_; clear n0_ n1_ n2_; (try clear hb); (try clear hb2); (try clear hk); (try clear hi)))
           go_roundg kj4
           case measure => have := HK1.out; have := HK2.out; have := HJ4.out; omega
           case rel => exact ⟨(x6_1), (x7_1), (wrap64 (x8_1 - 1)), (by first | rfl | (simp; done) | (simp [*]; done)), (by first | rfl | (simp; done) | (simp [*]; done)), H', ⟨by have := HK1.out; have := HK2.out; have := HJ4.out; omega⟩, ⟨by (with_reducible repeat (first | apply Zra | apply Zrn | apply Zrd)); exact Kd.R_mono HO_6.out (fun _ hk => trivial)⟩, ⟨by repeat (first | (with_reducible first | exact HB.out | apply Zba | apply Zbn | apply Zbd) | exact HB.out)⟩⟩
         ·
          replace c30 := Bool.eq_false_iff.mpr c30
          subst c30
          have H1 : (kimberliteref05_Best.l0 kj4 l0 a1 x6_1 x7_1 (wrap64 (x8_1 - 1))) = some (r1, r2) := by rw [if_neg (show ¬ (false = true) by decide)] at H; exact H
          clear H
          have H := H1
          clear H1
          have H' := Aside0.mk H
          clear H
          go_wp2
          go_roundg kj4
          case measure => have := HK1.out; have := HK2.out; have := HJ4.out; omega
          case rel => exact ⟨(x6_1), (x7_1), (wrap64 (x8_1 - 1)), (by first | rfl | (simp; done) | (simp [*]; done)), (by first | rfl | (simp; done) | (simp [*]; done)), H', ⟨by have := HK1.out; have := HK2.out; have := HJ4.out; omega⟩, ⟨by (with_reducible repeat (first | apply Zra | apply Zrn | apply Zrd)); exact Kd.R_mono HO_6.out (fun _ hk => trivial)⟩, ⟨by repeat (first | (with_reducible first | exact HB.out | apply Zba | apply Zbn | apply Zbd) | exact HB.out)⟩⟩
   ·
    rw [if_neg c4] at H
    have c4b0 : decide (0 ≤ x8_1) = false := decide_eq_false c4
    clear c4
    simp only [Option.some.injEq, Prod.mk.injEq] at H
    obtain ⟨rfl, rfl⟩ := H
    go_wp2
    go_ret2
    exact ⟨_, by first | rfl | (simp [errW_none, errW_some] <;> rfl) | (simp only [← hji3]; first | rfl | (simp [errW_none, errW_some] <;> rfl)) | (simp [*, errW_none, errW_some] <;> rfl), by (with_reducible repeat (first | apply Zra | apply Zrn | apply Zrd)); exact HO_6.out, by repeat (first | (with_reducible first | exact HB.out | apply Zba | apply Zbn | apply Zbd) | exact HB.out)⟩
end Go.Proofs.Ythfdjccdelbeeaa.PT
end
section
namespace Go.Proofs.Ythfdjccdelbeeaa.PT
open Go.RowKit Go.Proofs.YthfdjccdelbeeaaW.PrintWords Go.Proofs.YthfdjccdelbeeaaW.PrintLast Go.Proofs.YthfdjccdelbeeaaW.PrintMore Go.Proofs.Ythfdjccdelbeeaa.TPl
set_option linter.unusedVariables false
theorem pow_le62 (n : Nat) (h : n ≤ 62) : 2 ^ n ≤ 4611686018427387904 := Nat.pow_le_pow_right (n := 2) (by decide) h
theorem shl_pow (n : Nat) (h : n ≤ 62) : shl .i64 1 (n : Int) = ((2 ^ n : Nat) : Int) := by
 unfold shl
 have := pow_le62 n h
 rw [Int.toNat_natCast, Nat.min_eq_left (by show n ≤ 64; omega), Int.one_mul]
 have e : (2 : Int) ^ n = ((2 ^ n : Nat) : Int) := by simp
 rw [e]
 generalize 2 ^ n = M at *
 exact IntWalk.i64_in _ (by omega)
theorem shr_pow (x n : Nat) (h : n ≤ 62) : shr .i64 (x : Int) (n : Int) = ((x / 2 ^ n : Nat) : Int) := by
 unfold shr
 rw [Int.toNat_natCast, Nat.min_eq_left (by show n ≤ 64; omega)]
 have e : (2 : Int) ^ n = ((2 ^ n : Nat) : Int) := by simp
 rw [e]; exact (Int.natCast_ediv _ _).symm
theorem tmod2 (x : Nat) : Int.tmod (x : Int) 2 = ((x % 2 : Nat) : Int) := by rw [Int.tmod_eq_emod_of_nonneg (by omega)]; omega
theorem bit_mod (x n : Nat) : x / 2 ^ n % 2 = if x.testBit n = true then 1 else 0 := by
 rw [Nat.testBit_eq_decide_div_mod_eq]
 have := Nat.mod_lt (x / 2 ^ n) (show 0 < 2 by decide)
 split <;> rename_i h <;> simp at h <;> omega
theorem rd_app (a b : List Int) (j : Nat) (h : j = a.length) : rd (a ++ b) (j : Int) = rd b 0 := by
 subst h
 simp [rd, List.getD_eq_getElem?_getD, List.getElem?_append_right]
theorem rd_last (a : List Int) (x : Int) (b : List Int) (j : Nat) (h : j = a.length) : rd (a ++ [x] ++ b) (j : Int) = x := by
 subst h
 simp [rd, List.getD_eq_getElem?_getD]
theorem feas_any (wo : Int) : ∀ (os : List Of) (s : List Bool) (L B : Nat), feas wo os s L B → feas (-1) os s L B
 | [], [], _, _, _ => trivial
 | o :: os, true :: s, L, B, h => ⟨⟨by omega, h.1.2.1, h.1.2.2⟩, feas_any wo os s _ _ h.2⟩
 | _ :: os, false :: s, L, B, h => feas_any wo os s L B h
 | [], _ :: _, _, _, h => h.elim
 | _ :: _, [], _, _, h => h.elim
instance feasDec (wo : Int) : ∀ (os : List Of) (s : List Bool) (L B : Nat), Decidable (feas wo os s L B)
 | [], [], _, _ => isTrue trivial
 | o :: os, true :: s, L, B => @instDecidableAnd _ _ _ (feasDec wo os s (L ||| o.l) (B ||| 2 ^ o.b))
 | _ :: os, false :: s, L, B => feasDec wo os s L B
 | [], _ :: _, _, _ => isFalse id
 | _ :: _, [], _, _ => isFalse id
theorem choice_round (l : List S50) (hv : bValid l) (i : Nat) (hi : i < l.length) (pre rest : List Int) (hpre : ∀ x, pre.getLast? = some x → x < (i : Int)) (hpl : pre.length ≤ i) (L B : Nat) (hL : L < 4096) (hB : B < 256) (sum : Nat) (hs : sum ≤ 1073741824 * i) (k : Nat) :
  kimberliteref05_Choice.l0 (k + 2) l (pre ++ (i : Int) :: rest) sum L B (pre.length : Int) =
   if nok (-1) L B (toOf l[i]) then kimberliteref05_Choice.l0 k l (pre ++ (i : Int) :: rest) ((sum + (toOf l[i]).p : Nat) : Int) ((L ||| (toOf l[i]).l : Nat) : Int) ((B ||| 2 ^ (toOf l[i]).b : Nat) : Int) ((pre.length + 1 : Nat) : Int) else some (0, false) := by
 have ho := hv.2 l[i] (List.getElem_mem hi)
 have hl16 := hv.1
 have e0 : rd (pre ++ (i : Int) :: rest) (pre.length : Int) = (i : Int) := by rw [rd_app _ _ _ rfl]; rfl
 obtain ⟨k1, k2, k3, k4, k5⟩ := bOk_nok (-1) L B l[i] hL hB ho
 have hlast : pre.length > 0 → rd (pre ++ (i : Int) :: rest) (wrap64 ((pre.length : Int) - 1)) < (i : Int) := by
  intro h0
  obtain ⟨p, x, rfl⟩ : ∃ p x, pre = p ++ [x] := by
   rcases List.eq_nil_or_concat pre with rfl | ⟨p, x, rfl⟩
   ·
    simp at h0
   ·
    exact ⟨p, x, by simp⟩
  have hx := hpre x (by simp)
  have : wrap64 (((p ++ [x]).length : Int) - 1) = (p.length : Int) := by have hq := hpl; simp only [List.length_append, List.length_cons, List.length_nil] at hq ⊢; unfold wrap64; omega
  rw [this, rd_last p x _ _ rfl]; exact hx
 have hj1 : kimberliteref05_Choice.j1 (k + 1) l (pre ++ (i : Int) :: rest) sum L B (pre.length : Int) false =
   if nok (-1) L B (toOf l[i]) then kimberliteref05_Choice.l0 k l (pre ++ (i : Int) :: rest) ((sum + (toOf l[i]).p : Nat) : Int) ((L ||| (toOf l[i]).l : Nat) : Int) ((B ||| 2 ^ (toOf l[i]).b : Nat) : Int) ((pre.length + 1 : Nat) : Int) else some (0, false) := by
  simp only [kimberliteref05_Choice.j1, e0, rd_get l i hi]
  rw [if_neg (by simp), if_pos (by omega), if_pos (by simp; omega), if_pos (by omega), if_pos (by omega)]
  have ef0 : l[i].f0 = ((l[i].f0.toNat : Nat) : Int) := by omega
  have esh : shl .i64 1 l[i].f0 = ((2 ^ l[i].f0.toNat : Nat) : Int) := by rw [ef0, shl_pow _ (by omega)]; rfl
  have esr : Int.tmod (shr .i64 (B : Int) l[i].f0) 2 = ((B / 2 ^ l[i].f0.toNat % 2 : Nat) : Int) := by
   conv => lhs; rw [ef0]
   rw [shr_pow _ _ (by omega), tmod2]
  rw [esh, esr, bit_mod, k2]
  have k3' : bits .or .i64 (B : Int) ((2 ^ l[i].f0.toNat : Nat) : Int) = ((B ||| 2 ^ (toOf l[i]).b : Nat) : Int) := by rw [← k3, pow8 _ (by omega)]
  rw [k3']
  have e1 : bits .and .i64 (L : Int) l[i].f1 = ((L &&& (toOf l[i]).l : Nat) : Int) := by
   have : l[i].f1 = ((l[i].f1.toNat : Nat) : Int) := by omega
   conv => lhs; rw [this]
   rw [(bits63 L l[i].f1.toNat (by omega) (by omega)).1]; rfl
  rw [e1]
  have ew : wrap64 ((sum : Int) + l[i].f2) = ((sum + (toOf l[i]).p : Nat) : Int) := by
   show wrap64 ((sum : Int) + l[i].f2) = ((sum + l[i].f2.toNat : Nat) : Int)
   unfold wrap64; omega
  rw [ew, w64 _ (by omega)]
  by_cases c1 : L &&& (toOf l[i]).l = 0
  ·
   rw [if_pos (by rw [c1]; rfl), if_pos ho.1]
   by_cases c2 : B.testBit l[i].f0.toNat = true
   ·
    rw [if_pos c2, if_pos (by rfl), if_neg (fun h => by have := h.2.2; simp only [toOf] at this; rw [c2] at this; cases this)]
   ·
    rw [if_neg c2, if_neg (by decide), if_pos ⟨by simp only [toOf]; omega, c1, by simp only [toOf]; simpa using c2⟩]
  ·
   rw [if_neg (by omega), if_neg (fun h => c1 h.2.1)]
 simp only [kimberliteref05_Choice.l0, e0]
 rw [if_pos (by simp; omega), if_pos (by omega), if_neg (by omega), if_neg (by omega)]
 by_cases hp : pre.length > 0
 ·
  rw [if_pos (by omega), if_pos (by unfold wrap64; omega), if_pos (by simp only [List.length_append, List.length_cons]; unfold wrap64; omega), decide_eq_false (by have := hlast hp; omega)]
  exact hj1
 ·
  rw [if_neg (by omega)]; exact hj1
theorem ev_Choice_l (l : List S50) (hv : bValid l) : ∀ (s : List Bool) (i : Nat) (pre : List Int) (L B sum : Nat), i + s.length = l.length → (∀ x, pre.getLast? = some x → x < (i : Int)) → pre.length ≤ i → L < 4096 → B < 256 → sum ≤ 1073741824 * i →
  Ev (fun k => kimberliteref05_Choice.l0 k l (pre ++ idx i s) sum L B (pre.length : Int)) (if feas (-1) ((l.drop i).map toOf) s L B then (((sum + val ((l.drop i).map toOf) s : Nat) : Int), true) else (0, false))
 | [], i, pre, L, B, sum, hi, _, _, _, _, _ => by
  have hd : l.drop i = [] := List.drop_of_length_le (by simp at hi; omega)
  rw [hd]
  refine Ev.here fun k => ?_
  simp only [kimberliteref05_Choice.l0, idx, List.append_nil]
  rw [if_neg (by omega), List.map_nil, if_pos (by trivial)]; simp [val]
 | b :: s, i, pre, L, B, sum, hi, hpre, hpl, hL, hB, hs => by
  have hlt : i < l.length := by simp at hi; omega
  have hd : l.drop i = l[i] :: l.drop (i + 1) := List.drop_eq_getElem_cons hlt
  have ho := hv.2 l[i] (List.getElem_mem hlt)
  rw [hd, List.map_cons]
  cases b with
  | false =>
   have ih := ev_Choice_l l hv s (i + 1) pre L B sum (by simp at hi; omega) (fun x hx => by have := hpre x hx; omega) (by omega) hL hB (by omega)
   simp only [idx]
   rw [show ((i + 1 : Nat) : Int) = (i : Int) + 1 from by omega] at ih
   exact ih
  | true =>
   obtain ⟨k1, k2, k3, k4, k5⟩ := bOk_nok (-1) L B l[i] hL hB ho
   have ih := ev_Choice_l l hv s (i + 1) (pre ++ [(i : Int)]) (L ||| (toOf l[i]).l) (B ||| 2 ^ (toOf l[i]).b) (sum + (toOf l[i]).p) (by simp at hi; omega) (fun x hx => by simp at hx; omega) (by simp; omega) k4 k5 (by show sum + l[i].f2.toNat ≤ _; omega)
   simp only [idx]
   have hr := fun k => choice_round l hv i hlt pre (idx ((i : Int) + 1) s) hpre hpl L B hL hB sum hs k
   by_cases hk : nok (-1) L B (toOf l[i])
   ·
    refine Ev.step (f := fun k => kimberliteref05_Choice.l0 (k + 1) l (pre ++ (i : Int) :: idx ((i : Int) + 1) s) sum L B (pre.length : Int)) (fun k => rfl) ?_
    refine Ev.step (f := fun k => kimberliteref05_Choice.l0 k l (pre ++ (i : Int) :: idx ((i : Int) + 1) s) ((sum + (toOf l[i]).p : Nat) : Int) ((L ||| (toOf l[i]).l : Nat) : Int) ((B ||| 2 ^ (toOf l[i]).b : Nat) : Int) ((pre.length + 1 : Nat) : Int)) (fun k => by rw [hr k, if_pos hk]) ?_
    have e : pre ++ (i : Int) :: idx ((i : Int) + 1) s = pre ++ [(i : Int)] ++ idx ((i + 1 : Nat) : Int) s := by simp
    have e2 : (pre ++ [(i : Int)]).length = pre.length + 1 := by simp
    rw [e2, ← e] at ih
    have hf : feas (-1) (toOf l[i] :: List.map toOf (List.drop (i + 1) l)) (true :: s) L B ↔ feas (-1) (List.map toOf (List.drop (i + 1) l)) s (L ||| (toOf l[i]).l) (B ||| 2 ^ (toOf l[i]).b) := ⟨fun h => h.2, fun h => ⟨hk, h⟩⟩
    have hval : val (toOf l[i] :: List.map toOf (List.drop (i + 1) l)) (true :: s) = (toOf l[i]).p + val (List.map toOf (List.drop (i + 1) l)) s := rfl
    rw [hval, ← Nat.add_assoc]
    by_cases hff : feas (-1) (List.map toOf (List.drop (i + 1) l)) s (L ||| (toOf l[i]).l) (B ||| 2 ^ (toOf l[i]).b)
    ·
     rw [if_pos (hf.2 hff)]; rw [if_pos hff] at ih; exact ih
    ·
     rw [if_neg (fun h => hff (hf.1 h))]; rw [if_neg hff] at ih; exact ih
   ·
    rw [if_neg (fun h => hk h.1)]
    refine Ev.step (f := fun k => kimberliteref05_Choice.l0 (k + 1) l (pre ++ (i : Int) :: idx ((i : Int) + 1) s) sum L B (pre.length : Int)) (fun k => rfl) ?_
    exact Ev.step (f := fun _ => some (0, false)) (fun k => by rw [hr k, if_neg hk]) (Ev.now _)
theorem ev_Choice (l : List S50) (hv : bValid l) (s : List Bool) (hs : s.length = l.length) : Ev (fun k => kimberliteref05_Choice.f k l (idx 0 s)) (if feas (-1) (l.map toOf) s 0 0 then ((val (l.map toOf) s : Nat) : Int) else 0, decide (feas (-1) (l.map toOf) s 0 0)) := by
 have h := ev_Choice_l l hv s 0 [] 0 0 0 (by omega) (by simp) (by simp) (by decide) (by decide) (by omega)
 by_cases c : feas (-1) (l.map toOf) s 0 0
 ·
  simpa [kimberliteref05_Choice.f, c] using h
 ·
  simpa [kimberliteref05_Choice.f, c] using h
theorem idx_app : ∀ (s t : List Bool) (i : Int), idx i (s ++ t) = idx i s ++ idx (i + s.length) t
 | [], t, i => by simp [idx]
 | true :: s, t, i => by simp only [List.cons_append, idx, idx_app s t (i + 1), List.length_cons]; rw [show i + 1 + (s.length : Int) = i + ((s.length + 1 : Nat) : Int) from by omega]
 | false :: s, t, i => by simp only [List.cons_append, idx, idx_app s t (i + 1), List.length_cons]; rw [show i + 1 + (s.length : Int) = i + ((s.length + 1 : Nat) : Int) from by omega]
theorem idx_len : ∀ (s : List Bool) (i : Int), (idx i s).length ≤ s.length
 | [], _ => by simp [idx]
 | true :: s, i => by have := idx_len s (i + 1); simp only [idx, List.length_cons]; omega
 | false :: s, i => by have := idx_len s (i + 1); simp only [idx, List.length_cons]; omega
theorem num_bit : ∀ (s : List Bool) (b : Bool) (r : List Bool), num (s ++ b :: r) / 2 ^ r.length % 2 = if b = true then 1 else 0
 | [], b, r => by
  have := num_lt r
  have h0 : 0 < 2 ^ r.length := Nat.pos_of_ne_zero (by intro h; omega)
  cases b with
  | true => simp only [List.nil_append, num, if_true]; rw [Nat.add_div_left _ h0, Nat.div_eq_of_lt this]
  | false => simp only [List.nil_append, num]; rw [Nat.div_eq_of_lt this]; rfl
 | c :: s, b, r => by
  have ih := num_bit s b r
  cases c with
  | true =>
   simp only [List.cons_append, num]
   have e : (s ++ b :: r).length = r.length + (s.length + 1) := by simp; omega
   rw [e, Nat.pow_add, Nat.mul_comm, Nat.add_comm, Nat.add_mul_div_right _ _ (Nat.pos_of_ne_zero (by have := num_lt r; intro h; omega)), Nat.pow_succ, Nat.add_mul_mod_self_right]
   exact ih
  | false => simpa only [List.cons_append, num] using ih
def ofNum : Nat → Nat → List Bool
 | 0, _ => []
 | n + 1, m => if 2 ^ n ≤ m then true :: ofNum n (m - 2 ^ n) else false :: ofNum n m
theorem ofNum_len : ∀ n m, (ofNum n m).length = n
 | 0, _ => rfl
 | n + 1, m => by simp only [ofNum]; split <;> simp [ofNum_len]
theorem num_ofNum : ∀ n m, m < 2 ^ n → num (ofNum n m) = m
 | 0, m, h => by simp at h; subst h; rfl
 | n + 1, m, h => by
  rw [Nat.pow_succ] at h
  simp only [ofNum]
  split
  ·
   simp only [num, ofNum_len]; rw [num_ofNum n _ (by omega)]; omega
  ·
   simp only [num]; exact num_ofNum n m (by omega)
theorem best_round (l : List S50) (hv : bValid l) (wo : Int) (best : List Int) (most : Int) (pre : List Bool) (b : Bool) (r : List Bool) (hn : (pre ++ b :: r).length = l.length) (i : Nat) (hi : pre.length = i) (tk : List Int) (htk : tk.length ≤ i) (L B : Nat) (hL : L < 4096) (hB : B < 256) (hlt : i < l.length) (k : Nat) :
  ∃ L' B' : Int, kimberliteref05_Best.l1 (k + 2) l wo best most (num (pre ++ b :: r) : Int) tk true L B (i : Int) =
   if b = false then kimberliteref05_Best.l1 k l wo best most (num (pre ++ b :: r) : Int) tk true L B ((i + 1 : Nat) : Int)
   else if nok wo L B (toOf l[i]) then kimberliteref05_Best.l1 k l wo best most (num (pre ++ b :: r) : Int) (tk ++ [(i : Int)]) true ((L ||| (toOf l[i]).l : Nat) : Int) ((B ||| 2 ^ (toOf l[i]).b : Nat) : Int) ((i + 1 : Nat) : Int)
   else kimberliteref05_Best.l1 k l wo best most (num (pre ++ b :: r) : Int) (tk ++ [(i : Int)]) false L' B' ((i + 1 : Nat) : Int) := by
 have ho := hv.2 l[i] (List.getElem_mem hlt)
 have hl16 := hv.1
 obtain ⟨k1, k2, k3, k4, k5⟩ := bOk_nok wo L B l[i] hL hB ho
 have hnl : num (pre ++ b :: r) < 2 ^ 16 := by have := num_lt (pre ++ b :: r); have h2 : 2 ^ (pre ++ b :: r).length ≤ 2 ^ 16 := Nat.pow_le_pow_right (by decide) (by omega); omega
 have ef0 : l[i].f0 = ((l[i].f0.toNat : Nat) : Int) := by omega
 have esh : shl .i64 1 l[i].f0 = ((2 ^ l[i].f0.toNat : Nat) : Int) := by rw [ef0, shl_pow _ (by omega)]; rfl
 have esr : Int.tmod (shr .i64 (B : Int) l[i].f0) 2 = ((B / 2 ^ l[i].f0.toNat % 2 : Nat) : Int) := by
  conv => lhs; rw [ef0]
  rw [shr_pow _ _ (by omega), tmod2]
 have k3' : bits .or .i64 (B : Int) ((2 ^ l[i].f0.toNat : Nat) : Int) = ((B ||| 2 ^ (toOf l[i]).b : Nat) : Int) := by rw [← k3, pow8 _ (by omega)]
 have e1 : bits .and .i64 (L : Int) l[i].f1 = ((L &&& (toOf l[i]).l : Nat) : Int) := by
  have : l[i].f1 = ((l[i].f1.toNat : Nat) : Int) := by omega
  conv => lhs; rw [this]
  rw [(bits63 L l[i].f1.toNat (by omega) (by omega)).1]; rfl
 have hrl : (r.length : Int) = (l.length : Int) - 1 - (i : Int) := by simp at hn; omega
 have ew : wrap64 (wrap64 ((l.length : Int) - 1) - (i : Int)) = (r.length : Int) := by unfold wrap64; omega
 have hr15 : r.length ≤ 62 := by simp at hn; omega
 have eb : Int.tmod (shr .i64 (num (pre ++ b :: r) : Int) (r.length : Int)) 2 = if b = true then 1 else 0 := by
  rw [shr_pow _ _ hr15, tmod2, num_bit pre b r]; split <;> rfl
 refine ⟨((L ||| (toOf l[i]).l : Nat) : Int), ((B ||| 2 ^ (toOf l[i]).b : Nat) : Int), ?_⟩
 simp only [kimberliteref05_Best.l1, kimberliteref05_Best.j2]
 rw [if_pos (by omega), if_pos trivial, ew, if_pos (by omega), eb, w64 i (by omega)]
 cases b with
 | false => simp
 | true =>
  rw [if_neg (show ¬ ((if true = true then (1 : Int) else 0) = 0) by decide), if_neg (show ¬ (true = false) by decide), if_pos (by omega), if_pos (by omega), rd_get l i hlt, esh, esr, bit_mod, k2, k3', e1]
  by_cases c0 : l[i].f0 = wo
  ·
   rw [if_pos c0, if_pos ho.1, if_pos (by omega), if_neg (fun h => h.1 (by simp only [toOf]; omega))]
  ·
   rw [if_neg c0]
   by_cases c1 : L &&& (toOf l[i]).l = 0
   ·
    rw [if_pos (by rw [c1]; rfl), if_pos ho.1, if_pos (by omega)]
    by_cases c2 : B.testBit l[i].f0.toNat = true
    ·
     rw [if_pos c2, if_neg (fun h => by have := h.2.2; simp only [toOf] at this; rw [c2] at this; cases this)]; rfl
    ·
     rw [if_neg c2, if_pos ⟨by simp only [toOf]; omega, c1, by simp only [toOf]; simpa using c2⟩]; rfl
   ·
    rw [if_neg (by omega), if_pos ho.1, if_pos (by omega), if_neg (fun h => c1 h.2.1)]
theorem Ev.step2 {α : Type} {g f : Nat → Option α} {r : α} (h : ∀ k, g (k + 2) = f k) (k : Ev f r) : Ev g r := by
 refine Ev.step (f := fun k => g (k + 1)) (fun _ => rfl) (Ev.step (f := f) (fun k => h k) k)
theorem ev_l1 (l : List S50) (hv : bValid l) (wo : Int) (best : List Int) (most : Int) (a : List Int × Int) : ∀ (s pre : List Bool) (i L B : Nat), (pre ++ s).length = l.length → pre.length = i → L < 4096 → B < 256 →
  (feas wo ((l.drop i).map toOf) s L B → feas (-1) (l.map toOf) (pre ++ s) 0 0) →
  (if feas wo ((l.drop i).map toOf) s L B then Ev (fun k => if ((val (l.map toOf) (pre ++ s) : Nat) : Int) > most then kimberliteref05_Best.l0 k l wo (idx 0 (pre ++ s)) ((val (l.map toOf) (pre ++ s) : Nat) : Int) (wrap64 ((num (pre ++ s) : Int) - 1)) else kimberliteref05_Best.l0 k l wo best most (wrap64 ((num (pre ++ s) : Int) - 1))) a
   else Ev (fun k => kimberliteref05_Best.l0 k l wo best most (wrap64 ((num (pre ++ s) : Int) - 1))) a) →
  Ev (fun k => kimberliteref05_Best.l1 k l wo best most (num (pre ++ s) : Int) (idx 0 pre) true L B (i : Int)) a
 | [], pre, i, L, B, hn, hi, hL, hB, hf, hr => by
  have hd : l.drop i = [] := List.drop_of_length_le (by simp at hn; omega)
  rw [hd] at hr hf
  rw [if_pos (by trivial)] at hr
  have hfe := hf (by trivial)
  rw [List.append_nil] at hr hn hfe ⊢
  have hc := ev_Choice l hv pre hn
  refine Ev.step2 (f := fun k => (kimberliteref05_Choice.f k l (idx 0 pre)).bind fun bt186 => (if bt186.1 > most then (kimberliteref05_Best.l0 k l wo (idx 0 pre) bt186.1 (wrap64 ((num pre : Int) - 1))) else (kimberliteref05_Best.l0 k l wo best most (wrap64 ((num pre : Int) - 1))))) (fun k => ?_) (Ev.bind hc ?_)
  ·
   simp only [kimberliteref05_Best.l1, kimberliteref05_Best.j2]
   rw [if_neg (by omega), if_neg (by simp)]; simp
  ·
   simp only [if_pos hfe]; exact hr
 | b :: r, pre, i, L, B, hn, hi, hL, hB, hf, hr => by
  have hlt : i < l.length := by simp at hn; omega
  have hd : l.drop i = l[i] :: l.drop (i + 1) := List.drop_eq_getElem_cons hlt
  have ho := hv.2 l[i] (List.getElem_mem hlt)
  obtain ⟨k1, k2, k3, k4, k5⟩ := bOk_nok wo L B l[i] hL hB ho
  have htk : (idx 0 pre).length ≤ i := by rw [← hi]; exact idx_len pre 0
  have hrd := fun k => best_round l hv wo best most pre b r hn i hi (idx 0 pre) htk L B hL hB hlt k
  rw [hd, List.map_cons] at hf hr
  have hpe : pre ++ b :: r = (pre ++ [b]) ++ r := by simp
  cases b with
  | false =>
   have ih := ev_l1 l hv wo best most a r (pre ++ [false]) (i + 1) L B (by rw [← hpe]; exact hn) (by simp; omega) hL hB (fun h => by rw [← hpe]; exact hf h) (by rw [← hpe]; exact hr)
   rw [← hpe] at ih
   have hx : idx 0 (pre ++ [false]) = idx 0 pre := by rw [idx_app]; simp [idx]
   rw [hx] at ih
   refine Ev.step2 (fun k => ?_) ih
   obtain ⟨L', B', e⟩ := hrd k
   rw [e, if_pos rfl]
  | true =>
   have hx : idx 0 (pre ++ [true]) = idx 0 pre ++ [(i : Int)] := by rw [idx_app]; simp [idx, hi]
   by_cases hk : nok wo L B (toOf l[i])
   ·
    have hff : feas wo (toOf l[i] :: List.map toOf (List.drop (i + 1) l)) (true :: r) L B ↔ feas wo (List.map toOf (List.drop (i + 1) l)) r (L ||| (toOf l[i]).l) (B ||| 2 ^ (toOf l[i]).b) := ⟨fun h => h.2, fun h => ⟨hk, h⟩⟩
    have ih := ev_l1 l hv wo best most a r (pre ++ [true]) (i + 1) (L ||| (toOf l[i]).l) (B ||| 2 ^ (toOf l[i]).b) (by rw [← hpe]; exact hn) (by simp; omega) k4 k5 (fun h => by rw [← hpe]; exact hf (hff.2 h)) (by
     rw [← hpe]
     by_cases c : feas wo (List.map toOf (List.drop (i + 1) l)) r (L ||| (toOf l[i]).l) (B ||| 2 ^ (toOf l[i]).b)
     ·
      rw [if_pos c]; rw [if_pos (hff.2 c)] at hr; exact hr
     ·
      rw [if_neg c]; rw [if_neg (fun h => c (hff.1 h))] at hr; exact hr)
    rw [← hpe, hx] at ih
    refine Ev.step2 (fun k => ?_) ih
    obtain ⟨L', B', e⟩ := hrd k
    rw [e, if_neg (by decide), if_pos hk]
   ·
    rw [if_neg (fun h => hk h.1)] at hr
    have hst : ∀ L' B' : Int, ∀ k, kimberliteref05_Best.l1 (k + 2) l wo best most (num (pre ++ true :: r) : Int) (idx 0 pre ++ [(i : Int)]) false L' B' ((i + 1 : Nat) : Int) = kimberliteref05_Best.l0 k l wo best most (wrap64 ((num (pre ++ true :: r) : Int) - 1)) := fun L' B' k => by
     simp only [kimberliteref05_Best.l1, kimberliteref05_Best.j2]
     by_cases c : ((i + 1 : Nat) : Int) < (l.length : Int)
     ·
      rw [if_pos c]; simp
     ·
      rw [if_neg c]; simp
    obtain ⟨K, hK⟩ := hr
    refine ⟨K + 4, fun k hk4 => ?_⟩
    obtain ⟨m, rfl⟩ : ∃ m, k = m + 2 + 2 := ⟨k - 4, by omega⟩
    obtain ⟨L', B', e⟩ := hrd (m + 2)
    dsimp only
    rw [e, if_neg (by decide), if_neg hk, hst]
    exact hK m (by omega)
end Go.Proofs.Ythfdjccdelbeeaa.PT
end
section
namespace Go.Proofs.Ythfdjccdelbeeaa.PT
open Go.RowKit Go.Proofs.YthfdjccdelbeeaaW.PrintWords Go.Proofs.YthfdjccdelbeeaaW.PrintLast Go.Proofs.YthfdjccdelbeeaaW.PrintMore
attribute [local go_sem] max2_int min2_int max_two min_two max_three min_three max_four min_four   -- for this text's walks alone
set_option linter.unusedVariables false
set_option linter.unusedSimpArgs false
def kimberlitelaw05_award.f (k : Nat) (l0_0 : List Int) (l0_1 : List Int) (a0_2 : Int) (l1_0 : List Int) (l1_1 : List Int) (a1_2 : Int) : Option (Bool) := (kimberlitelaw05_same.f k l0_0 l1_0).bind fun t242 => (if t242 = true then ((kimberlitelaw05_same.f k l0_1 l1_1).bind fun t243 => (if t243 = true then (some (a0_2 == a1_2)) else (some false))) else (some false))
theorem kimberlitelaw05_award.mono : ∀ a0 a1 a2 a3 a4 a5 k, LeO (kimberlitelaw05_award.f k a0 a1 a2 a3 a4 a5) (kimberlitelaw05_award.f (k + 1) a0 a1 a2 a3 a4 a5) := by
 intro a0 a1 a2 a3 a4 a5 k
 unfold kimberlitelaw05_award.f
 repeat' first
   | (with_reducible exact kimberlitelaw05_same.mono _ _ _)
   | (with_reducible exact LeO.refl _)
   | (with_reducible exact LeO.none _)
   | (with_reducible refine LeO.ite ?_ ?_)
   | (with_reducible refine LeO.bind ?_ (fun _ => ?_))
   | exact kimberlitelaw05_same.mono _ _ _
   | exact LeO.none _
   | refine LeO.ite ?_ ?_
   | refine LeO.bind ?_ (fun _ => ?_)
set_option maxHeartbeats 8000000 in
set_option maxRecDepth 100000 in
theorem kimberlitelaw05_award.calls (k : Nat) (A0_0 : Option Addr) (c0_0 : Nat) (l0_0 : List Int) (A0_1 : Option Addr) (c0_1 : Nat) (l0_1 : List Int) (a0_2 : Int) (A1_0 : Option Addr) (c1_0 : Nat) (l1_0 : List Int) (A1_1 : Option Addr) (c1_1 : Nat) (l1_1 : List Int) (a1_2 : Int) (r : Bool) (w : World) (hr0_0 : Kd.C (Kd.int .i64) w A0_0 l0_0.length l0_0) (hc0_0 : l0_0.length ≤ c0_0) (hr0_1 : Kd.C (Kd.int .i64) w A0_1 l0_1.length l0_1) (hc0_1 : l0_1.length ≤ c0_1) (hr1_0 : Kd.C (Kd.int .i64) w A1_0 l1_0.length l1_0) (hc1_0 : l1_0.length ≤ c1_0) (hr1_1 : Kd.C (Kd.int .i64) w A1_1 l1_1.length l1_1) (hc1_1 : l1_1.length ≤ c1_1) (h : kimberlitelaw05_award.f k l0_0 l0_1 a0_2 l1_0 l1_1 a1_2 = some r) :
  Calls Try.prog 27 #[.agg #[.slice A0_0 l0_0.length c0_0, .slice A0_1 l0_1.length c0_1, .int .i64 a0_2], .agg #[.slice A1_0 l1_0.length c1_0, .slice A1_1 l1_1.length c1_1, .int .i64 a1_2]] w fun e w' => e = .returned (.bool r) ∧ Below w.heap.size w w' := by
 have hu44 := Try.underlying44
 have HR0_0 := Aside0.mk hr0_0
 have HC0_0 := Aside0.mk hc0_0
 clear hr0_0 hc0_0
 have HR0_1 := Aside0.mk hr0_1
 have HC0_1 := Aside0.mk hc0_1
 clear hr0_1 hc0_1
 have HR1_0 := Aside0.mk hr1_0
 have HC1_0 := Aside0.mk hc1_0
 clear hr1_0 hc1_0
 have HR1_1 := Aside0.mk hr1_1
 have HC1_1 := Aside0.mk hc1_1
 clear hr1_1 hc1_1
 have HB := Aside0.mk (Below.refl w.heap.size w)
 have H : ((kimberlitelaw05_same.f k l0_0 l1_0).bind fun t242 => (if t242 = true then ((kimberlitelaw05_same.f k l0_1 l1_1).bind fun t243 => (if t243 = true then (some (a0_2 == a1_2)) else (some false))) else (some false))) = some r := h
 clear h
 replace H := Option.bind_eq_some_iff.mp H
 obtain ⟨t242, A30, H⟩ := H
 replace H : (if t242 = true then ((kimberlitelaw05_same.f k l0_1 l1_1).bind fun t243 => (if t243 = true then (some (a0_2 == a1_2)) else (some false))) else (some false)) = some r := H
 have A3 := Aside0.mk A30
 clear A30
 by_cases c4 : t242 = true
 ·
  subst c4
  have H1 : ((kimberlitelaw05_same.f k l0_1 l1_1).bind fun t243 => (if t243 = true then (some (a0_2 == a1_2)) else (some false))) = some r := by rw [if_pos rfl] at H; exact H
  clear H
  have H := H1
  clear H1
  replace H := Option.bind_eq_some_iff.mp H
  obtain ⟨t243, A50, H⟩ := H
  replace H : (if t243 = true then (some (a0_2 == a1_2)) else (some false)) = some r := H
  have A5 := Aside0.mk A50
  clear A50
  by_cases c6 : t243 = true
  ·
   subst c6
   have H1 : (some (a0_2 == a1_2)) = some r := by rw [if_pos rfl] at H; exact H
   clear H
   have H := H1
   clear H1
   obtain rfl := Option.some.inj H
   go_enter Try.func27, Try.ntmps27
   go_wp2_with (first | ((with_reducible refine gate_dst (N := 2) rfl ?_); refine box_event ?hg (N := 2) ?hd (cs := #[.slice A0_0 l0_0.length c0_0, .slice A0_1 l0_1.length c0_1, .int .i64 a0_2]) (t := 44) ?hr ?_; (case hd => rfl); (case hg => rfl); (case hr => first | (go_simp; done) | (go_simp; rfl)); intro gb240 hg w7 hbox hb; have n0_ := Aside0.mk (below_step (by repeat (first | (with_reducible first | exact HB.out | apply Zba | apply Zbn | apply Zbd) | exact HB.out)) hb); have n1_ := Aside0.mk (hbox); have n2_ := Aside0.mk ((by rw [hg]; exact (below_size (by repeat (first | (with_reducible first | exact HB.out | apply Zba | apply Zbn | apply Zbd) | exact HB.out))) : w.heap.size ≤ gb240)); have n3_ := Aside0.mk ((by rw [hg]; exact (below_size (by repeat (first | (with_reducible first | exact HB.out | apply Zba | apply Zbn | apply Zbd) | exact HB.out))) : w.heap.size ≤ gb240)); clear HB; have HB := n0_; have BK240 := n1_; have GW240 := n2_; have GE240 := n3_; clear n0_ n1_ n2_ n3_; clear hb hbox hg) | ((with_reducible refine gate_dst (N := 3) rfl ?_); refine box_event ?hg (N := 3) ?hd (cs := #[.slice A1_0 l1_0.length c1_0, .slice A1_1 l1_1.length c1_1, .int .i64 a1_2]) (t := 44) ?hr ?_; (case hd => rfl); (case hg => rfl); (case hr => first | (go_simp; done) | (go_simp; rfl)); intro gb241 hg w8 hbox hb; have n0_ := Aside0.mk (blk_below (g := gb240) (o := .cells #[.slice A0_0 l0_0.length c0_0, .slice A0_1 l0_1.length c0_1, .int .i64 a0_2] 44 (0, 0)) (by (with_reducible repeat (first | refine Zkn ?_ _ | refine Zkd ?_ | refine Zka ?_ _)); exact BK240.out) hb); have n1_ := Aside0.mk (below_step (by repeat (first | (with_reducible first | exact HB.out | apply Zba | apply Zbn | apply Zbd | refine below_set ?_ GE240.out) | exact HB.out)) hb); have n2_ := Aside0.mk (hbox); have n3_ := Aside0.mk ((by rw [hg]; exact (below_size (by repeat (first | (with_reducible first | exact HB.out | apply Zba | apply Zbn | apply Zbd | refine below_set ?_ GE240.out) | exact HB.out))) : w.heap.size ≤ gb241)); have n4_ := Aside0.mk ((by rw [hg]; exact (below_size (by repeat (first | (with_reducible first | exact HB.out | apply Zba | apply Zbn | apply Zbd | refine below_set ?_ GE240.out) | exact HB.out))) : w.heap.size ≤ gb241)); have n5_ := Aside0.mk ((by rw [hg]; exact Nat.ne_of_lt (blk_lt (g := gb240) (o := .cells #[.slice A0_0 l0_0.length c0_0, .slice A0_1 l0_1.length c0_1, .int .i64 a0_2] 44 (0, 0)) (by (with_reducible repeat (first | refine Zkn ?_ _ | refine Zkd ?_ | refine Zka ?_ _)); exact BK240.out)) : gb240 ≠ gb241)); have n6_ := Aside0.mk ((by rw [hg]; exact Nat.ne_of_gt (blk_lt (g := gb240) (o := .cells #[.slice A0_0 l0_0.length c0_0, .slice A0_1 l0_1.length c0_1, .int .i64 a0_2] 44 (0, 0)) (by (with_reducible repeat (first | refine Zkn ?_ _ | refine Zkd ?_ | refine Zka ?_ _)); exact BK240.out)) : gb241 ≠ gb240)); clear BK240; clear HB; have BK240 := n0_; have HB := n1_; have BK241 := n2_; have GW241 := n3_; have GE241 := n4_; have NB240_241 := n5_; have NB241_240 := n6_; clear n0_ n1_ n2_ n3_ n4_ n5_ n6_; clear hb hbox hg; have hnb9 := NB240_241.out; have hnc9 := NB241_240.out; have hcz10_0 : w8.cell? ⟨gb240, 0, none⟩ = some (.slice A0_0 l0_0.length c0_0) := (blk_cell BK240.out 0).trans rfl; have hcz10_1 : w8.cell? ⟨gb240, 1, none⟩ = some (.slice A0_1 l0_1.length c0_1) := (blk_cell BK240.out 1).trans rfl; have hcz10_2 : w8.cell? ⟨gb240, 2, none⟩ = some (.int .i64 a0_2) := (blk_cell BK240.out 2).trans rfl; have hfz10_0 := blk_frozen BK240.out 0; have hfz10_1 := blk_frozen BK240.out 1; have hfz10_2 := blk_frozen BK240.out 2; have hcz11_0 : w8.cell? ⟨gb241, 0, none⟩ = some (.slice A1_0 l1_0.length c1_0) := (blk_cell BK241.out 0).trans rfl; have hcz11_1 : w8.cell? ⟨gb241, 1, none⟩ = some (.slice A1_1 l1_1.length c1_1) := (blk_cell BK241.out 1).trans rfl; have hcz11_2 : w8.cell? ⟨gb241, 2, none⟩ = some (.int .i64 a1_2) := (blk_cell BK241.out 2).trans rfl; have hfz11_0 := blk_frozen BK241.out 0; have hfz11_1 := blk_frozen BK241.out 1; have hfz11_2 := blk_frozen BK241.out 2) | ((with_reducible refine gate_callee (f := 22) rfl ?_); refine goesL_ (some 9) rfl rfl Try.func22 (by kernel_rfl) rfl #[.slice A0_0 l0_0.length c0_0, .slice A1_0 l1_0.length c1_0] rfl (by (try simp only [List.map_toArray, List.map_cons, List.map_nil]); first | done | rfl | (simp only [List.length_drop, List.length_take]; rfl)) ?_; (with_reducible refine (kimberlitelaw05_same.calls k _ _ l0_0 _ _ l1_0 true _ ?side1 ?side2 ?side3 ?side4 A3.out).mono ?_); (case side1 => repeat (first | exact (Kd.C_below HR0_0.out HB.out) | (with_reducible refine Kd.C_alloc ?_ _) | (with_reducible refine Kd.C_drewN ?_ _) | (with_reducible refine Kd.C_drew ?_))); (case side2 => exact HC0_0.out); (case side3 => repeat (first | exact (Kd.C_below HR1_0.out HB.out) | (with_reducible refine Kd.C_alloc ?_ _) | (with_reducible refine Kd.C_drewN ?_ _) | (with_reducible refine Kd.C_drew ?_))); (case side4 => exact HC1_0.out); rintro e w' ⟨rfl, ⟨nd, rfl⟩⟩; refine ⟨_, rfl, ?_⟩) | (go_at_call 22; (with_reducible refine (kimberlitelaw05_same.calls k _ _ l0_1 _ _ l1_1 true _ ?side1 ?side2 ?side3 ?side4 A5.out).mono ?_); (case side1 => repeat (first | exact (Kd.C_below HR0_1.out (by repeat (first | (with_reducible first | exact HB.out | apply Zba | apply Zbn | apply Zbd | refine below_set ?_ GE240.out | refine below_set ?_ GE241.out) | exact HB.out))) | (with_reducible refine Kd.C_alloc ?_ _) | (with_reducible refine Kd.C_drewN ?_ _) | (with_reducible refine Kd.C_drew ?_))); (case side2 => exact HC0_1.out); (case side3 => repeat (first | exact (Kd.C_below HR1_1.out (by repeat (first | (with_reducible first | exact HB.out | apply Zba | apply Zbn | apply Zbd | refine below_set ?_ GE240.out | refine below_set ?_ GE241.out) | exact HB.out))) | (with_reducible refine Kd.C_alloc ?_ _) | (with_reducible refine Kd.C_drewN ?_ _) | (with_reducible refine Kd.C_drew ?_))); (case side4 => exact HC1_1.out); rintro e w' ⟨rfl, ⟨nd, rfl⟩⟩))
   go_ret
   exact ⟨by first | rfl | (simp [errW_none, errW_some] <;> rfl) | (simp [*, errW_none, errW_some] <;> rfl), by repeat (first | (with_reducible first | exact HB.out | apply Zba | apply Zbn | apply Zbd | refine below_set ?_ GE240.out | refine below_set ?_ GE241.out) | exact HB.out)⟩
  ·
   replace c6 := Bool.eq_false_iff.mpr c6
   subst c6
   have H1 : (some false) = some r := by rw [if_neg (show ¬ (false = true) by decide)] at H; exact H
   clear H
   have H := H1
   clear H1
   obtain rfl := Option.some.inj H
   go_enter Try.func27, Try.ntmps27
   go_wp2_with (first | ((with_reducible refine gate_dst (N := 2) rfl ?_); refine box_event ?hg (N := 2) ?hd (cs := #[.slice A0_0 l0_0.length c0_0, .slice A0_1 l0_1.length c0_1, .int .i64 a0_2]) (t := 44) ?hr ?_; (case hd => rfl); (case hg => rfl); (case hr => first | (go_simp; done) | (go_simp; rfl)); intro gb240 hg w12 hbox hb; have n0_ := Aside0.mk (below_step (by repeat (first | (with_reducible first | exact HB.out | apply Zba | apply Zbn | apply Zbd) | exact HB.out)) hb); have n1_ := Aside0.mk (hbox); have n2_ := Aside0.mk ((by rw [hg]; exact (below_size (by repeat (first | (with_reducible first | exact HB.out | apply Zba | apply Zbn | apply Zbd) | exact HB.out))) : w.heap.size ≤ gb240)); have n3_ := Aside0.mk ((by rw [hg]; exact (below_size (by repeat (first | (with_reducible first | exact HB.out | apply Zba | apply Zbn | apply Zbd) | exact HB.out))) : w.heap.size ≤ gb240)); clear HB; have HB := n0_; have BK240 := n1_; have GW240 := n2_; have GE240 := n3_; clear n0_ n1_ n2_ n3_; clear hb hbox hg) | ((with_reducible refine gate_dst (N := 3) rfl ?_); refine box_event ?hg (N := 3) ?hd (cs := #[.slice A1_0 l1_0.length c1_0, .slice A1_1 l1_1.length c1_1, .int .i64 a1_2]) (t := 44) ?hr ?_; (case hd => rfl); (case hg => rfl); (case hr => first | (go_simp; done) | (go_simp; rfl)); intro gb241 hg w13 hbox hb; have n0_ := Aside0.mk (blk_below (g := gb240) (o := .cells #[.slice A0_0 l0_0.length c0_0, .slice A0_1 l0_1.length c0_1, .int .i64 a0_2] 44 (0, 0)) (by (with_reducible repeat (first | refine Zkn ?_ _ | refine Zkd ?_ | refine Zka ?_ _)); exact BK240.out) hb); have n1_ := Aside0.mk (below_step (by repeat (first | (with_reducible first | exact HB.out | apply Zba | apply Zbn | apply Zbd | refine below_set ?_ GE240.out) | exact HB.out)) hb); have n2_ := Aside0.mk (hbox); have n3_ := Aside0.mk ((by rw [hg]; exact (below_size (by repeat (first | (with_reducible first | exact HB.out | apply Zba | apply Zbn | apply Zbd | refine below_set ?_ GE240.out) | exact HB.out))) : w.heap.size ≤ gb241)); have n4_ := Aside0.mk ((by rw [hg]; exact (below_size (by repeat (first | (with_reducible first | exact HB.out | apply Zba | apply Zbn | apply Zbd | refine below_set ?_ GE240.out) | exact HB.out))) : w.heap.size ≤ gb241)); have n5_ := Aside0.mk ((by rw [hg]; exact Nat.ne_of_lt (blk_lt (g := gb240) (o := .cells #[.slice A0_0 l0_0.length c0_0, .slice A0_1 l0_1.length c0_1, .int .i64 a0_2] 44 (0, 0)) (by (with_reducible repeat (first | refine Zkn ?_ _ | refine Zkd ?_ | refine Zka ?_ _)); exact BK240.out)) : gb240 ≠ gb241)); have n6_ := Aside0.mk ((by rw [hg]; exact Nat.ne_of_gt (blk_lt (g := gb240) (o := .cells #[.slice A0_0 l0_0.length c0_0, .slice A0_1 l0_1.length c0_1, .int .i64 a0_2] 44 (0, 0)) (by (with_reducible repeat (first | refine Zkn ?_ _ | refine Zkd ?_ | refine Zka ?_ _)); exact BK240.out)) : gb241 ≠ gb240)); clear BK240; clear HB; have BK240 := n0_; have HB := n1_; have BK241 := n2_; have GW241 := n3_; have GE241 := n4_; have NB240_241 := n5_; have NB241_240 := n6_; clear n0_ n1_ n2_ n3_ n4_ n5_ n6_; clear hb hbox hg; have hnb14 := NB240_241.out; have hnc14 := NB241_240.out; have hcz15_0 : w13.cell? ⟨gb240, 0, none⟩ = some (.slice A0_0 l0_0.length c0_0) := (blk_cell BK240.out 0).trans rfl; have hcz15_1 : w13.cell? ⟨gb240, 1, none⟩ = some (.slice A0_1 l0_1.length c0_1) := (blk_cell BK240.out 1).trans rfl; have hcz15_2 : w13.cell? ⟨gb240, 2, none⟩ = some (.int .i64 a0_2) := (blk_cell BK240.out 2).trans rfl; have hfz15_0 := blk_frozen BK240.out 0; have hfz15_1 := blk_frozen BK240.out 1; have hfz15_2 := blk_frozen BK240.out 2; have hcz16_0 : w13.cell? ⟨gb241, 0, none⟩ = some (.slice A1_0 l1_0.length c1_0) := (blk_cell BK241.out 0).trans rfl; have hcz16_1 : w13.cell? ⟨gb241, 1, none⟩ = some (.slice A1_1 l1_1.length c1_1) := (blk_cell BK241.out 1).trans rfl; have hcz16_2 : w13.cell? ⟨gb241, 2, none⟩ = some (.int .i64 a1_2) := (blk_cell BK241.out 2).trans rfl; have hfz16_0 := blk_frozen BK241.out 0; have hfz16_1 := blk_frozen BK241.out 1; have hfz16_2 := blk_frozen BK241.out 2) | ((with_reducible refine gate_callee (f := 22) rfl ?_); refine goesL_ (some 9) rfl rfl Try.func22 (by kernel_rfl) rfl #[.slice A0_0 l0_0.length c0_0, .slice A1_0 l1_0.length c1_0] rfl (by (try simp only [List.map_toArray, List.map_cons, List.map_nil]); first | done | rfl | (simp only [List.length_drop, List.length_take]; rfl)) ?_; (with_reducible refine (kimberlitelaw05_same.calls k _ _ l0_0 _ _ l1_0 true _ ?side1 ?side2 ?side3 ?side4 A3.out).mono ?_); (case side1 => repeat (first | exact (Kd.C_below HR0_0.out HB.out) | (with_reducible refine Kd.C_alloc ?_ _) | (with_reducible refine Kd.C_drewN ?_ _) | (with_reducible refine Kd.C_drew ?_))); (case side2 => exact HC0_0.out); (case side3 => repeat (first | exact (Kd.C_below HR1_0.out HB.out) | (with_reducible refine Kd.C_alloc ?_ _) | (with_reducible refine Kd.C_drewN ?_ _) | (with_reducible refine Kd.C_drew ?_))); (case side4 => exact HC1_0.out); rintro e w' ⟨rfl, ⟨nd, rfl⟩⟩; refine ⟨_, rfl, ?_⟩) | (go_at_call 22; (with_reducible refine (kimberlitelaw05_same.calls k _ _ l0_1 _ _ l1_1 false _ ?side1 ?side2 ?side3 ?side4 A5.out).mono ?_); (case side1 => repeat (first | exact (Kd.C_below HR0_1.out (by repeat (first | (with_reducible first | exact HB.out | apply Zba | apply Zbn | apply Zbd | refine below_set ?_ GE240.out | refine below_set ?_ GE241.out) | exact HB.out))) | (with_reducible refine Kd.C_alloc ?_ _) | (with_reducible refine Kd.C_drewN ?_ _) | (with_reducible refine Kd.C_drew ?_))); (case side2 => exact HC0_1.out); (case side3 => repeat (first | exact (Kd.C_below HR1_1.out (by repeat (first | (with_reducible first | exact HB.out | apply Zba | apply Zbn | apply Zbd | refine below_set ?_ GE240.out | refine below_set ?_ GE241.out) | exact HB.out))) | (with_reducible refine Kd.C_alloc ?_ _) | (with_reducible refine Kd.C_drewN ?_ _) | (with_reducible refine Kd.C_drew ?_))); (case side4 => exact HC1_1.out); rintro e w' ⟨rfl, ⟨nd, rfl⟩⟩))
   go_ret
   exact ⟨by first | rfl | (simp [errW_none, errW_some] <;> rfl) | (simp [*, errW_none, errW_some] <;> rfl), by repeat (first | (with_reducible first | exact HB.out | apply Zba | apply Zbn | apply Zbd | refine below_set ?_ GE240.out | refine below_set ?_ GE241.out) | exact HB.out)⟩
 ·
  replace c4 := Bool.eq_false_iff.mpr c4
  subst c4
  have H1 : (some false) = some r := by rw [if_neg (show ¬ (false = true) by decide)] at H; exact H
  clear H
  have H := H1
  clear H1
  obtain rfl := Option.some.inj H
  go_enter Try.func27, Try.ntmps27
  go_wp2_with (first | ((with_reducible refine gate_dst (N := 2) rfl ?_); refine box_event ?hg (N := 2) ?hd (cs := #[.slice A0_0 l0_0.length c0_0, .slice A0_1 l0_1.length c0_1, .int .i64 a0_2]) (t := 44) ?hr ?_; (case hd => rfl); (case hg => rfl); (case hr => first | (go_simp; done) | (go_simp; rfl)); intro gb240 hg w17 hbox hb; have n0_ := Aside0.mk (below_step (by repeat (first | (with_reducible first | exact HB.out | apply Zba | apply Zbn | apply Zbd) | exact HB.out)) hb); have n1_ := Aside0.mk (hbox); have n2_ := Aside0.mk ((by rw [hg]; exact (below_size (by repeat (first | (with_reducible first | exact HB.out | apply Zba | apply Zbn | apply Zbd) | exact HB.out))) : w.heap.size ≤ gb240)); have n3_ := Aside0.mk ((by rw [hg]; exact (below_size (by repeat (first | (with_reducible first | exact HB.out | apply Zba | apply Zbn | apply Zbd) | exact HB.out))) : w.heap.size ≤ gb240)); clear HB; have HB := n0_; have BK240 := n1_; have GW240 := n2_; have GE240 := n3_; clear n0_ n1_ n2_ n3_; clear hb hbox hg) | ((with_reducible refine gate_dst (N := 3) rfl ?_); refine box_event ?hg (N := 3) ?hd (cs := #[.slice A1_0 l1_0.length c1_0, .slice A1_1 l1_1.length c1_1, .int .i64 a1_2]) (t := 44) ?hr ?_; (case hd => rfl); (case hg => rfl); (case hr => first | (go_simp; done) | (go_simp; rfl)); intro gb241 hg w18 hbox hb; have n0_ := Aside0.mk (blk_below (g := gb240) (o := .cells #[.slice A0_0 l0_0.length c0_0, .slice A0_1 l0_1.length c0_1, .int .i64 a0_2] 44 (0, 0)) (by (with_reducible repeat (first | refine Zkn ?_ _ | refine Zkd ?_ | refine Zka ?_ _)); exact BK240.out) hb); have n1_ := Aside0.mk (below_step (by repeat (first | (with_reducible first | exact HB.out | apply Zba | apply Zbn | apply Zbd | refine below_set ?_ GE240.out) | exact HB.out)) hb); have n2_ := Aside0.mk (hbox); have n3_ := Aside0.mk ((by rw [hg]; exact (below_size (by repeat (first | (with_reducible first | exact HB.out | apply Zba | apply Zbn | apply Zbd | refine below_set ?_ GE240.out) | exact HB.out))) : w.heap.size ≤ gb241)); have n4_ := Aside0.mk ((by rw [hg]; exact (below_size (by repeat (first | (with_reducible first | exact HB.out | apply Zba | apply Zbn | apply Zbd | refine below_set ?_ GE240.out) | exact HB.out))) : w.heap.size ≤ gb241)); have n5_ := Aside0.mk ((by rw [hg]; exact Nat.ne_of_lt (blk_lt (g := gb240) (o := .cells #[.slice A0_0 l0_0.length c0_0, .slice A0_1 l0_1.length c0_1, .int .i64 a0_2] 44 (0, 0)) (by (with_reducible repeat (first | refine Zkn ?_ _ | refine Zkd ?_ | refine Zka ?_ _)); exact BK240.out)) : gb240 ≠ gb241)); have n6_ := Aside0.mk ((by rw [hg]; exact Nat.ne_of_gt (blk_lt (g := gb240) (o := .cells #[.slice A0_0 l0_0.length c0_0, .slice A0_1 l0_1.length c0_1, .int .i64 a0_2] 44 (0, 0)) (by (with_reducible repeat (first | refine Zkn ?_ _ | refine Zkd ?_ | refine Zka ?_ _)); exact BK240.out)) : gb241 ≠ gb240)); clear BK240; clear HB; have BK240 := n0_; have HB := n1_; have BK241 := n2_; have GW241 := n3_; have GE241 := n4_; have NB240_241 := n5_; have NB241_240 := n6_; clear n0_ n1_ n2_ n3_ n4_ n5_ n6_; clear hb hbox hg; have hnb19 := NB240_241.out; have hnc19 := NB241_240.out; have hcz20_0 : w18.cell? ⟨gb240, 0, none⟩ = some (.slice A0_0 l0_0.length c0_0) := (blk_cell BK240.out 0).trans rfl; have hcz20_1 : w18.cell? ⟨gb240, 1, none⟩ = some (.slice A0_1 l0_1.length c0_1) := (blk_cell BK240.out 1).trans rfl; have hcz20_2 : w18.cell? ⟨gb240, 2, none⟩ = some (.int .i64 a0_2) := (blk_cell BK240.out 2).trans rfl; have hfz20_0 := blk_frozen BK240.out 0; have hfz20_1 := blk_frozen BK240.out 1; have hfz20_2 := blk_frozen BK240.out 2; have hcz21_0 : w18.cell? ⟨gb241, 0, none⟩ = some (.slice A1_0 l1_0.length c1_0) := (blk_cell BK241.out 0).trans rfl; have hcz21_1 : w18.cell? ⟨gb241, 1, none⟩ = some (.slice A1_1 l1_1.length c1_1) := (blk_cell BK241.out 1).trans rfl; have hcz21_2 : w18.cell? ⟨gb241, 2, none⟩ = some (.int .i64 a1_2) := (blk_cell BK241.out 2).trans rfl; have hfz21_0 := blk_frozen BK241.out 0; have hfz21_1 := blk_frozen BK241.out 1; have hfz21_2 := blk_frozen BK241.out 2) | ((with_reducible refine gate_callee (f := 22) rfl ?_); refine goesL_ (some 9) rfl rfl Try.func22 (by kernel_rfl) rfl #[.slice A0_0 l0_0.length c0_0, .slice A1_0 l1_0.length c1_0] rfl (by (try simp only [List.map_toArray, List.map_cons, List.map_nil]); first | done | rfl | (simp only [List.length_drop, List.length_take]; rfl)) ?_; (with_reducible refine (kimberlitelaw05_same.calls k _ _ l0_0 _ _ l1_0 false _ ?side1 ?side2 ?side3 ?side4 A3.out).mono ?_); (case side1 => repeat (first | exact (Kd.C_below HR0_0.out HB.out) | (with_reducible refine Kd.C_alloc ?_ _) | (with_reducible refine Kd.C_drewN ?_ _) | (with_reducible refine Kd.C_drew ?_))); (case side2 => exact HC0_0.out); (case side3 => repeat (first | exact (Kd.C_below HR1_0.out HB.out) | (with_reducible refine Kd.C_alloc ?_ _) | (with_reducible refine Kd.C_drewN ?_ _) | (with_reducible refine Kd.C_drew ?_))); (case side4 => exact HC1_0.out); rintro e w' ⟨rfl, ⟨nd, rfl⟩⟩; refine ⟨_, rfl, ?_⟩))
  go_ret
  exact ⟨by first | rfl | (simp [errW_none, errW_some] <;> rfl) | (simp [*, errW_none, errW_some] <;> rfl), by repeat (first | (with_reducible first | exact HB.out | apply Zba | apply Zbn | apply Zbd | refine below_set ?_ GE240.out | refine below_set ?_ GE241.out) | exact HB.out)⟩
end Go.Proofs.Ythfdjccdelbeeaa.PT
end
section
namespace Go.Proofs.Ythfdjccdelbeeaa.PT
open Go.RowKit Go.Proofs.YthfdjccdelbeeaaW.PrintWords Go.Proofs.YthfdjccdelbeeaaW.PrintLast Go.Proofs.YthfdjccdelbeeaaW.PrintMore Go.Proofs.Ythfdjccdelbeeaa.TPl
set_option linter.unusedVariables false
def BInvP (wo : Int) (os : List Of) (m : Nat) (best : List Int) (most : Int) : Prop :=
 (best = [] ∧ most = -1 ∧ ∀ t, feas wo os t 0 0 → num t < m) ∨ ∃ s, feas wo os s 0 0 ∧ m ≤ num s ∧ best = idx 0 s ∧ most = ((val os s : Nat) : Int) ∧ ∀ t, feas wo os t 0 0 → m ≤ num t → val os t < val os s ∨ (val os t = val os s ∧ num t ≤ num s)
theorem ev_l0 (l : List S50) (hv : bValid l) (wo : Int) (sb : List Bool) (hb : IsBest wo (l.map toOf) 0 0 sb) : ∀ (m : Nat) (best : List Int) (most : Int), m ≤ 2 ^ l.length → BInvP wo (l.map toOf) m best most →
  Ev (fun k => kimberliteref05_Best.l0 k l wo best most ((m : Int) - 1)) (idx 0 sb, ((val (l.map toOf) sb : Nat) : Int))
 | 0, best, most, _, hI => by
  rcases hI with ⟨_, _, h⟩ | ⟨s, hs, _, rfl, rfl, h⟩
  ·
   exact absurd (h _ (feas_none wo (l.map toOf) 0 0)) (by omega)
  ·
   have : s = sb := IsBest.uniq ⟨hs, fun t ht => h t ht (Nat.zero_le _)⟩ hb
   subst this
   refine Ev.here fun k => ?_
   simp only [kimberliteref05_Best.l0]
   rw [if_neg (by omega)]
 | m + 1, best, most, hm, hI => by
  have hl16 := hv.1
  have h16 : 2 ^ l.length ≤ 2 ^ 16 := Nat.pow_le_pow_right (by decide) hl16
  have hsl := ofNum_len l.length m
  have hsn := num_ofNum l.length m (by omega)
  generalize hS : ofNum l.length m = s at hsl hsn
  have hw : wrap64 ((num ([] ++ s) : Int) - 1) = (m : Int) - 1 := by rw [List.nil_append, hsn]; unfold wrap64; omega
  refine Ev.step (f := fun k => kimberliteref05_Best.l1 k l wo best most (num ([] ++ s) : Int) (idx 0 []) true 0 0 ((0 : Nat) : Int)) (fun k => ?_) ?_
  ·
   simp only [kimberliteref05_Best.l0]
   rw [if_pos (by omega), List.nil_append, hsn, show ((m + 1 : Nat) : Int) - 1 = (m : Int) from by omega]; rfl
  ·
   refine ev_l1 l hv wo best most _ s [] 0 0 0 (by simpa using hsl) rfl (by decide) (by decide) (fun h => by simpa using feas_any wo _ _ _ _ h) ?_
   rw [hw]
   simp only [List.drop_zero, List.nil_append]
   have uniq : ∀ t, feas wo (l.map toOf) t 0 0 → num t = m → t = s := fun t ht he => num_inj _ _ (by rw [feas_len _ _ _ _ _ ht, hsl]; simp) (by rw [he, hsn])
   by_cases c : feas wo (l.map toOf) s 0 0
   ·
    rw [if_pos c]
    have hyes : ∀ most', BInvP wo (l.map toOf) m (idx 0 s) most' → most' = ((val (l.map toOf) s : Nat) : Int) → Ev (fun k => kimberliteref05_Best.l0 k l wo (idx 0 s) ((val (l.map toOf) s : Nat) : Int) ((m : Int) - 1)) (idx 0 sb, ((val (l.map toOf) sb : Nat) : Int)) := fun most' h e => by
     subst e; exact ev_l0 l hv wo sb hb m _ _ (by omega) h
    by_cases g : ((val (l.map toOf) s : Nat) : Int) > most
    ·
     simp only [if_pos g]
     refine hyes _ (Or.inr ⟨s, c, by omega, rfl, rfl, fun t ht hmt => ?_⟩) rfl
     by_cases e : num t = m
     ·
      rw [uniq t ht e]; right; exact ⟨rfl, Nat.le_refl _⟩
     ·
      rcases hI with ⟨_, _, h⟩ | ⟨s', hs', _, _, rfl, h⟩
      ·
       have := h t ht; omega
      ·
       have := h t ht (by omega); omega
    ·
     simp only [if_neg g]
     refine ev_l0 l hv wo sb hb m _ _ (by omega) ?_
     rcases hI with ⟨_, rfl, h⟩ | ⟨s', hs', hn', rfl, rfl, h⟩
     ·
      exact absurd g (by omega)
     ·
      refine Or.inr ⟨s', hs', by omega, rfl, rfl, fun t ht hmt => ?_⟩
      by_cases e : num t = m
      ·
       rw [uniq t ht e, hsn]; omega
      ·
       exact h t ht (by omega)
   ·
    rw [if_neg c]
    refine ev_l0 l hv wo sb hb m _ _ (by omega) ?_
    rcases hI with ⟨e1, e2, h⟩ | ⟨s', hs', hn', e1, e2, h⟩
    ·
     refine Or.inl ⟨e1, e2, fun t ht => ?_⟩
     have := h t ht
     by_cases e : num t = m
     ·
      exact absurd (uniq t ht e ▸ ht) c
     ·
      omega
    ·
     refine Or.inr ⟨s', hs', by omega, e1, e2, fun t ht hmt => ?_⟩
     by_cases e : num t = m
     ·
      exact absurd (uniq t ht e ▸ ht) c
     ·
      exact h t ht (by omega)
theorem best_both (l : List S50) (hv : bValid l) (wo : Int) : ∃ s, IsBest wo (l.map toOf) 0 0 s ∧ tender_best.f l wo = some (idx 0 s, ((val (l.map toOf) s : Nat) : Int)) ∧ Ev (fun k => kimberliteref05_Best.f k l wo) (idx 0 s, ((val (l.map toOf) s : Nat) : Int)) := by
 obtain ⟨s, hs, e⟩ := best_spec l wo hv
 refine ⟨s, hs, e, ?_⟩
 have hl16 := hv.1
 have h16 : 2 ^ l.length ≤ 2 ^ 16 := Nat.pow_le_pow_right (by decide) hl16
 have h0 : 0 < 2 ^ l.length := Nat.pow_pos (by decide)
 have h := ev_l0 l hv wo s hs (2 ^ l.length) [] (-1) (Nat.le_refl _) (Or.inl ⟨rfl, rfl, fun t ht => by have := num_lt t; rw [feas_len _ _ _ _ _ ht] at this; simpa using this⟩)
 refine Ev.congr (fun k => ?_) h
 simp only [kimberliteref05_Best.f]
 rw [shl_pow _ (by omega)]
 congr 1
 generalize 2 ^ l.length = M at *
 unfold wrap64; omega
theorem ev_same_l (a b : List Int) (hab : a.length = b.length) (hb : a.length < 1000000) : ∀ (d i : Nat), i + d = a.length → Ev (fun k => kimberlitelaw05_same.l0 k a b (i : Int)) (a.drop i == b.drop i)
 | 0, i, h => Ev.here fun k => by
   simp only [kimberlitelaw05_same.l0]
   rw [if_neg (by omega), List.drop_of_length_le (by omega), List.drop_of_length_le (by omega)]; rfl
 | d + 1, i, h => by
   have hi : i < a.length := by omega
   have hi' : i < b.length := by omega
   have ih := ev_same_l a b hab hb d (i + 1) (by omega)
   have hst : ∀ k, kimberlitelaw05_same.l0 (k + 1) a b (i : Int) = if a[i] = b[i] then kimberlitelaw05_same.l0 k a b ((i + 1 : Nat) : Int) else some false := fun k => by
    simp only [kimberlitelaw05_same.l0]
    rw [if_pos (by omega), if_pos (by omega), if_pos (by omega), w64 i (by omega)]
    simp [rd, hi, hi']
   have hc : (a.drop i == b.drop i) = (a[i] == b[i] && a.drop (i + 1) == b.drop (i + 1)) := by rw [List.drop_eq_getElem_cons hi, List.drop_eq_getElem_cons hi']; rfl
   rw [hc]
   by_cases c : a[i] = b[i]
   ·
    refine Ev.step (fun k => by rw [hst k, if_pos c]) ?_
    rw [c, beq_self_eq_true, Bool.true_and]; exact ih
   ·
    rw [beq_eq_false_iff_ne.2 c, Bool.false_and]
    exact Ev.here fun k => by rw [hst k, if_neg c]
theorem ev_same (a b : List Int) (h : a.length < 1000000) : Ev (fun k => kimberlitelaw05_same.f k a b) (a == b) := by
 by_cases hl : a.length = b.length
 ·
  have := ev_same_l a b hl h a.length 0 (by omega)
  simp only [List.drop_zero] at this
  exact Ev.congr (fun k => by simp only [kimberlitelaw05_same.f]; rw [if_pos (by omega)]; rfl) this
 ·
  have : (a == b) = false := by rw [beq_eq_false_iff_ne]; intro e; exact hl (by rw [e])
  rw [this]
  exact ⟨0, fun k _ => by simp only [kimberlitelaw05_same.f]; rw [if_neg (by omega)]⟩
theorem ev_award (a b : List Int) (x : Int) (a' b' : List Int) (x' : Int) (h : a.length < 1000000) (h' : b.length < 1000000) : Ev (fun k => kimberlitelaw05_award.f k a b x a' b' x') (a == a' && (b == b' && x == x')) := by
 unfold kimberlitelaw05_award.f
 refine Ev.bind (ev_same a a' h) ?_
 cases h1 : (a == a') with
 | false => simpa using Ev.now false
 | true =>
  simp only [if_true, Bool.true_and]
  refine Ev.bind (ev_same b b' h') ?_
  cases h2 : (b == b') with
  | false => simpa using Ev.now false
  | true => simpa using Ev.now (x == x')
theorem ev_BestOk (lots : Int) (l : List S50) (hv : Vld lots l) : ∃ s, IsBest (-1) (l.map toOf) 0 0 s ∧ tender_best.f l (-1) = some (idx 0 s, ((val (l.map toOf) s : Nat) : Int)) ∧ Ev (fun k => tender_Best.f k lots l) (idx 0 s, ((val (l.map toOf) s : Nat) : Int), 0) := by
 obtain ⟨s, hs, e, _⟩ := best_both l hv.bv (-1)
 refine ⟨s, hs, e, ?_⟩
 unfold tender_Best.f
 have hc := ev_checked lots l
 rw [errS_zero.2 hv] at hc
 refine Ev.bind hc ?_
 simp only [if_true, e]
 exact Ev.now _
theorem idx_mem : ∀ (s : List Bool) (i : Nat) (x : Int), x ∈ idx (i : Int) s → ∃ j : Nat, x = (j : Int) ∧ i ≤ j ∧ j < i + s.length ∧ s[j - i]? = some true
 | [], i, x, h => by simp [idx] at h
 | true :: s, i, x, h => by
  simp only [idx, List.mem_cons] at h
  rcases h with rfl | h
  ·
   exact ⟨i, rfl, Nat.le_refl _, by simp, by simp⟩
  ·
   rw [show (i : Int) + 1 = ((i + 1 : Nat) : Int) from by omega] at h
   obtain ⟨j, e, h1, h2, h3⟩ := idx_mem s (i + 1) x h
   refine ⟨j, e, by omega, by simp; omega, ?_⟩
   rw [show j - i = (j - (i + 1)) + 1 from by omega]; simpa using h3
 | false :: s, i, x, h => by
  simp only [idx] at h
  rw [show (i : Int) + 1 = ((i + 1 : Nat) : Int) from by omega] at h
  obtain ⟨j, e, h1, h2, h3⟩ := idx_mem s (i + 1) x h
  refine ⟨j, e, by omega, by simp; omega, ?_⟩
  rw [show j - i = (j - (i + 1)) + 1 from by omega]; simpa using h3
def worthWo (l : List S50) (wo : Int) : Int := ((tender_best.f l wo).getD ([], 0)).2
def payS (l : List S50) (v : Int) (i : Int) : Int := worthWo l (rd_T50 l i).f0 - (v - (rd_T50 l i).f2)
theorem tot_bd (l : List S50) (hv : bValid l) : (tot (l.map toOf) : Int) ≤ 17179869184 := by
 have := bSum_bd l (fun o ho => by have := hv.2 o ho; omega)
 have e := bSum_tot l (fun o ho => (hv.2 o ho).2.2.2.2.1)
 have := hv.1
 omega
theorem worthWo_bd (l : List S50) (hv : bValid l) (wo : Int) : 0 ≤ worthWo l wo ∧ worthWo l wo ≤ 17179869184 := by
 obtain ⟨s, hs, e, _⟩ := best_both l hv wo
 have := val_le (l.map toOf) s
 have := tot_bd l hv
 simp only [worthWo, e, Option.getD_some]
 omega
theorem ev_Decide_l (l : List S50) (hv : bValid l) (v : Int) (hv0 : 0 ≤ v) (hv1 : v ≤ 17179869184) (T : List Int) (hT : ∀ x ∈ T, ∃ j : Nat, x = (j : Int) ∧ j < l.length) (hTl : T.length ≤ 16) (t0 : List Int) (w0 : Int) : ∀ (d i : Nat) (pays : List Int), i + d = T.length → pays.length = i →
  Ev (fun k => tender_Decide.l0 k l v T (T.length : Int) (i : Int) t0 pays w0) (t0, pays ++ (T.drop i).map (payS l v), w0, 0)
 | 0, i, pays, h, hp => Ev.here fun k => by
   simp only [tender_Decide.l0]
   rw [if_neg (by omega), List.drop_of_length_le (by omega)]; simp
 | d + 1, i, pays, h, hp => by
   have hi : i < T.length := by omega
   obtain ⟨j, ej, hj⟩ := hT T[i] (List.getElem_mem hi)
   have erd : rd T (i : Int) = (j : Int) := by simp [rd, hi, ej]
   have ho := hv.2 l[j] (List.getElem_mem hj)
   obtain ⟨s, hs, e, _⟩ := best_both l hv l[j].f0
   have hb := worthWo_bd l hv l[j].f0
   have hw : worthWo l l[j].f0 = ((val (l.map toOf) s : Nat) : Int) := by simp only [worthWo, e, Option.getD_some]
   have ih := ev_Decide_l l hv v hv0 hv1 T hT hTl t0 w0 d (i + 1) (pays ++ [payS l v T[i]]) (by omega) (by simp [hp])
   rw [List.drop_eq_getElem_cons hi, List.map_cons]
   rw [List.append_assoc] at ih
   refine Ev.step (fun k => ?_) ih
   simp only [tender_Decide.l0, erd]
   rw [if_pos (by omega), if_pos (by omega), if_pos (by omega), if_pos (by omega), if_pos (by omega), rd_get l j hj, e]
   simp only [Option.bind_some]
   rw [if_pos (by omega), w64 i (by omega)]
   have : wrap64 (((val (l.map toOf) s : Nat) : Int) - wrap64 (v - l[j].f2)) = payS l v T[i] := by
    simp only [payS, ej, rd_get l j hj, hw]
    rw [hw] at hb
    unfold wrap64; omega
   rw [this]
theorem ev_DecideOk (lots : Int) (l : List S50) (hv : Vld lots l) : ∃ s, IsBest (-1) (l.map toOf) 0 0 s ∧ tender_best.f l (-1) = some (idx 0 s, ((val (l.map toOf) s : Nat) : Int)) ∧
  Ev (fun k => tender_Decide.f k lots l) (idx 0 s, (idx 0 s).map (payS l ((val (l.map toOf) s : Nat) : Int)), ((val (l.map toOf) s : Nat) : Int), 0) := by
 obtain ⟨s, hs, e, hB⟩ := ev_BestOk lots l hv
 refine ⟨s, hs, e, ?_⟩
 unfold tender_Decide.f
 refine Ev.bind hB ?_
 simp only [if_true]
 have hsl := feas_len _ _ _ _ _ hs.1
 simp only [List.length_map] at hsl
 have hl16 := hv.bv.1
 have := val_le (l.map toOf) s
 have := tot_bd l hv.bv
 have hil := idx_len s 0
 have := ev_Decide_l l hv.bv ((val (l.map toOf) s : Nat) : Int) (by omega) (by omega) (idx 0 s) (fun x hx => by obtain ⟨j, e, _, h2, _⟩ := idx_mem s 0 x hx; exact ⟨j, e, by omega⟩) (by omega) (idx 0 s) ((val (l.map toOf) s : Nat) : Int) (idx 0 s).length 0 [] (by omega) rfl
 simpa using this
end Go.Proofs.Ythfdjccdelbeeaa.PT
end
section
namespace Go.Proofs.Ythfdjccdelbeeaa.PT
open Go.RowKit Go.Proofs.YthfdjccdelbeeaaW.PrintWords Go.Proofs.YthfdjccdelbeeaaW.PrintLast Go.Proofs.YthfdjccdelbeeaaW.PrintMore Go.Proofs.Ythfdjccdelbeeaa.TPl
set_option linter.unusedVariables false
theorem eta50 (o : S50) : (⟨o.f0, o.f1, o.f2⟩ : S50) = o := rfl
theorem ev_own_l (l : List S50) (hl : l.length < 1000000) : ∀ (d i : Nat) (x : List S50), i + d = l.length → x.length = l.length → x.take i = l.take i → Ev (fun k => kimberlitelaw05_own.l0 k l x (i : Int)) l
 | 0, i, x, h, hx, ht => Ev.here fun k => by
   simp only [kimberlitelaw05_own.l0]
   rw [if_neg (by omega)]
   rw [List.take_of_length_le (by omega), List.take_of_length_le (by omega)] at ht
   rw [ht]
 | d + 1, i, x, h, hx, ht => by
   have hi : i < l.length := by omega
   have hi' : i < x.length := by omega
   have ih := ev_own_l l hl d (i + 1) (x.set i l[i]) (by omega) (by simpa using hx) (by
    rw [List.take_succ_eq_append_getElem (by simpa using hi'), List.take_succ_eq_append_getElem hi]
    rw [List.take_set_of_le (Nat.le_refl _), ht]; simp)
   refine Ev.step (fun k => ?_) ih
   simp only [kimberlitelaw05_own.l0]
   rw [if_pos (by omega), if_pos (by omega), if_pos (by omega), rd_get l i hi, w64 i (by omega), eta50, Int.toNat_natCast]
theorem ev_own (l : List S50) (hl : l.length < 1000000) : Ev (fun k => kimberlitelaw05_own.f k l) l := by
 have := ev_own_l l hl l.length 0 (List.replicate l.length z50) (by omega) (by simp) (by simp)
 refine Ev.congr (fun k => ?_) this
 simp only [kimberlitelaw05_own.f]
 rw [if_pos (by omega), Int.toNat_natCast, if_pos (by omega)]; rfl
theorem ev_offers_l (l : List S50) (hl : l.length < 1000000) : ∀ (d i : Nat), i + d = l.length → Ev (fun k => kimberlitelaw05_offers.l0 k l l (i : Int)) true
 | 0, i, h => Ev.here fun k => by
   simp only [kimberlitelaw05_offers.l0]
   rw [if_neg (by omega)]
 | d + 1, i, h => by
   have ih := ev_offers_l l hl d (i + 1) (by omega)
   refine Ev.step (fun k => ?_) ih
   simp only [kimberlitelaw05_offers.l0]
   rw [if_pos (by omega), if_pos (by omega), if_pos (by omega), w64 i (by omega)]
   simp
theorem ev_offers (l : List S50) (hl : l.length < 1000000) : Ev (fun k => kimberlitelaw05_offers.f k l l) true :=
 Ev.congr (fun k => by simp only [kimberlitelaw05_offers.f]; rw [if_pos trivial]; rfl) (ev_offers_l l hl l.length 0 (by omega))
end Go.Proofs.Ythfdjccdelbeeaa.PT
end
section
namespace Go.Proofs.Ythfdjccdelbeeaa.PT
open Go.RowKit Go.Proofs.YthfdjccdelbeeaaW.PrintWords Go.Proofs.YthfdjccdelbeeaaW.PrintLast Go.Proofs.YthfdjccdelbeeaaW.PrintMore
set_option linter.unusedVariables false
set_option linter.unusedSimpArgs false
def ofI (P : List Int) (i : Nat) : S50 := ⟨((i / 4 : Nat) : Int), ((2 ^ (i % 12) : Nat) : Int), 1 + P.getD i 0⟩
def rowsI (P : List Int) : Nat → Nat → List S50
 | 0 => fun _ => []
 | i + 1 => if i / 4 < 4 then upd (upd (rowsI P i) (i / 4) (rowsI P i (i / 4) ++ [ofI P i])) 6 (rowsI P i 6 ++ [ofI P i]) else upd (rowsI P i) (i / 4) (rowsI P i (i / 4) ++ [ofI P i])
section
variable (P : List Int) (s : Int)
theorem rows0 : rowsI P 17 0 = [ofI P 0, ofI P 1, ofI P 2, ofI P 3] := rfl
theorem rows1 : rowsI P 17 1 = [ofI P 4, ofI P 5, ofI P 6, ofI P 7] := rfl
theorem rows2 : rowsI P 17 2 = [ofI P 8, ofI P 9, ofI P 10, ofI P 11] := rfl
theorem rows3 : rowsI P 17 3 = [ofI P 12, ofI P 13, ofI P 14, ofI P 15] := rfl
theorem rows4 : rowsI P 17 4 = [ofI P 16] := rfl
variable (R : Nat → List S50)
def hs6 : Nat → List Hd
 | 0 => List.replicate 8 hd0
 | b + 1 => (hs6 b).set b ⟨true, false, sealAll (R b) s, .slice none 0 0, []⟩
def hsh (vs : Nat → Value) : Nat → List Hd
 | 0 => hs6 s R 6
 | b + 1 => (hsh vs b).set b ⟨true, true, sealAll (R b) s, vs b, R b⟩
def h5 (vs : Nat → Value) (v : Value) : List Hd := (hsh s R vs 4).set 5 ⟨true, true, sealAll (R 5) s, v, R 5⟩
variable {P} {s} {R}
theorem good_of (hl : P.length = 17) (hp : ∀ x ∈ P, 0 ≤ x ∧ x < 65536) {i : Nat} (hi : i < 17) : good 12 (ofI P i) = true := by
 have hpr : 0 ≤ P.getD i 0 ∧ P.getD i 0 < 65536 := by
  rw [List.getD_eq_getElem?_getD, List.getElem?_eq_getElem (by omega)]; exact hp _ (List.getElem_mem _)
 unfold good ofI
 have h1 : 1 ≤ 2 ^ (i % 12) := Nat.one_le_two_pow
 have h2 : 2 ^ (i % 12) < 2 ^ 12 := Nat.pow_lt_pow_right (by omega) (by omega)
 have h3 : (2 : Nat) ^ 12 = 4096 := rfl
 generalize 2 ^ (i % 12) = M at h1 h2
 apply decide_eq_true
 show 0 ≤ ((i / 4 : Nat) : Int) ∧ ((i / 4 : Nat) : Int) ≤ 7 ∧ 1 ≤ (M : Int) ∧ (M : Int) < ((2 ^ 12 : Nat) : Int) ∧ 1 ≤ 1 + P.getD i 0 ∧ 1 + P.getD i 0 ≤ 1073741824
 rw [h3]
 omega
theorem bad_of (hl : P.length = 17) (hp : ∀ x ∈ P, 0 ≤ x ∧ x < 65536) {i b : Nat} (hi : i < 17) (hb : i / 4 = b) : badO 12 (b : Int) (ofI P i) = false := by
 unfold badO
 rw [good_of hl hp hi, ← hb]
 show (!true || ((i / 4 : Nat) : Int) != ((i / 4 : Nat) : Int)) = false
 simp
theorem any_of (hl : P.length = 17) (hp : ∀ x ∈ P, 0 ≤ x ∧ x < 65536) {b : Nat} (hb : b < 5) : (rowsI P 17 b).any (badO 12 (b : Int)) = false := by
 have B := fun i h1 h2 => bad_of (b := b) hl hp (i := i) h1 h2
 have : b = 0 ∨ b = 1 ∨ b = 2 ∨ b = 3 ∨ b = 4 := by omega
 rcases this with rfl | rfl | rfl | rfl | rfl
 ·
  rw [rows0]; simp only [List.any_cons, List.any_nil, B 0 (by omega) rfl, B 1 (by omega) rfl, B 2 (by omega) rfl, B 3 (by omega) rfl]; rfl
 ·
  rw [rows1]; simp only [List.any_cons, List.any_nil, B 4 (by omega) rfl, B 5 (by omega) rfl, B 6 (by omega) rfl, B 7 (by omega) rfl]; rfl
 ·
  rw [rows2]; simp only [List.any_cons, List.any_nil, B 8 (by omega) rfl, B 9 (by omega) rfl, B 10 (by omega) rfl, B 11 (by omega) rfl]; rfl
 ·
  rw [rows3]; simp only [List.any_cons, List.any_nil, B 12 (by omega) rfl, B 13 (by omega) rfl, B 14 (by omega) rfl, B 15 (by omega) rfl]; rfl
 ·
  rw [rows4]; simp only [List.any_cons, List.any_nil, B 16 (by omega) rfl]; rfl
theorem offers_eq (w : World) (A B : Option Addr) (ca cb : Nat) (xs : List S50) (hl : xs.length < 1000000) (hA : Kd.C k50 w A xs.length xs) (ha : xs.length ≤ ca) (hB : Kd.C k50 w B xs.length xs) (hb : xs.length ≤ cb) : Calls Try.prog 20 #[.slice A xs.length ca, .slice B xs.length cb] w fun e w' => e = .returned (.bool true) ∧ Below w.heap.size w w' := by
 obtain ⟨k, hk⟩ := ev_offers xs hl
 refine (kimberlitelaw05_offers.calls k A ca xs B cb xs true w hA ha hB hb (hk k (Nat.le_refl _))).mono ?_
 rintro e w' ⟨rfl, nd, hq⟩
 have hb' := Zbn (Below.refl w.heap.size w) nd
 rw [← hq] at hb'
 exact ⟨rfl, hb'⟩
end
end Go.Proofs.Ythfdjccdelbeeaa.PT
end
section
namespace Go.Proofs.Ythfdjccdelbeeaa.PT
open Go.RowKit Go.Proofs.YthfdjccdelbeeaaW.PrintWords Go.Proofs.YthfdjccdelbeeaaW.PrintLast Go.Proofs.YthfdjccdelbeeaaW.PrintMore
set_option linter.unusedVariables false
set_option linter.unusedSimpArgs false
section
variable (R : Nat → List S50) (sal : Nat → Int)
variable {R} {sal}
theorem in_1 {lots : Int} (h : 1 ≤ lots) : inC lots 1 1 = 0 := by unfold inC; rw [if_neg (by omega), if_neg (by decide)]
theorem in_0 {lots : Int} (h : 1 ≤ lots) : inC lots 0 0 = 0 := by unfold inC; rw [if_neg (by omega), if_neg (by decide)]
end
end Go.Proofs.Ythfdjccdelbeeaa.PT
end
section
namespace Go.Proofs.Ythfdjccdelbeeaa.PT
open Go.RowKit Go.Proofs.YthfdjccdelbeeaaW.PrintWords Go.Proofs.YthfdjccdelbeeaaW.PrintLast Go.Proofs.YthfdjccdelbeeaaW.PrintMore Go.Proofs.Ythfdjccdelbeeaa.TPl
set_option linter.unusedVariables false
set_option linter.unusedSimpArgs false
section
variable {R : Nat → List S50} {sal : Nat → Int} {w : World} {t : Nat} {F : Nat → Prop} {lots s : Int} {r b k : Nat} {vs : Nat → Value}
variable {A : Option Addr} {l : List S50} {c : Nat}
theorem award_eq (w : World) (A0 A1 B0 B1 : Option Addr) (c0 c1 d0 d1 : Nat) (r1 r2 : List Int) (r3 : Int) (h1 : r1.length < 1000000) (h2 : r2.length < 1000000) (hA0 : Kd.C (Kd.int .i64) w A0 r1.length r1) (a0 : r1.length ≤ c0) (hA1 : Kd.C (Kd.int .i64) w A1 r2.length r2) (a1 : r2.length ≤ c1) (hB0 : Kd.C (Kd.int .i64) w B0 r1.length r1) (b0 : r1.length ≤ d0) (hB1 : Kd.C (Kd.int .i64) w B1 r2.length r2) (b1 : r2.length ≤ d1) : Calls Try.prog 27 #[.agg #[.slice A0 r1.length c0, .slice A1 r2.length c1, .int .i64 r3], .agg #[.slice B0 r1.length d0, .slice B1 r2.length d1, .int .i64 r3]] w fun e w' => e = .returned (.bool true) ∧ Below w.heap.size w w' := by
 obtain ⟨k, hk⟩ := ev_award r1 r2 r3 r1 r2 r3 h1 h2
 have h := hk k (Nat.le_refl _)
 simp only [beq_self_eq_true, Bool.and_self] at h
 exact kimberlitelaw05_award.calls k A0 c0 r1 A1 c1 r2 r3 B0 d0 r1 B1 d1 r2 r3 true w hA0 a0 hA1 a1 hB0 b0 hB1 b1 h
end
end Go.Proofs.Ythfdjccdelbeeaa.PT
end
