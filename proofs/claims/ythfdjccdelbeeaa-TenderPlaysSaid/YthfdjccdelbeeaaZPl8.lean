/-
  The texts that the theorem in YthfdjccdelbeeaaZRowPl rests on, merged (part 9); only what it reaches.
-/
import Derived.Test.YthfdjccdelbeeaaZPl2
section
namespace Go.Proofs.Ythfdjccdelbeeaa.PT
open Go.RowKit Go.Proofs.YthfdjccdelbeeaaW.PrintWords Go.Proofs.YthfdjccdelbeeaaW.PrintLast Go.Proofs.YthfdjccdelbeeaaW.PrintMore
attribute [local go_sem] max2_int min2_int max_two min_two max_three min_three max_four min_four   -- for this text's walks alone
set_option linter.unusedVariables false
set_option linter.unusedSimpArgs false
def kimberliteref05_New.f (a0 : Int) : Option (Int × Int × List Bool × List Int × List Bool × (List (List (S50))) × Int) := if a0 < 1 then (some (0, 0, ([] : List Bool), ([] : List Int), ([] : List Bool), ([] : List (List (S50))), 2)) else (if a0 > 12 then (some (0, 0, ([] : List Bool), ([] : List Int), ([] : List Bool), ([] : List (List (S50))), 2)) else (if 8 ≤ 281474976710656 then (if 8 ≤ 35184372088832 then (if 8 ≤ 11728124029610 then (some (a0, 0, (List.replicate 8 false), (List.replicate 8 0), (List.replicate 8 false), (List.replicate 8 []), 0)) else (none)) else (none)) else (none)))
def kimberliteref05_New.T4 : Bool × List (List Nat × List Nat) := (true, [([], []), ([], []), ([1, 1], [1]), ([], []), ([3, 3], [3]), ([], []), ([5, 5], [5]), ([], []), ([7, 7], [7]), ([0, 2, 4, 6, 8], [0, 2, 4, 6, 8]), ([9, 0, 1, 2, 3, 4, 5, 6, 7, 8, 9], [9]), ([10, 0, 1, 2, 3, 4, 5, 6, 7, 8, 9, 10], [])])
def kimberliteref05_New.B4 : List Nat := [0, 0, 2, 0, 8, 0, 32, 0, 128, 511, 1023, 2047]
theorem kimberliteref05_New.tab4 : rtab .any (opsOf Try.f43 4) = kimberliteref05_New.T4 := by kernel_rfl
theorem kimberliteref05_New.bits4 : waitsOk kimberliteref05_New.T4.2 kimberliteref05_New.B4 = true := by kernel_rfl
set_option maxHeartbeats 8000000 in
set_option maxRecDepth 100000 in
theorem kimberliteref05_New.calls (a0 : Int) (r1 : Int) (r2 : Int) (r3 : List Bool) (r4 : List Int) (r5 : List Bool) (r6 : List (List (S50))) (r7 : Int) (w : World) (h : kimberliteref05_New.f a0 = some (r1, r2, r3, r4, r5, r6, r7)) :
  Calls Try.prog 43 #[.int .i64 a0] w fun e w' => ∃ v2_ v3_ v4_ v5_ : Value, e = .returned (.tuple #[.agg #[.int .i64 r1, .int .i64 r2, v2_, v3_, v4_, v5_], .int .i64 r7]) ∧ Kd.R Kd.bool 4 w' w.heap.size (fun k_ => some k_ ≠ (v4_ : Value).ownBlock) v2_ r3 ∧ Kd.R (Kd.int .u64) 36 w' w.heap.size (fun _ => True) v3_ r4 ∧ Kd.R Kd.bool 4 w' w.heap.size (fun k_ => some k_ ≠ (v2_ : Value).ownBlock) v4_ r5 ∧ Kd.S (Kd.slice 50 k50) 22 w' w.heap.size (fun _ => True) v5_ r6 ∧ Below w.heap.size w w' := by
 have hu93 := Try.underlying93
 have HB := Aside0.mk (Below.refl w.heap.size w)
 have H : (if a0 < 1 then (some (0, 0, ([] : List Bool), ([] : List Int), ([] : List Bool), ([] : List (List (S50))), 2)) else (if a0 > 12 then (some (0, 0, ([] : List Bool), ([] : List Int), ([] : List Bool), ([] : List (List (S50))), 2)) else (if 8 ≤ 281474976710656 then (if 8 ≤ 35184372088832 then (if 8 ≤ 11728124029610 then (some (a0, 0, (List.replicate 8 false), (List.replicate 8 0), (List.replicate 8 false), (List.replicate 8 []), 0)) else (none)) else (none)) else (none)))) = some (r1, r2, r3, r4, r5, r6, r7) := h
 clear h
 by_cases c2 : a0 < 1
 ·
  rw [if_pos c2] at H
  have c2b0 : decide (a0 < 1) = true := decide_eq_true c2
  clear c2
  simp only [Option.some.injEq, Prod.mk.injEq] at H
  obtain ⟨rfl, rfl, rfl, rfl, rfl, rfl, rfl⟩ := H
  go_enter Try.func43, Try.ntmps43
  go_wp2_with (first | ((with_reducible refine gate_dst (N := 2) rfl ?_); refine box_event ?hg (N := 2) ?hd (cs := #[.int .i64 0, .int .i64 0, .slice none 0 0, .slice none 0 0, .slice none 0 0, .slice none 0 0]) (t := 93) ?hr ?_; (case hd => rfl); (case hg => rfl); (case hr => first | (go_simp; done) | (go_simp; rfl)); intro gb431 hg w3 hbox hb; have n0_ := Aside0.mk (below_step (by repeat (first | (with_reducible first | exact HB.out | apply Zba | apply Zbn | apply Zbd) | exact HB.out)) hb); have n1_ := Aside0.mk (hbox); have n2_ := Aside0.mk ((by rw [hg]; exact (below_size (by repeat (first | (with_reducible first | exact HB.out | apply Zba | apply Zbn | apply Zbd) | exact HB.out))) : w.heap.size ≤ gb431)); have n3_ := Aside0.mk ((by rw [hg]; exact (below_size (by repeat (first | (with_reducible first | exact HB.out | apply Zba | apply Zbn | apply Zbd) | exact HB.out))) : w.heap.size ≤ gb431)); clear HB; have HB := n0_; have BK431 := n1_; have GW431 := n2_; have GE431 := n3_; clear n0_ n1_ n2_ n3_; clear hb hbox hg; have hcz4_0 : w3.cell? ⟨gb431, 0, none⟩ = some (.int .i64 0) := (blk_cell BK431.out 0).trans rfl; have hcz4_1 : w3.cell? ⟨gb431, 1, none⟩ = some (.int .i64 0) := (blk_cell BK431.out 1).trans rfl; have hcz4_2 : w3.cell? ⟨gb431, 2, none⟩ = some (.slice none 0 0) := (blk_cell BK431.out 2).trans rfl; have hcz4_3 : w3.cell? ⟨gb431, 3, none⟩ = some (.slice none 0 0) := (blk_cell BK431.out 3).trans rfl; have hcz4_4 : w3.cell? ⟨gb431, 4, none⟩ = some (.slice none 0 0) := (blk_cell BK431.out 4).trans rfl; have hcz4_5 : w3.cell? ⟨gb431, 5, none⟩ = some (.slice none 0 0) := (blk_cell BK431.out 5).trans rfl; have hfz4_0 := blk_frozen BK431.out 0; have hfz4_1 := blk_frozen BK431.out 1; have hfz4_2 := blk_frozen BK431.out 2; have hfz4_3 := blk_frozen BK431.out 3; have hfz4_4 := blk_frozen BK431.out 4; have hfz4_5 := blk_frozen BK431.out 5))
  refine bodyPost_ret (results_ct rfl _ _ gb431 93 #[.int .i64 0, .int .i64 0, .slice none 0 0, .slice none 0 0, .slice none 0 0, .slice none 0 0] (0, 0) _ rfl (by (with_reducible repeat (first | refine Zkn ?_ _ | refine Zkd ?_ | refine Zka ?_ _)); refine blk_put (cs := #[.int .i64 0, .int .i64 0, .slice none 0 0, .slice none 0 0, .slice none 0 0, .slice none 0 0]) ?_ 5 _ rfl; (with_reducible repeat (first | refine Zkn ?_ _ | refine Zkd ?_ | refine Zka ?_ _)); refine blk_put (cs := #[.int .i64 0, .int .i64 0, .slice none 0 0, .slice none 0 0, .slice none 0 0, .slice none 0 0]) ?_ 4 _ rfl; (with_reducible repeat (first | refine Zkn ?_ _ | refine Zkd ?_ | refine Zka ?_ _)); refine blk_put (cs := #[.int .i64 0, .int .i64 0, .slice none 0 0, .slice none 0 0, .slice none 0 0, .slice none 0 0]) ?_ 3 _ rfl; (with_reducible repeat (first | refine Zkn ?_ _ | refine Zkd ?_ | refine Zka ?_ _)); refine blk_put (cs := #[.int .i64 0, .int .i64 0, .slice none 0 0, .slice none 0 0, .slice none 0 0, .slice none 0 0]) ?_ 2 _ rfl; (with_reducible repeat (first | refine Zkn ?_ _ | refine Zkd ?_ | refine Zka ?_ _)); refine blk_put (cs := #[.int .i64 0, .int .i64 0, .slice none 0 0, .slice none 0 0, .slice none 0 0, .slice none 0 0]) ?_ 1 _ rfl; (with_reducible repeat (first | refine Zkn ?_ _ | refine Zkd ?_ | refine Zka ?_ _)); refine blk_put (cs := #[.int .i64 0, .int .i64 0, .slice none 0 0, .slice none 0 0, .slice none 0 0, .slice none 0 0]) ?_ 0 _ rfl; (with_reducible repeat (first | refine Zkn ?_ _ | refine Zkd ?_ | refine Zka ?_ _)); exact BK431.out) Try.underlying93 rfl (by kernel_rfl)) rfl ?_
  exact ⟨_, _, _, _, by first | rfl | (simp [errW_none, errW_some] <;> rfl) | (simp [*, errW_none, errW_some] <;> rfl), by first | exact Kd.R_nil _ _ _ _ _ | exact Kd.N_nil _ _ _ _ _ | exact Kd.V_nil _ _ _ _ _ | exact Kd.Q_nil _ _ _ _ _ | exact Kd.S_nil _ _ _ _ _, by first | exact Kd.R_nil _ _ _ _ _ | exact Kd.N_nil _ _ _ _ _ | exact Kd.V_nil _ _ _ _ _ | exact Kd.Q_nil _ _ _ _ _ | exact Kd.S_nil _ _ _ _ _, by first | exact Kd.R_nil _ _ _ _ _ | exact Kd.N_nil _ _ _ _ _ | exact Kd.V_nil _ _ _ _ _ | exact Kd.Q_nil _ _ _ _ _ | exact Kd.S_nil _ _ _ _ _, by first | exact Kd.S_nil _ _ _ _ _ | exact Kd.N_nil _ _ _ _ _ | exact Kd.V_nil _ _ _ _ _ | exact Kd.Q_nil _ _ _ _ _ | exact Kd.R_nil _ _ _ _ _, by repeat (first | (with_reducible first | exact HB.out | apply Zba | apply Zbn | apply Zbd | refine below_set ?_ GE431.out) | exact HB.out)⟩
 ·
  rw [if_neg c2] at H
  have c2b0 : decide (a0 < 1) = false := decide_eq_false c2
  clear c2
  by_cases c5 : a0 > 12
  ·
   rw [if_pos c5] at H
   have c5b0 : decide (12 < a0) = true := decide_eq_true c5
   clear c5
   simp only [Option.some.injEq, Prod.mk.injEq] at H
   obtain ⟨rfl, rfl, rfl, rfl, rfl, rfl, rfl⟩ := H
   go_enter Try.func43, Try.ntmps43
   go_wp2_with (first | ((with_reducible refine gate_dst (N := 2) rfl ?_); refine box_event ?hg (N := 2) ?hd (cs := #[.int .i64 0, .int .i64 0, .slice none 0 0, .slice none 0 0, .slice none 0 0, .slice none 0 0]) (t := 93) ?hr ?_; (case hd => rfl); (case hg => rfl); (case hr => first | (go_simp; done) | (go_simp; rfl)); intro gb431 hg w6 hbox hb; have n0_ := Aside0.mk (below_step (by repeat (first | (with_reducible first | exact HB.out | apply Zba | apply Zbn | apply Zbd) | exact HB.out)) hb); have n1_ := Aside0.mk (hbox); have n2_ := Aside0.mk ((by rw [hg]; exact (below_size (by repeat (first | (with_reducible first | exact HB.out | apply Zba | apply Zbn | apply Zbd) | exact HB.out))) : w.heap.size ≤ gb431)); have n3_ := Aside0.mk ((by rw [hg]; exact (below_size (by repeat (first | (with_reducible first | exact HB.out | apply Zba | apply Zbn | apply Zbd) | exact HB.out))) : w.heap.size ≤ gb431)); clear HB; have HB := n0_; have BK431 := n1_; have GW431 := n2_; have GE431 := n3_; clear n0_ n1_ n2_ n3_; clear hb hbox hg; have hcz7_0 : w6.cell? ⟨gb431, 0, none⟩ = some (.int .i64 0) := (blk_cell BK431.out 0).trans rfl; have hcz7_1 : w6.cell? ⟨gb431, 1, none⟩ = some (.int .i64 0) := (blk_cell BK431.out 1).trans rfl; have hcz7_2 : w6.cell? ⟨gb431, 2, none⟩ = some (.slice none 0 0) := (blk_cell BK431.out 2).trans rfl; have hcz7_3 : w6.cell? ⟨gb431, 3, none⟩ = some (.slice none 0 0) := (blk_cell BK431.out 3).trans rfl; have hcz7_4 : w6.cell? ⟨gb431, 4, none⟩ = some (.slice none 0 0) := (blk_cell BK431.out 4).trans rfl; have hcz7_5 : w6.cell? ⟨gb431, 5, none⟩ = some (.slice none 0 0) := (blk_cell BK431.out 5).trans rfl; have hfz7_0 := blk_frozen BK431.out 0; have hfz7_1 := blk_frozen BK431.out 1; have hfz7_2 := blk_frozen BK431.out 2; have hfz7_3 := blk_frozen BK431.out 3; have hfz7_4 := blk_frozen BK431.out 4; have hfz7_5 := blk_frozen BK431.out 5))
   refine bodyPost_ret (results_ct rfl _ _ gb431 93 #[.int .i64 0, .int .i64 0, .slice none 0 0, .slice none 0 0, .slice none 0 0, .slice none 0 0] (0, 0) _ rfl (by (with_reducible repeat (first | refine Zkn ?_ _ | refine Zkd ?_ | refine Zka ?_ _)); refine blk_put (cs := #[.int .i64 0, .int .i64 0, .slice none 0 0, .slice none 0 0, .slice none 0 0, .slice none 0 0]) ?_ 5 _ rfl; (with_reducible repeat (first | refine Zkn ?_ _ | refine Zkd ?_ | refine Zka ?_ _)); refine blk_put (cs := #[.int .i64 0, .int .i64 0, .slice none 0 0, .slice none 0 0, .slice none 0 0, .slice none 0 0]) ?_ 4 _ rfl; (with_reducible repeat (first | refine Zkn ?_ _ | refine Zkd ?_ | refine Zka ?_ _)); refine blk_put (cs := #[.int .i64 0, .int .i64 0, .slice none 0 0, .slice none 0 0, .slice none 0 0, .slice none 0 0]) ?_ 3 _ rfl; (with_reducible repeat (first | refine Zkn ?_ _ | refine Zkd ?_ | refine Zka ?_ _)); refine blk_put (cs := #[.int .i64 0, .int .i64 0, .slice none 0 0, .slice none 0 0, .slice none 0 0, .slice none 0 0]) ?_ 2 _ rfl; (with_reducible repeat (first | refine Zkn ?_ _ | refine Zkd ?_ | refine Zka ?_ _)); refine blk_put (cs := #[.int .i64 0, .int .i64 0, .slice none 0 0, .slice none 0 0, .slice none 0 0, .slice none 0 0]) ?_ 1 _ rfl; (with_reducible repeat (first | refine Zkn ?_ _ | refine Zkd ?_ | refine Zka ?_ _)); refine blk_put (cs := #[.int .i64 0, .int .i64 0, .slice none 0 0, .slice none 0 0, .slice none 0 0, .slice none 0 0]) ?_ 0 _ rfl; (with_reducible repeat (first | refine Zkn ?_ _ | refine Zkd ?_ | refine Zka ?_ _)); exact BK431.out) Try.underlying93 rfl (by kernel_rfl)) rfl ?_
   exact ⟨_, _, _, _, by first | rfl | (simp [errW_none, errW_some] <;> rfl) | (simp [*, errW_none, errW_some] <;> rfl), by first | exact Kd.R_nil _ _ _ _ _ | exact Kd.N_nil _ _ _ _ _ | exact Kd.V_nil _ _ _ _ _ | exact Kd.Q_nil _ _ _ _ _ | exact Kd.S_nil _ _ _ _ _, by first | exact Kd.R_nil _ _ _ _ _ | exact Kd.N_nil _ _ _ _ _ | exact Kd.V_nil _ _ _ _ _ | exact Kd.Q_nil _ _ _ _ _ | exact Kd.S_nil _ _ _ _ _, by first | exact Kd.R_nil _ _ _ _ _ | exact Kd.N_nil _ _ _ _ _ | exact Kd.V_nil _ _ _ _ _ | exact Kd.Q_nil _ _ _ _ _ | exact Kd.S_nil _ _ _ _ _, by first | exact Kd.S_nil _ _ _ _ _ | exact Kd.N_nil _ _ _ _ _ | exact Kd.V_nil _ _ _ _ _ | exact Kd.Q_nil _ _ _ _ _ | exact Kd.R_nil _ _ _ _ _, by repeat (first | (with_reducible first | exact HB.out | apply Zba | apply Zbn | apply Zbd | refine below_set ?_ GE431.out) | exact HB.out)⟩
  ·
   rw [if_neg c5] at H
   have c5b0 : decide (12 < a0) = false := decide_eq_false c5
   clear c5
   by_cases c8 : 8 ≤ 281474976710656
   ·
    rw [if_pos c8] at H
    have c8b0 := eq_true c8
    have c8b1 : decide (8 ≤ 281474976710656) = true := decide_eq_true c8
    clear c8
    obtain ⟨y432, hy432⟩ : ∃ y_ : List Bool, y_ = (List.replicate 8 false) := ⟨_, rfl⟩
    replace H : (if 8 ≤ 35184372088832 then (if 8 ≤ 11728124029610 then (some (a0, 0, y432, (List.replicate 8 0), (List.replicate 8 false), (List.replicate 8 []), 0)) else (none)) else (none)) = some (r1, r2, r3, r4, r5, r6, r7) := by first | (rw [hy432]; with_reducible exact H) | (have H2_ := (Option.bind_some _ _).symm.trans H; rw [hy432]; with_reducible exact H2_) | (have H2_ := (Option.bind_some _ _).symm.trans H; with_reducible exact H2_) | with_reducible exact H | (rw [hy432]; exact H) | exact H
    have Ny432 := Aside0.mk hy432
    clear hy432
    by_cases c9 : 8 ≤ 35184372088832
    ·
     rw [if_pos c9] at H
     have c9b0 := eq_true c9
     have c9b1 : decide (8 ≤ 35184372088832) = true := decide_eq_true c9
     clear c9
     obtain ⟨y435, hy435⟩ : ∃ y_ : List Int, y_ = (List.replicate 8 0) := ⟨_, rfl⟩
     replace H : (if 8 ≤ 11728124029610 then (some (a0, 0, y432, y435, (List.replicate 8 false), (List.replicate 8 []), 0)) else (none)) = some (r1, r2, r3, r4, r5, r6, r7) := by first | (rw [hy435]; with_reducible exact H) | (have H2_ := (Option.bind_some _ _).symm.trans H; rw [hy435]; with_reducible exact H2_) | (have H2_ := (Option.bind_some _ _).symm.trans H; with_reducible exact H2_) | with_reducible exact H | (rw [hy435]; exact H) | exact H
     have Ny435 := Aside0.mk hy435
     clear hy435
     obtain ⟨y438, hy438⟩ : ∃ y_ : List Bool, y_ = (List.replicate 8 false) := ⟨_, rfl⟩
     replace H : (if 8 ≤ 11728124029610 then (some (a0, 0, y432, y435, y438, (List.replicate 8 []), 0)) else (none)) = some (r1, r2, r3, r4, r5, r6, r7) := by first | (rw [hy438]; with_reducible exact H) | (have H2_ := (Option.bind_some _ _).symm.trans H; rw [hy438]; with_reducible exact H2_) | (have H2_ := (Option.bind_some _ _).symm.trans H; with_reducible exact H2_) | with_reducible exact H | (rw [hy438]; exact H) | exact H
     have Ny438 := Aside0.mk hy438
     clear hy438
     by_cases c10 : 8 ≤ 11728124029610
     ·
      rw [if_pos c10] at H
      have c10b0 := eq_true c10
      have c10b1 : decide (8 ≤ 11728124029610) = true := decide_eq_true c10
      clear c10
      obtain ⟨y441, hy441⟩ : ∃ y_ : List (List (S50)), y_ = (List.replicate 8 []) := ⟨_, rfl⟩
      replace H : (some (a0, 0, y432, y435, y438, y441, 0)) = some (r1, r2, r3, r4, r5, r6, r7) := by first | (rw [hy441]; with_reducible exact H) | (have H2_ := (Option.bind_some _ _).symm.trans H; rw [hy441]; with_reducible exact H2_) | (have H2_ := (Option.bind_some _ _).symm.trans H; with_reducible exact H2_) | with_reducible exact H | (rw [hy441]; exact H) | exact H
      have Ny441 := Aside0.mk hy441
      clear hy441
      simp only [Option.some.injEq, Prod.mk.injEq] at H
      obtain ⟨rfl, rfl, rfl, rfl, rfl, rfl, rfl⟩ := H
      go_enter Try.func43, Try.ntmps43
      try go_wp2_with (first | ((with_reducible refine gate_dst (N := 2) rfl ?_); refine box_event ?hg (N := 2) ?hd (cs := #[.int .i64 0, .int .i64 0, .slice none 0 0, .slice none 0 0, .slice none 0 0, .slice none 0 0]) (t := 93) ?hr ?_; (case hd => rfl); (case hg => rfl); (case hr => first | (go_simp; done) | (go_simp; rfl)); intro gb431 hg w11 hbox hb; have n0_ := Aside0.mk (below_step (by repeat (first | (with_reducible first | exact HB.out | apply Zba | apply Zbn | apply Zbd) | exact HB.out)) hb); have n1_ := Aside0.mk (hbox); have n2_ := Aside0.mk ((by rw [hg]; exact (below_size (by repeat (first | (with_reducible first | exact HB.out | apply Zba | apply Zbn | apply Zbd) | exact HB.out))) : w.heap.size ≤ gb431)); have n3_ := Aside0.mk ((by rw [hg]; exact (below_size (by repeat (first | (with_reducible first | exact HB.out | apply Zba | apply Zbn | apply Zbd) | exact HB.out))) : w.heap.size ≤ gb431)); clear HB; have HB := n0_; have BK431 := n1_; have GW431 := n2_; have GE431 := n3_; clear n0_ n1_ n2_ n3_; clear hb hbox hg))
      have n0_ := Aside0.mk (Zkd BK431.out)
      have n1_ := Aside0.mk (Zbd HB.out)
      clear BK431
      clear HB
      have BK431 := n0_
      have HB := n1_
      clear n0_ n1_
      refine start_ (n := 12) (S := fun w' => True) (ds := []) #[false, false, false, false, false, false, false, false, false, false, false, false] (by kernel_rfl) rfl rfl trivial (fun hHeld => ?_); refine with_tabW kimberliteref05_New.tab4 kimberliteref05_New.bits4 (fun HT_ HW_ => ?_)
      generalize w11.drew = w12 at BK431 HB hHeld ⊢
      refine pure_ (i := 0) (N := some 12) (v := ?_) (a' := ?_) #[true, false, false, false, false, false, false, false, false, false, false, false] rfl rfl (any_of HT_.out (by kernel_rfl)) (fun _ _ _ h => h) (Or.inl ⟨by rfl, ?_⟩) ?_ ?_
      rotate_left
      ·
       intro w'
       go_simp
       with_reducible rfl
      rotate_left
      ·
       simp only [Act.put, pSq]
       rfl
      refine pure_ (i := 1) (N := some 13) (v := ?_) (a' := ?_) #[true, true, false, false, false, false, false, false, false, false, false, false] rfl rfl (any_of HT_.out (by kernel_rfl)) (fun _ _ _ h => h) (Or.inl ⟨by rfl, ?_⟩) ?_ ?_
      rotate_left
      ·
       intro w'
       go_simp
       with_reducible rfl
      rotate_left
      ·
       simp only [Act.put, pSq]
       rfl
      refine pure_ (i := 3) (N := some 15) (v := ?_) (a' := ?_) #[true, true, false, true, false, false, false, false, false, false, false, false] rfl rfl (any_of HT_.out (by kernel_rfl)) (fun _ _ _ h => h) (Or.inl ⟨by rfl, ?_⟩) ?_ ?_
      rotate_left
      ·
       intro w'
       go_simp
       with_reducible rfl
      rotate_left
      ·
       simp only [Act.put, pSq]
       rfl
      refine pure_ (i := 5) (N := some 17) (v := ?_) (a' := ?_) #[true, true, false, true, false, true, false, false, false, false, false, false] rfl rfl (any_of HT_.out (by kernel_rfl)) (fun _ _ _ h => h) (Or.inl ⟨by rfl, ?_⟩) ?_ ?_
      rotate_left
      ·
       intro w'
       go_simp
       with_reducible rfl
      rotate_left
      ·
       simp only [Act.put, pSq]
       rfl
      refine pure_ (i := 7) (N := some 19) (v := ?_) (a' := ?_) #[true, true, false, true, false, true, false, true, false, false, false, false] rfl rfl (any_of HT_.out (by kernel_rfl)) (fun _ _ _ h => h) (Or.inl ⟨by rfl, ?_⟩) ?_ ?_
      rotate_left
      ·
       intro w'
       go_simp
       with_reducible rfl
      rotate_left
      ·
       simp only [Act.put, pSq]
       rfl
      refine join_ (σ := Value × Value × Value × Value) 3 #[true, true, true, true, true, true, true, true, true, false, false, false] (fun s_ => [(14, s_.1), (16, s_.2.1), (18, s_.2.2.1), (20, s_.2.2.2)]) (fun s_ w' => (Kd.R Kd.bool 4 w' w.heap.size (fun k_ => some k_ ≠ (s_.2.2.1 : Value).ownBlock) s_.1 y432) ∧ (Kd.R (Kd.int .u64) 36 w' w.heap.size (fun _ => True) s_.2.1 y435) ∧ (Kd.R Kd.bool 4 w' w.heap.size (fun k_ => some k_ ≠ (s_.1 : Value).ownBlock) s_.2.2.1 y438) ∧ (Kd.S (Kd.slice 50 k50) 22 w' w.heap.size (fun _ => True) s_.2.2.2 y441) ∧ (w'.heap[gb431]? = some (.cells #[.int .i64 0, .int .i64 0, .slice none 0 0, .slice none 0 0, .slice none 0 0, .slice none 0 0] 93 (0, 0))) ∧ (Below w.heap.size w w')) ?_ ?_
      rotate_left
      ·
       intro hJ2_4_6_8
       refine join_ (σ := Value × Value × Value) 4 #[true, true, true, true, true, true, true, true, false, false, false, false] (fun s_ => [(14, s_.1), (16, s_.2.1), (18, s_.2.2)]) (fun s_ w' => (Kd.R Kd.bool 4 w' w.heap.size (fun k_ => some k_ ≠ (s_.2.2 : Value).ownBlock) s_.1 y432) ∧ (Kd.R (Kd.int .u64) 36 w' w.heap.size (fun _ => True) s_.2.1 y435) ∧ (Kd.R Kd.bool 4 w' w.heap.size (fun k_ => some k_ ≠ (s_.1 : Value).ownBlock) s_.2.2 y438) ∧ (w'.heap[gb431]? = some (.cells #[.int .i64 0, .int .i64 0, .slice none 0 0, .slice none 0 0, .slice none 0 0, .slice none 0 0] 93 (0, 0))) ∧ (Below w.heap.size w w')) ?_ ?_
       rotate_left
       ·
        intro hJ2_4_6
        refine join_ (σ := Value × Value × Value) 4 #[true, true, true, true, true, true, false, true, true, false, false, false] (fun s_ => [(14, s_.1), (16, s_.2.1), (20, s_.2.2)]) (fun s_ w' => (Kd.R Kd.bool 4 w' w.heap.size (fun _ => True) s_.1 y432) ∧ (Kd.R (Kd.int .u64) 36 w' w.heap.size (fun _ => True) s_.2.1 y435) ∧ (Kd.S (Kd.slice 50 k50) 22 w' w.heap.size (fun _ => True) s_.2.2 y441) ∧ (w'.heap[gb431]? = some (.cells #[.int .i64 0, .int .i64 0, .slice none 0 0, .slice none 0 0, .slice none 0 0, .slice none 0 0] 93 (0, 0))) ∧ (Below w.heap.size w w')) ?_ ?_
        rotate_left
        ·
         intro hJ2_4_8
         refine join_ (σ := Value × Value × Value) 4 #[true, true, true, true, false, true, true, true, true, false, false, false] (fun s_ => [(14, s_.1), (18, s_.2.1), (20, s_.2.2)]) (fun s_ w' => (Kd.R Kd.bool 4 w' w.heap.size (fun k_ => some k_ ≠ (s_.2.1 : Value).ownBlock) s_.1 y432) ∧ (Kd.R Kd.bool 4 w' w.heap.size (fun k_ => some k_ ≠ (s_.1 : Value).ownBlock) s_.2.1 y438) ∧ (Kd.S (Kd.slice 50 k50) 22 w' w.heap.size (fun _ => True) s_.2.2 y441) ∧ (w'.heap[gb431]? = some (.cells #[.int .i64 0, .int .i64 0, .slice none 0 0, .slice none 0 0, .slice none 0 0, .slice none 0 0] 93 (0, 0))) ∧ (Below w.heap.size w w')) ?_ ?_
         rotate_left
         ·
          intro hJ2_6_8
          refine join_ (σ := Value × Value × Value) 4 #[true, true, false, true, true, true, true, true, true, false, false, false] (fun s_ => [(16, s_.1), (18, s_.2.1), (20, s_.2.2)]) (fun s_ w' => (Kd.R (Kd.int .u64) 36 w' w.heap.size (fun _ => True) s_.1 y435) ∧ (Kd.R Kd.bool 4 w' w.heap.size (fun _ => True) s_.2.1 y438) ∧ (Kd.S (Kd.slice 50 k50) 22 w' w.heap.size (fun _ => True) s_.2.2 y441) ∧ (w'.heap[gb431]? = some (.cells #[.int .i64 0, .int .i64 0, .slice none 0 0, .slice none 0 0, .slice none 0 0, .slice none 0 0] 93 (0, 0))) ∧ (Below w.heap.size w w')) ?_ ?_
          rotate_left
          ·
           intro hJ4_6_8
           refine join_ (σ := Value × Value) 5 #[true, true, true, true, true, true, false, true, false, false, false, false] (fun s_ => [(14, s_.1), (16, s_.2)]) (fun s_ w' => (Kd.R Kd.bool 4 w' w.heap.size (fun _ => True) s_.1 y432) ∧ (Kd.R (Kd.int .u64) 36 w' w.heap.size (fun _ => True) s_.2 y435) ∧ (w'.heap[gb431]? = some (.cells #[.int .i64 0, .int .i64 0, .slice none 0 0, .slice none 0 0, .slice none 0 0, .slice none 0 0] 93 (0, 0))) ∧ (Below w.heap.size w w')) ?_ ?_
           rotate_left
           ·
            intro hJ2_4
            refine join_ (σ := Value × Value) 5 #[true, true, true, true, false, true, true, true, false, false, false, false] (fun s_ => [(14, s_.1), (18, s_.2)]) (fun s_ w' => (Kd.R Kd.bool 4 w' w.heap.size (fun k_ => some k_ ≠ (s_.2 : Value).ownBlock) s_.1 y432) ∧ (Kd.R Kd.bool 4 w' w.heap.size (fun k_ => some k_ ≠ (s_.1 : Value).ownBlock) s_.2 y438) ∧ (w'.heap[gb431]? = some (.cells #[.int .i64 0, .int .i64 0, .slice none 0 0, .slice none 0 0, .slice none 0 0, .slice none 0 0] 93 (0, 0))) ∧ (Below w.heap.size w w')) ?_ ?_
            rotate_left
            ·
             intro hJ2_6
             refine join_ (σ := Value × Value) 5 #[true, true, true, true, false, true, false, true, true, false, false, false] (fun s_ => [(14, s_.1), (20, s_.2)]) (fun s_ w' => (Kd.R Kd.bool 4 w' w.heap.size (fun _ => True) s_.1 y432) ∧ (Kd.S (Kd.slice 50 k50) 22 w' w.heap.size (fun _ => True) s_.2 y441) ∧ (w'.heap[gb431]? = some (.cells #[.int .i64 0, .int .i64 0, .slice none 0 0, .slice none 0 0, .slice none 0 0, .slice none 0 0] 93 (0, 0))) ∧ (Below w.heap.size w w')) ?_ ?_
             rotate_left
             ·
              intro hJ2_8
              refine join_ (σ := Value × Value) 5 #[true, true, false, true, true, true, true, true, false, false, false, false] (fun s_ => [(16, s_.1), (18, s_.2)]) (fun s_ w' => (Kd.R (Kd.int .u64) 36 w' w.heap.size (fun _ => True) s_.1 y435) ∧ (Kd.R Kd.bool 4 w' w.heap.size (fun _ => True) s_.2 y438) ∧ (w'.heap[gb431]? = some (.cells #[.int .i64 0, .int .i64 0, .slice none 0 0, .slice none 0 0, .slice none 0 0, .slice none 0 0] 93 (0, 0))) ∧ (Below w.heap.size w w')) ?_ ?_
              rotate_left
              ·
               intro hJ4_6
               refine join_ (σ := Value × Value) 5 #[true, true, false, true, true, true, false, true, true, false, false, false] (fun s_ => [(16, s_.1), (20, s_.2)]) (fun s_ w' => (Kd.R (Kd.int .u64) 36 w' w.heap.size (fun _ => True) s_.1 y435) ∧ (Kd.S (Kd.slice 50 k50) 22 w' w.heap.size (fun _ => True) s_.2 y441) ∧ (w'.heap[gb431]? = some (.cells #[.int .i64 0, .int .i64 0, .slice none 0 0, .slice none 0 0, .slice none 0 0, .slice none 0 0] 93 (0, 0))) ∧ (Below w.heap.size w w')) ?_ ?_
               rotate_left
               ·
                intro hJ4_8
                refine join_ (σ := Value × Value) 5 #[true, true, false, true, false, true, true, true, true, false, false, false] (fun s_ => [(18, s_.1), (20, s_.2)]) (fun s_ w' => (Kd.R Kd.bool 4 w' w.heap.size (fun _ => True) s_.1 y438) ∧ (Kd.S (Kd.slice 50 k50) 22 w' w.heap.size (fun _ => True) s_.2 y441) ∧ (w'.heap[gb431]? = some (.cells #[.int .i64 0, .int .i64 0, .slice none 0 0, .slice none 0 0, .slice none 0 0, .slice none 0 0] 93 (0, 0))) ∧ (Below w.heap.size w w')) ?_ ?_
                rotate_left
                ·
                 intro hJ6_8
                 refine join_ (σ := Value) 6 #[true, true, true, true, false, true, false, true, false, false, false, false] (fun s_ => [(14, s_)]) (fun s_ w' => (Kd.R Kd.bool 4 w' w.heap.size (fun _ => True) s_ y432) ∧ (w'.heap[gb431]? = some (.cells #[.int .i64 0, .int .i64 0, .slice none 0 0, .slice none 0 0, .slice none 0 0, .slice none 0 0] 93 (0, 0))) ∧ (Below w.heap.size w w')) ?_ ?_
                 rotate_left
                 ·
                  intro hJ2
                  refine join_ (σ := Value) 6 #[true, true, false, true, true, true, false, true, false, false, false, false] (fun s_ => [(16, s_)]) (fun s_ w' => (Kd.R (Kd.int .u64) 36 w' w.heap.size (fun _ => True) s_ y435) ∧ (w'.heap[gb431]? = some (.cells #[.int .i64 0, .int .i64 0, .slice none 0 0, .slice none 0 0, .slice none 0 0, .slice none 0 0] 93 (0, 0))) ∧ (Below w.heap.size w w')) ?_ ?_
                  rotate_left
                  ·
                   intro hJ4
                   refine join_ (σ := Value) 6 #[true, true, false, true, false, true, true, true, false, false, false, false] (fun s_ => [(18, s_)]) (fun s_ w' => (Kd.R Kd.bool 4 w' w.heap.size (fun _ => True) s_ y438) ∧ (w'.heap[gb431]? = some (.cells #[.int .i64 0, .int .i64 0, .slice none 0 0, .slice none 0 0, .slice none 0 0, .slice none 0 0] 93 (0, 0))) ∧ (Below w.heap.size w w')) ?_ ?_
                   rotate_left
                   ·
                    intro hJ6
                    refine join_ (σ := Value) 6 #[true, true, false, true, false, true, false, true, true, false, false, false] (fun s_ => [(20, s_)]) (fun s_ w' => (Kd.S (Kd.slice 50 k50) 22 w' w.heap.size (fun _ => True) s_ y441) ∧ (w'.heap[gb431]? = some (.cells #[.int .i64 0, .int .i64 0, .slice none 0 0, .slice none 0 0, .slice none 0 0, .slice none 0 0] 93 (0, 0))) ∧ (Below w.heap.size w w')) ?_ ?_
                    rotate_left
                    ·
                     intro hJ8
                     refine four_ (i := 2) (j := 4) (k := 6) (m := 8) (Ni := some 14) (Nj := some 16) (Nk := some 18) (Nm := some 20) #[true, true, true, true, false, true, false, true, false, false, false, false] #[true, true, false, true, true, true, false, true, false, false, false, false] #[true, true, false, true, false, true, true, true, false, false, false, false] #[true, true, false, true, false, true, false, true, true, false, false, false] rfl rfl rfl rfl rfl rfl rfl rfl (four_of HT_.out (by kernel_rfl)) (by decide) (by decide) (by decide) (by decide) (fun K hK => ?_) (fun K hK => ?_) (fun K hK => ?_) (fun K hK => ?_)
                     ·
                      skip
                      refine Kd.R_make_step Kd.bool _ 4 (by rfl) (N := 14) rfl 39 _ _ rfl 8 rfl rfl Try.underlying39 (.bool false) 1 info4 rfl (by decide) (by omega) false (ok := fun _ => True) (okp := fun _ => True) rfl (fun _ hk => hk) trivial (by omega) (by omega) (Below.refl _ _) (Nat.le_refl _) ?_
                      intro v433 w13 ho14 hb hg_ hnew_
                      clear hg_ hnew_
                      (first | rw [← Ny432.out] at ho14 | (simp only [Int.reduceToNat] at ho14; rw [← Ny432.out] at ho14))
                      have n0_ := Aside0.mk (Kd.R_lower ho14 (below_size (by repeat (first | (with_reducible first | exact HB.out | apply Zba | apply Zbn | apply Zbd | refine below_set ?_ GE431.out) | exact HB.out))))
                      have n1_ := Aside0.mk (blk_below (g := gb431) (o := .cells #[.int .i64 0, .int .i64 0, .slice none 0 0, .slice none 0 0, .slice none 0 0, .slice none 0 0] 93 (0, 0)) (by (with_reducible repeat (first | refine Zkn ?_ _ | refine Zkd ?_ | refine Zka ?_ _)); exact BK431.out) hb)
                      have n2_ := Aside0.mk (below_step (by repeat (first | (with_reducible first | exact HB.out | apply Zba | apply Zbn | apply Zbd | refine below_set ?_ GE431.out) | exact HB.out)) hb)
                      clear BK431
                      clear HB
                      have HO434 := n0_
                      have BK431 := n1_
                      have HB := n2_
                      clear n0_ n1_ n2_
                      clear hb ho14
                      refine hK.out _ _ trivial (fun hHeld => ?_)
                      clear hK K
                      refine norm_ (a' := ?_) ?_ ?_
                      rotate_left
                      ·
                       show Act.put _ (some 14) _ = _
                       simp only [Act.put, pSq]
                       rfl
                      exact norm_ (by first | (simp only [putAll, Act.put, List.setIfInBounds_toArray, List.set_cons_zero, List.set_cons_succ]; done) | (simp only [putAll, Act.put, List.setIfInBounds_toArray, List.set_cons_zero, List.set_cons_succ]; rfl)) (hJ2 (v433) _ ⟨(by (with_reducible repeat (first | apply Zra | apply Zrn | apply Zrd)); exact HO434.out), (by (with_reducible repeat (first | refine Zkn ?_ _ | refine Zkd ?_ | refine Zka ?_ _)); exact BK431.out), (by repeat (first | (with_reducible first | exact HB.out | apply Zba | apply Zbn | apply Zbd | refine below_set ?_ GE431.out) | exact HB.out))⟩)
                     ·
                      skip
                      refine Kd.R_make_step (Kd.int .u64) _ 36 (by rfl) (N := 16) rfl 90 _ _ rfl 8 rfl rfl Try.underlying90 (.int .u64 0) 8 info36 rfl (by decide) (by omega) 0 (ok := fun _ => True) (okp := fun _ => True) rfl (fun _ hk => hk) trivial (by omega) (by omega) (Below.refl _ _) (Nat.le_refl _) ?_
                      intro v436 w13 ho14 hb hg_ hnew_
                      clear hg_ hnew_
                      (first | rw [← Ny435.out] at ho14 | (simp only [Int.reduceToNat] at ho14; rw [← Ny435.out] at ho14))
                      have n0_ := Aside0.mk (Kd.R_lower ho14 (below_size (by repeat (first | (with_reducible first | exact HB.out | apply Zba | apply Zbn | apply Zbd | refine below_set ?_ GE431.out) | exact HB.out))))
                      have n1_ := Aside0.mk (blk_below (g := gb431) (o := .cells #[.int .i64 0, .int .i64 0, .slice none 0 0, .slice none 0 0, .slice none 0 0, .slice none 0 0] 93 (0, 0)) (by (with_reducible repeat (first | refine Zkn ?_ _ | refine Zkd ?_ | refine Zka ?_ _)); exact BK431.out) hb)
                      have n2_ := Aside0.mk (below_step (by repeat (first | (with_reducible first | exact HB.out | apply Zba | apply Zbn | apply Zbd | refine below_set ?_ GE431.out) | exact HB.out)) hb)
                      clear BK431
                      clear HB
                      have HO437 := n0_
                      have BK431 := n1_
                      have HB := n2_
                      clear n0_ n1_ n2_
                      clear hb ho14
                      refine hK.out _ _ trivial (fun hHeld => ?_)
                      clear hK K
                      refine norm_ (a' := ?_) ?_ ?_
                      rotate_left
                      ·
                       show Act.put _ (some 16) _ = _
                       simp only [Act.put, pSq]
                       rfl
                      exact norm_ (by first | (simp only [putAll, Act.put, List.setIfInBounds_toArray, List.set_cons_zero, List.set_cons_succ]; done) | (simp only [putAll, Act.put, List.setIfInBounds_toArray, List.set_cons_zero, List.set_cons_succ]; rfl)) (hJ4 (v436) _ ⟨(by (with_reducible repeat (first | apply Zra | apply Zrn | apply Zrd)); exact HO437.out), (by (with_reducible repeat (first | refine Zkn ?_ _ | refine Zkd ?_ | refine Zka ?_ _)); exact BK431.out), (by repeat (first | (with_reducible first | exact HB.out | apply Zba | apply Zbn | apply Zbd | refine below_set ?_ GE431.out) | exact HB.out))⟩)
                     ·
                      skip
                      refine Kd.R_make_step Kd.bool _ 4 (by rfl) (N := 18) rfl 39 _ _ rfl 8 rfl rfl Try.underlying39 (.bool false) 1 info4 rfl (by decide) (by omega) false (ok := fun _ => True) (okp := fun _ => True) rfl (fun _ hk => hk) trivial (by omega) (by omega) (Below.refl _ _) (Nat.le_refl _) ?_
                      intro v439 w13 ho14 hb hg_ hnew_
                      clear hg_ hnew_
                      (first | rw [← Ny438.out] at ho14 | (simp only [Int.reduceToNat] at ho14; rw [← Ny438.out] at ho14))
                      have n0_ := Aside0.mk (Kd.R_lower ho14 (below_size (by repeat (first | (with_reducible first | exact HB.out | apply Zba | apply Zbn | apply Zbd | refine below_set ?_ GE431.out) | exact HB.out))))
                      have n1_ := Aside0.mk (blk_below (g := gb431) (o := .cells #[.int .i64 0, .int .i64 0, .slice none 0 0, .slice none 0 0, .slice none 0 0, .slice none 0 0] 93 (0, 0)) (by (with_reducible repeat (first | refine Zkn ?_ _ | refine Zkd ?_ | refine Zka ?_ _)); exact BK431.out) hb)
                      have n2_ := Aside0.mk (below_step (by repeat (first | (with_reducible first | exact HB.out | apply Zba | apply Zbn | apply Zbd | refine below_set ?_ GE431.out) | exact HB.out)) hb)
                      clear BK431
                      clear HB
                      have HO440 := n0_
                      have BK431 := n1_
                      have HB := n2_
                      clear n0_ n1_ n2_
                      clear hb ho14
                      refine hK.out _ _ trivial (fun hHeld => ?_)
                      clear hK K
                      refine norm_ (a' := ?_) ?_ ?_
                      rotate_left
                      ·
                       show Act.put _ (some 18) _ = _
                       simp only [Act.put, pSq]
                       rfl
                      exact norm_ (by first | (simp only [putAll, Act.put, List.setIfInBounds_toArray, List.set_cons_zero, List.set_cons_succ]; done) | (simp only [putAll, Act.put, List.setIfInBounds_toArray, List.set_cons_zero, List.set_cons_succ]; rfl)) (hJ6 (v439) _ ⟨(by (with_reducible repeat (first | apply Zra | apply Zrn | apply Zrd)); exact HO440.out), (by (with_reducible repeat (first | refine Zkn ?_ _ | refine Zkd ?_ | refine Zka ?_ _)); exact BK431.out), (by repeat (first | (with_reducible first | exact HB.out | apply Zba | apply Zbn | apply Zbd | refine below_set ?_ GE431.out) | exact HB.out))⟩)
                     ·
                      skip
                      refine Kd.S_make_step (Kd.slice 50 k50) _ 22 (by rfl) (N := 20) rfl 91 _ _ rfl 8 rfl rfl Try.underlying91 (.slice none 0 0) 24 info22 rfl (by decide) (by omega) [] (ok := fun _ => True) (okp := fun _ => True) ⟨_, rfl, Kd.R_nil _ _ _ _ _⟩ (fun _ hk => hk) trivial (by omega) (by omega) (Below.refl _ _) (Nat.le_refl _) ?_
                      intro v442 w13 ho14 hb hg_ hnew_
                      clear hg_ hnew_
                      (first | rw [← Ny441.out] at ho14 | (simp only [Int.reduceToNat] at ho14; rw [← Ny441.out] at ho14))
                      have n0_ := Aside0.mk (Kd.S_lower ho14 (below_size (by repeat (first | (with_reducible first | exact HB.out | apply Zba | apply Zbn | apply Zbd | refine below_set ?_ GE431.out) | exact HB.out))))
                      have n1_ := Aside0.mk (blk_below (g := gb431) (o := .cells #[.int .i64 0, .int .i64 0, .slice none 0 0, .slice none 0 0, .slice none 0 0, .slice none 0 0] 93 (0, 0)) (by (with_reducible repeat (first | refine Zkn ?_ _ | refine Zkd ?_ | refine Zka ?_ _)); exact BK431.out) hb)
                      have n2_ := Aside0.mk (below_step (by repeat (first | (with_reducible first | exact HB.out | apply Zba | apply Zbn | apply Zbd | refine below_set ?_ GE431.out) | exact HB.out)) hb)
                      clear BK431
                      clear HB
                      have HO443 := n0_
                      have BK431 := n1_
                      have HB := n2_
                      clear n0_ n1_ n2_
                      clear hb ho14
                      refine hK.out _ _ trivial (fun hHeld => ?_)
                      clear hK K
                      refine norm_ (a' := ?_) ?_ ?_
                      rotate_left
                      ·
                       show Act.put _ (some 20) _ = _
                       simp only [Act.put, pSq]
                       rfl
                      exact norm_ (by first | (simp only [putAll, Act.put, List.setIfInBounds_toArray, List.set_cons_zero, List.set_cons_succ]; done) | (simp only [putAll, Act.put, List.setIfInBounds_toArray, List.set_cons_zero, List.set_cons_succ]; rfl)) (hJ8 (v442) _ ⟨(by (with_reducible repeat (first | apply Zsa | apply Zsn | apply Zsd)); exact HO443.out), (by (with_reducible repeat (first | refine Zkn ?_ _ | refine Zkd ?_ | refine Zka ?_ _)); exact BK431.out), (by repeat (first | (with_reducible first | exact HB.out | apply Zba | apply Zbn | apply Zbd | refine below_set ?_ GE431.out) | exact HB.out))⟩)
                    ·
                     skip
                     rintro v442 w15 ⟨h0_, h1_, h2_⟩
                     have n0_ : Aside0 (Kd.S (Kd.slice 50 k50) 22 w15 w.heap.size (fun _ => True) v442 y441) := ⟨h0_⟩
                     have n1_ : Aside0 (w15.heap[gb431]? = some (.cells #[.int .i64 0, .int .i64 0, .slice none 0 0, .slice none 0 0, .slice none 0 0, .slice none 0 0] 93 (0, 0))) := ⟨h1_⟩
                     have n2_ : Aside0 (Below w.heap.size w w15) := ⟨h2_⟩
                     clear BK431
                     clear HB
                     clear h0_ h1_ h2_
                     have HO443 := n0_
                     have BK431 := n1_
                     have HB := n2_
                     clear n0_ n1_ n2_
                     have hHeld := trivial
                     refine norm_ (a' := ?_) ?_ ?_
                     rotate_left
                     ·
                      simp only [putAll, Act.put, List.setIfInBounds_toArray, List.set_cons_zero, List.set_cons_succ]
                      rfl
                     refine three_ (i := 2) (j := 4) (k := 6) (Ni := some 14) (Nj := some 16) (Nk := some 18) #[true, true, true, true, false, true, false, true, true, false, false, false] #[true, true, false, true, true, true, false, true, true, false, false, false] #[true, true, false, true, false, true, true, true, true, false, false, false] rfl rfl rfl rfl rfl rfl (three_of HT_.out (by kernel_rfl)) (by decide) (by decide) (by decide) (fun K hK => ?_) (fun K hK => ?_) (fun K hK => ?_)
                     ·
                      skip
                      refine Kd.R_make_step Kd.bool _ 4 (by rfl) (N := 14) rfl 39 _ _ rfl 8 rfl rfl Try.underlying39 (.bool false) 1 info4 rfl (by decide) (by omega) false (ok := fun _ => True) (okp := fun _ => True) rfl (fun _ hk => hk) trivial (by omega) (by omega) (Below.refl _ _) (Nat.le_refl _) ?_
                      intro v433 w16 ho17 hb hg_ hnew_
                      clear hg_ hnew_
                      (first | rw [← Ny432.out] at ho17 | (simp only [Int.reduceToNat] at ho17; rw [← Ny432.out] at ho17))
                      have n0_ := Aside0.mk (Kd.S_below (by (with_reducible repeat (first | apply Zsa | apply Zsn | apply Zsd)); exact HO443.out) hb)
                      have n1_ := Aside0.mk (Kd.R_lower ho17 (below_size (by repeat (first | (with_reducible first | exact HB.out | apply Zba | apply Zbn | apply Zbd | refine below_set ?_ GE431.out) | exact HB.out))))
                      have n2_ := Aside0.mk (blk_below (g := gb431) (o := .cells #[.int .i64 0, .int .i64 0, .slice none 0 0, .slice none 0 0, .slice none 0 0, .slice none 0 0] 93 (0, 0)) (by (with_reducible repeat (first | refine Zkn ?_ _ | refine Zkd ?_ | refine Zka ?_ _)); exact BK431.out) hb)
                      have n3_ := Aside0.mk (below_step (by repeat (first | (with_reducible first | exact HB.out | apply Zba | apply Zbn | apply Zbd | refine below_set ?_ GE431.out) | exact HB.out)) hb)
                      clear HO443
                      clear BK431
                      clear HB
                      have HO443 := n0_
                      have HO434 := n1_
                      have BK431 := n2_
                      have HB := n3_
                      clear n0_ n1_ n2_ n3_
                      clear hb ho17
                      refine hK.out _ _ trivial (fun hHeld => ?_)
                      clear hK K
                      refine norm_ (a' := ?_) ?_ ?_
                      rotate_left
                      ·
                       show Act.put _ (some 14) _ = _
                       simp only [Act.put, pSq]
                       rfl
                      exact norm_ (by first | (simp only [putAll, Act.put, List.setIfInBounds_toArray, List.set_cons_zero, List.set_cons_succ]; done) | (simp only [putAll, Act.put, List.setIfInBounds_toArray, List.set_cons_zero, List.set_cons_succ]; rfl)) (hJ2_8 (v433, v442) _ ⟨(by (with_reducible repeat (first | apply Zra | apply Zrn | apply Zrd)); exact HO434.out), (by (with_reducible repeat (first | apply Zsa | apply Zsn | apply Zsd)); exact HO443.out), (by (with_reducible repeat (first | refine Zkn ?_ _ | refine Zkd ?_ | refine Zka ?_ _)); exact BK431.out), (by repeat (first | (with_reducible first | exact HB.out | apply Zba | apply Zbn | apply Zbd | refine below_set ?_ GE431.out) | exact HB.out))⟩)
                     ·
                      skip
                      refine Kd.R_make_step (Kd.int .u64) _ 36 (by rfl) (N := 16) rfl 90 _ _ rfl 8 rfl rfl Try.underlying90 (.int .u64 0) 8 info36 rfl (by decide) (by omega) 0 (ok := fun _ => True) (okp := fun _ => True) rfl (fun _ hk => hk) trivial (by omega) (by omega) (Below.refl _ _) (Nat.le_refl _) ?_
                      intro v436 w16 ho17 hb hg_ hnew_
                      clear hg_ hnew_
                      (first | rw [← Ny435.out] at ho17 | (simp only [Int.reduceToNat] at ho17; rw [← Ny435.out] at ho17))
                      have n0_ := Aside0.mk (Kd.S_below (by (with_reducible repeat (first | apply Zsa | apply Zsn | apply Zsd)); exact HO443.out) hb)
                      have n1_ := Aside0.mk (Kd.R_lower ho17 (below_size (by repeat (first | (with_reducible first | exact HB.out | apply Zba | apply Zbn | apply Zbd | refine below_set ?_ GE431.out) | exact HB.out))))
                      have n2_ := Aside0.mk (blk_below (g := gb431) (o := .cells #[.int .i64 0, .int .i64 0, .slice none 0 0, .slice none 0 0, .slice none 0 0, .slice none 0 0] 93 (0, 0)) (by (with_reducible repeat (first | refine Zkn ?_ _ | refine Zkd ?_ | refine Zka ?_ _)); exact BK431.out) hb)
                      have n3_ := Aside0.mk (below_step (by repeat (first | (with_reducible first | exact HB.out | apply Zba | apply Zbn | apply Zbd | refine below_set ?_ GE431.out) | exact HB.out)) hb)
                      clear HO443
                      clear BK431
                      clear HB
                      have HO443 := n0_
                      have HO437 := n1_
                      have BK431 := n2_
                      have HB := n3_
                      clear n0_ n1_ n2_ n3_
                      clear hb ho17
                      refine hK.out _ _ trivial (fun hHeld => ?_)
                      clear hK K
                      refine norm_ (a' := ?_) ?_ ?_
                      rotate_left
                      ·
                       show Act.put _ (some 16) _ = _
                       simp only [Act.put, pSq]
                       rfl
                      exact norm_ (by first | (simp only [putAll, Act.put, List.setIfInBounds_toArray, List.set_cons_zero, List.set_cons_succ]; done) | (simp only [putAll, Act.put, List.setIfInBounds_toArray, List.set_cons_zero, List.set_cons_succ]; rfl)) (hJ4_8 (v436, v442) _ ⟨(by (with_reducible repeat (first | apply Zra | apply Zrn | apply Zrd)); exact HO437.out), (by (with_reducible repeat (first | apply Zsa | apply Zsn | apply Zsd)); exact HO443.out), (by (with_reducible repeat (first | refine Zkn ?_ _ | refine Zkd ?_ | refine Zka ?_ _)); exact BK431.out), (by repeat (first | (with_reducible first | exact HB.out | apply Zba | apply Zbn | apply Zbd | refine below_set ?_ GE431.out) | exact HB.out))⟩)
                     ·
                      skip
                      refine Kd.R_make_step Kd.bool _ 4 (by rfl) (N := 18) rfl 39 _ _ rfl 8 rfl rfl Try.underlying39 (.bool false) 1 info4 rfl (by decide) (by omega) false (ok := fun _ => True) (okp := fun _ => True) rfl (fun _ hk => hk) trivial (by omega) (by omega) (Below.refl _ _) (Nat.le_refl _) ?_
                      intro v439 w16 ho17 hb hg_ hnew_
                      clear hg_ hnew_
                      (first | rw [← Ny438.out] at ho17 | (simp only [Int.reduceToNat] at ho17; rw [← Ny438.out] at ho17))
                      have n0_ := Aside0.mk (Kd.S_below (by (with_reducible repeat (first | apply Zsa | apply Zsn | apply Zsd)); exact HO443.out) hb)
                      have n1_ := Aside0.mk (Kd.R_lower ho17 (below_size (by repeat (first | (with_reducible first | exact HB.out | apply Zba | apply Zbn | apply Zbd | refine below_set ?_ GE431.out) | exact HB.out))))
                      have n2_ := Aside0.mk (blk_below (g := gb431) (o := .cells #[.int .i64 0, .int .i64 0, .slice none 0 0, .slice none 0 0, .slice none 0 0, .slice none 0 0] 93 (0, 0)) (by (with_reducible repeat (first | refine Zkn ?_ _ | refine Zkd ?_ | refine Zka ?_ _)); exact BK431.out) hb)
                      have n3_ := Aside0.mk (below_step (by repeat (first | (with_reducible first | exact HB.out | apply Zba | apply Zbn | apply Zbd | refine below_set ?_ GE431.out) | exact HB.out)) hb)
                      clear HO443
                      clear BK431
                      clear HB
                      have HO443 := n0_
                      have HO440 := n1_
                      have BK431 := n2_
                      have HB := n3_
                      clear n0_ n1_ n2_ n3_
                      clear hb ho17
                      refine hK.out _ _ trivial (fun hHeld => ?_)
                      clear hK K
                      refine norm_ (a' := ?_) ?_ ?_
                      rotate_left
                      ·
                       show Act.put _ (some 18) _ = _
                       simp only [Act.put, pSq]
                       rfl
                      exact norm_ (by first | (simp only [putAll, Act.put, List.setIfInBounds_toArray, List.set_cons_zero, List.set_cons_succ]; done) | (simp only [putAll, Act.put, List.setIfInBounds_toArray, List.set_cons_zero, List.set_cons_succ]; rfl)) (hJ6_8 (v439, v442) _ ⟨(by (with_reducible repeat (first | apply Zra | apply Zrn | apply Zrd)); exact HO440.out), (by (with_reducible repeat (first | apply Zsa | apply Zsn | apply Zsd)); exact HO443.out), (by (with_reducible repeat (first | refine Zkn ?_ _ | refine Zkd ?_ | refine Zka ?_ _)); exact BK431.out), (by repeat (first | (with_reducible first | exact HB.out | apply Zba | apply Zbn | apply Zbd | refine below_set ?_ GE431.out) | exact HB.out))⟩)
                   ·
                    skip
                    rintro v439 w15 ⟨h0_, h1_, h2_⟩
                    have n0_ : Aside0 (Kd.R Kd.bool 4 w15 w.heap.size (fun _ => True) v439 y438) := ⟨h0_⟩
                    have n1_ : Aside0 (w15.heap[gb431]? = some (.cells #[.int .i64 0, .int .i64 0, .slice none 0 0, .slice none 0 0, .slice none 0 0, .slice none 0 0] 93 (0, 0))) := ⟨h1_⟩
                    have n2_ : Aside0 (Below w.heap.size w w15) := ⟨h2_⟩
                    clear BK431
                    clear HB
                    clear h0_ h1_ h2_
                    have HO440 := n0_
                    have BK431 := n1_
                    have HB := n2_
                    clear n0_ n1_ n2_
                    have hHeld := trivial
                    refine norm_ (a' := ?_) ?_ ?_
                    rotate_left
                    ·
                     simp only [putAll, Act.put, List.setIfInBounds_toArray, List.set_cons_zero, List.set_cons_succ]
                     rfl
                    refine three_ (i := 2) (j := 4) (k := 8) (Ni := some 14) (Nj := some 16) (Nk := some 20) #[true, true, true, true, false, true, true, true, false, false, false, false] #[true, true, false, true, true, true, true, true, false, false, false, false] #[true, true, false, true, false, true, true, true, true, false, false, false] rfl rfl rfl rfl rfl rfl (three_of HT_.out (by kernel_rfl)) (by decide) (by decide) (by decide) (fun K hK => ?_) (fun K hK => ?_) (fun K hK => ?_)
                    ·
                     skip
                     refine Kd.R_make_step Kd.bool _ 4 (by rfl) (N := 14) rfl 39 _ _ rfl 8 rfl rfl Try.underlying39 (.bool false) 1 info4 rfl (by decide) (by omega) false (ok := fun _ => True) (okp := fun _ => True) rfl (fun _ hk => hk) trivial (by omega) (by omega) (Below.refl _ _) (Nat.le_refl _) ?_
                     intro v433 w16 ho17 hb hg_ hnew_
                     clear hg_ hnew_
                     (first | rw [← Ny432.out] at ho17 | (simp only [Int.reduceToNat] at ho17; rw [← Ny432.out] at ho17))
                     have n0_ := Aside0.mk (Kd.R_elder' (by (with_reducible repeat (first | apply Zra | apply Zrn | apply Zrd)); exact HO440.out) (Kd.R_base ho17) hb)
                     have n1_ := Aside0.mk (Kd.R_lower (Kd.R_new' ho17 (Kd.R_lt (by (with_reducible repeat (first | apply Zra | apply Zrn | apply Zrd)); exact HO440.out))) (below_size (by repeat (first | (with_reducible first | exact HB.out | apply Zba | apply Zbn | apply Zbd | refine below_set ?_ GE431.out) | exact HB.out))))
                     have n2_ := Aside0.mk (blk_below (g := gb431) (o := .cells #[.int .i64 0, .int .i64 0, .slice none 0 0, .slice none 0 0, .slice none 0 0, .slice none 0 0] 93 (0, 0)) (by (with_reducible repeat (first | refine Zkn ?_ _ | refine Zkd ?_ | refine Zka ?_ _)); exact BK431.out) hb)
                     have n3_ := Aside0.mk (below_step (by repeat (first | (with_reducible first | exact HB.out | apply Zba | apply Zbn | apply Zbd | refine below_set ?_ GE431.out) | exact HB.out)) hb)
                     clear HO440
                     clear BK431
                     clear HB
                     have HO440 := n0_
                     have HO434 := n1_
                     have BK431 := n2_
                     have HB := n3_
                     clear n0_ n1_ n2_ n3_
                     clear hb ho17
                     refine hK.out _ _ trivial (fun hHeld => ?_)
                     clear hK K
                     refine norm_ (a' := ?_) ?_ ?_
                     rotate_left
                     ·
                      show Act.put _ (some 14) _ = _
                      simp only [Act.put, pSq]
                      rfl
                     exact norm_ (by first | (simp only [putAll, Act.put, List.setIfInBounds_toArray, List.set_cons_zero, List.set_cons_succ]; done) | (simp only [putAll, Act.put, List.setIfInBounds_toArray, List.set_cons_zero, List.set_cons_succ]; rfl)) (hJ2_6 (v433, v439) _ ⟨(by (with_reducible repeat (first | apply Zra | apply Zrn | apply Zrd)); exact Kd.R_mono HO434.out (fun _ hk => hk.2)), (by (with_reducible repeat (first | apply Zra | apply Zrn | apply Zrd)); exact Kd.R_mono HO440.out (fun _ hk => hk.2)), (by (with_reducible repeat (first | refine Zkn ?_ _ | refine Zkd ?_ | refine Zka ?_ _)); exact BK431.out), (by repeat (first | (with_reducible first | exact HB.out | apply Zba | apply Zbn | apply Zbd | refine below_set ?_ GE431.out) | exact HB.out))⟩)
                    ·
                     skip
                     refine Kd.R_make_step (Kd.int .u64) _ 36 (by rfl) (N := 16) rfl 90 _ _ rfl 8 rfl rfl Try.underlying90 (.int .u64 0) 8 info36 rfl (by decide) (by omega) 0 (ok := fun _ => True) (okp := fun _ => True) rfl (fun _ hk => hk) trivial (by omega) (by omega) (Below.refl _ _) (Nat.le_refl _) ?_
                     intro v436 w16 ho17 hb hg_ hnew_
                     clear hg_ hnew_
                     (first | rw [← Ny435.out] at ho17 | (simp only [Int.reduceToNat] at ho17; rw [← Ny435.out] at ho17))
                     have n0_ := Aside0.mk (Kd.R_below (by (with_reducible repeat (first | apply Zra | apply Zrn | apply Zrd)); exact HO440.out) hb)
                     have n1_ := Aside0.mk (Kd.R_lower ho17 (below_size (by repeat (first | (with_reducible first | exact HB.out | apply Zba | apply Zbn | apply Zbd | refine below_set ?_ GE431.out) | exact HB.out))))
                     have n2_ := Aside0.mk (blk_below (g := gb431) (o := .cells #[.int .i64 0, .int .i64 0, .slice none 0 0, .slice none 0 0, .slice none 0 0, .slice none 0 0] 93 (0, 0)) (by (with_reducible repeat (first | refine Zkn ?_ _ | refine Zkd ?_ | refine Zka ?_ _)); exact BK431.out) hb)
                     have n3_ := Aside0.mk (below_step (by repeat (first | (with_reducible first | exact HB.out | apply Zba | apply Zbn | apply Zbd | refine below_set ?_ GE431.out) | exact HB.out)) hb)
                     clear HO440
                     clear BK431
                     clear HB
                     have HO440 := n0_
                     have HO437 := n1_
                     have BK431 := n2_
                     have HB := n3_
                     clear n0_ n1_ n2_ n3_
                     clear hb ho17
                     refine hK.out _ _ trivial (fun hHeld => ?_)
                     clear hK K
                     refine norm_ (a' := ?_) ?_ ?_
                     rotate_left
                     ·
                      show Act.put _ (some 16) _ = _
                      simp only [Act.put, pSq]
                      rfl
                     exact norm_ (by first | (simp only [putAll, Act.put, List.setIfInBounds_toArray, List.set_cons_zero, List.set_cons_succ]; done) | (simp only [putAll, Act.put, List.setIfInBounds_toArray, List.set_cons_zero, List.set_cons_succ]; rfl)) (hJ4_6 (v436, v439) _ ⟨(by (with_reducible repeat (first | apply Zra | apply Zrn | apply Zrd)); exact HO437.out), (by (with_reducible repeat (first | apply Zra | apply Zrn | apply Zrd)); exact HO440.out), (by (with_reducible repeat (first | refine Zkn ?_ _ | refine Zkd ?_ | refine Zka ?_ _)); exact BK431.out), (by repeat (first | (with_reducible first | exact HB.out | apply Zba | apply Zbn | apply Zbd | refine below_set ?_ GE431.out) | exact HB.out))⟩)
                    ·
                     skip
                     refine Kd.S_make_step (Kd.slice 50 k50) _ 22 (by rfl) (N := 20) rfl 91 _ _ rfl 8 rfl rfl Try.underlying91 (.slice none 0 0) 24 info22 rfl (by decide) (by omega) [] (ok := fun _ => True) (okp := fun _ => True) ⟨_, rfl, Kd.R_nil _ _ _ _ _⟩ (fun _ hk => hk) trivial (by omega) (by omega) (Below.refl _ _) (Nat.le_refl _) ?_
                     intro v442 w16 ho17 hb hg_ hnew_
                     clear hg_ hnew_
                     (first | rw [← Ny441.out] at ho17 | (simp only [Int.reduceToNat] at ho17; rw [← Ny441.out] at ho17))
                     have n0_ := Aside0.mk (Kd.R_below (by (with_reducible repeat (first | apply Zra | apply Zrn | apply Zrd)); exact HO440.out) hb)
                     have n1_ := Aside0.mk (Kd.S_lower ho17 (below_size (by repeat (first | (with_reducible first | exact HB.out | apply Zba | apply Zbn | apply Zbd | refine below_set ?_ GE431.out) | exact HB.out))))
                     have n2_ := Aside0.mk (blk_below (g := gb431) (o := .cells #[.int .i64 0, .int .i64 0, .slice none 0 0, .slice none 0 0, .slice none 0 0, .slice none 0 0] 93 (0, 0)) (by (with_reducible repeat (first | refine Zkn ?_ _ | refine Zkd ?_ | refine Zka ?_ _)); exact BK431.out) hb)
                     have n3_ := Aside0.mk (below_step (by repeat (first | (with_reducible first | exact HB.out | apply Zba | apply Zbn | apply Zbd | refine below_set ?_ GE431.out) | exact HB.out)) hb)
                     clear HO440
                     clear BK431
                     clear HB
                     have HO440 := n0_
                     have HO443 := n1_
                     have BK431 := n2_
                     have HB := n3_
                     clear n0_ n1_ n2_ n3_
                     clear hb ho17
                     refine hK.out _ _ trivial (fun hHeld => ?_)
                     clear hK K
                     refine norm_ (a' := ?_) ?_ ?_
                     rotate_left
                     ·
                      show Act.put _ (some 20) _ = _
                      simp only [Act.put, pSq]
                      rfl
                     exact norm_ (by first | (simp only [putAll, Act.put, List.setIfInBounds_toArray, List.set_cons_zero, List.set_cons_succ]; done) | (simp only [putAll, Act.put, List.setIfInBounds_toArray, List.set_cons_zero, List.set_cons_succ]; rfl)) (hJ6_8 (v439, v442) _ ⟨(by (with_reducible repeat (first | apply Zra | apply Zrn | apply Zrd)); exact HO440.out), (by (with_reducible repeat (first | apply Zsa | apply Zsn | apply Zsd)); exact HO443.out), (by (with_reducible repeat (first | refine Zkn ?_ _ | refine Zkd ?_ | refine Zka ?_ _)); exact BK431.out), (by repeat (first | (with_reducible first | exact HB.out | apply Zba | apply Zbn | apply Zbd | refine below_set ?_ GE431.out) | exact HB.out))⟩)
                  ·
                   skip
                   rintro v436 w15 ⟨h0_, h1_, h2_⟩
                   have n0_ : Aside0 (Kd.R (Kd.int .u64) 36 w15 w.heap.size (fun _ => True) v436 y435) := ⟨h0_⟩
                   have n1_ : Aside0 (w15.heap[gb431]? = some (.cells #[.int .i64 0, .int .i64 0, .slice none 0 0, .slice none 0 0, .slice none 0 0, .slice none 0 0] 93 (0, 0))) := ⟨h1_⟩
                   have n2_ : Aside0 (Below w.heap.size w w15) := ⟨h2_⟩
                   clear BK431
                   clear HB
                   clear h0_ h1_ h2_
                   have HO437 := n0_
                   have BK431 := n1_
                   have HB := n2_
                   clear n0_ n1_ n2_
                   have hHeld := trivial
                   refine norm_ (a' := ?_) ?_ ?_
                   rotate_left
                   ·
                    simp only [putAll, Act.put, List.setIfInBounds_toArray, List.set_cons_zero, List.set_cons_succ]
                    rfl
                   refine three_ (i := 2) (j := 6) (k := 8) (Ni := some 14) (Nj := some 18) (Nk := some 20) #[true, true, true, true, true, true, false, true, false, false, false, false] #[true, true, false, true, true, true, true, true, false, false, false, false] #[true, true, false, true, true, true, false, true, true, false, false, false] rfl rfl rfl rfl rfl rfl (three_of HT_.out (by kernel_rfl)) (by decide) (by decide) (by decide) (fun K hK => ?_) (fun K hK => ?_) (fun K hK => ?_)
                   ·
                    skip
                    refine Kd.R_make_step Kd.bool _ 4 (by rfl) (N := 14) rfl 39 _ _ rfl 8 rfl rfl Try.underlying39 (.bool false) 1 info4 rfl (by decide) (by omega) false (ok := fun _ => True) (okp := fun _ => True) rfl (fun _ hk => hk) trivial (by omega) (by omega) (Below.refl _ _) (Nat.le_refl _) ?_
                    intro v433 w16 ho17 hb hg_ hnew_
                    clear hg_ hnew_
                    (first | rw [← Ny432.out] at ho17 | (simp only [Int.reduceToNat] at ho17; rw [← Ny432.out] at ho17))
                    have n0_ := Aside0.mk (Kd.R_below (by (with_reducible repeat (first | apply Zra | apply Zrn | apply Zrd)); exact HO437.out) hb)
                    have n1_ := Aside0.mk (Kd.R_lower ho17 (below_size (by repeat (first | (with_reducible first | exact HB.out | apply Zba | apply Zbn | apply Zbd | refine below_set ?_ GE431.out) | exact HB.out))))
                    have n2_ := Aside0.mk (blk_below (g := gb431) (o := .cells #[.int .i64 0, .int .i64 0, .slice none 0 0, .slice none 0 0, .slice none 0 0, .slice none 0 0] 93 (0, 0)) (by (with_reducible repeat (first | refine Zkn ?_ _ | refine Zkd ?_ | refine Zka ?_ _)); exact BK431.out) hb)
                    have n3_ := Aside0.mk (below_step (by repeat (first | (with_reducible first | exact HB.out | apply Zba | apply Zbn | apply Zbd | refine below_set ?_ GE431.out) | exact HB.out)) hb)
                    clear HO437
                    clear BK431
                    clear HB
                    have HO437 := n0_
                    have HO434 := n1_
                    have BK431 := n2_
                    have HB := n3_
                    clear n0_ n1_ n2_ n3_
                    clear hb ho17
                    refine hK.out _ _ trivial (fun hHeld => ?_)
                    clear hK K
                    refine norm_ (a' := ?_) ?_ ?_
                    rotate_left
                    ·
                     show Act.put _ (some 14) _ = _
                     simp only [Act.put, pSq]
                     rfl
                    exact norm_ (by first | (simp only [putAll, Act.put, List.setIfInBounds_toArray, List.set_cons_zero, List.set_cons_succ]; done) | (simp only [putAll, Act.put, List.setIfInBounds_toArray, List.set_cons_zero, List.set_cons_succ]; rfl)) (hJ2_4 (v433, v436) _ ⟨(by (with_reducible repeat (first | apply Zra | apply Zrn | apply Zrd)); exact HO434.out), (by (with_reducible repeat (first | apply Zra | apply Zrn | apply Zrd)); exact HO437.out), (by (with_reducible repeat (first | refine Zkn ?_ _ | refine Zkd ?_ | refine Zka ?_ _)); exact BK431.out), (by repeat (first | (with_reducible first | exact HB.out | apply Zba | apply Zbn | apply Zbd | refine below_set ?_ GE431.out) | exact HB.out))⟩)
                   ·
                    skip
                    refine Kd.R_make_step Kd.bool _ 4 (by rfl) (N := 18) rfl 39 _ _ rfl 8 rfl rfl Try.underlying39 (.bool false) 1 info4 rfl (by decide) (by omega) false (ok := fun _ => True) (okp := fun _ => True) rfl (fun _ hk => hk) trivial (by omega) (by omega) (Below.refl _ _) (Nat.le_refl _) ?_
                    intro v439 w16 ho17 hb hg_ hnew_
                    clear hg_ hnew_
                    (first | rw [← Ny438.out] at ho17 | (simp only [Int.reduceToNat] at ho17; rw [← Ny438.out] at ho17))
                    have n0_ := Aside0.mk (Kd.R_below (by (with_reducible repeat (first | apply Zra | apply Zrn | apply Zrd)); exact HO437.out) hb)
                    have n1_ := Aside0.mk (Kd.R_lower ho17 (below_size (by repeat (first | (with_reducible first | exact HB.out | apply Zba | apply Zbn | apply Zbd | refine below_set ?_ GE431.out) | exact HB.out))))
                    have n2_ := Aside0.mk (blk_below (g := gb431) (o := .cells #[.int .i64 0, .int .i64 0, .slice none 0 0, .slice none 0 0, .slice none 0 0, .slice none 0 0] 93 (0, 0)) (by (with_reducible repeat (first | refine Zkn ?_ _ | refine Zkd ?_ | refine Zka ?_ _)); exact BK431.out) hb)
                    have n3_ := Aside0.mk (below_step (by repeat (first | (with_reducible first | exact HB.out | apply Zba | apply Zbn | apply Zbd | refine below_set ?_ GE431.out) | exact HB.out)) hb)
                    clear HO437
                    clear BK431
                    clear HB
                    have HO437 := n0_
                    have HO440 := n1_
                    have BK431 := n2_
                    have HB := n3_
                    clear n0_ n1_ n2_ n3_
                    clear hb ho17
                    refine hK.out _ _ trivial (fun hHeld => ?_)
                    clear hK K
                    refine norm_ (a' := ?_) ?_ ?_
                    rotate_left
                    ·
                     show Act.put _ (some 18) _ = _
                     simp only [Act.put, pSq]
                     rfl
                    exact norm_ (by first | (simp only [putAll, Act.put, List.setIfInBounds_toArray, List.set_cons_zero, List.set_cons_succ]; done) | (simp only [putAll, Act.put, List.setIfInBounds_toArray, List.set_cons_zero, List.set_cons_succ]; rfl)) (hJ4_6 (v436, v439) _ ⟨(by (with_reducible repeat (first | apply Zra | apply Zrn | apply Zrd)); exact HO437.out), (by (with_reducible repeat (first | apply Zra | apply Zrn | apply Zrd)); exact HO440.out), (by (with_reducible repeat (first | refine Zkn ?_ _ | refine Zkd ?_ | refine Zka ?_ _)); exact BK431.out), (by repeat (first | (with_reducible first | exact HB.out | apply Zba | apply Zbn | apply Zbd | refine below_set ?_ GE431.out) | exact HB.out))⟩)
                   ·
                    skip
                    refine Kd.S_make_step (Kd.slice 50 k50) _ 22 (by rfl) (N := 20) rfl 91 _ _ rfl 8 rfl rfl Try.underlying91 (.slice none 0 0) 24 info22 rfl (by decide) (by omega) [] (ok := fun _ => True) (okp := fun _ => True) ⟨_, rfl, Kd.R_nil _ _ _ _ _⟩ (fun _ hk => hk) trivial (by omega) (by omega) (Below.refl _ _) (Nat.le_refl _) ?_
                    intro v442 w16 ho17 hb hg_ hnew_
                    clear hg_ hnew_
                    (first | rw [← Ny441.out] at ho17 | (simp only [Int.reduceToNat] at ho17; rw [← Ny441.out] at ho17))
                    have n0_ := Aside0.mk (Kd.R_below (by (with_reducible repeat (first | apply Zra | apply Zrn | apply Zrd)); exact HO437.out) hb)
                    have n1_ := Aside0.mk (Kd.S_lower ho17 (below_size (by repeat (first | (with_reducible first | exact HB.out | apply Zba | apply Zbn | apply Zbd | refine below_set ?_ GE431.out) | exact HB.out))))
                    have n2_ := Aside0.mk (blk_below (g := gb431) (o := .cells #[.int .i64 0, .int .i64 0, .slice none 0 0, .slice none 0 0, .slice none 0 0, .slice none 0 0] 93 (0, 0)) (by (with_reducible repeat (first | refine Zkn ?_ _ | refine Zkd ?_ | refine Zka ?_ _)); exact BK431.out) hb)
                    have n3_ := Aside0.mk (below_step (by repeat (first | (with_reducible first | exact HB.out | apply Zba | apply Zbn | apply Zbd | refine below_set ?_ GE431.out) | exact HB.out)) hb)
                    clear HO437
                    clear BK431
                    clear HB
                    have HO437 := n0_
                    have HO443 := n1_
                    have BK431 := n2_
                    have HB := n3_
                    clear n0_ n1_ n2_ n3_
                    clear hb ho17
                    refine hK.out _ _ trivial (fun hHeld => ?_)
                    clear hK K
                    refine norm_ (a' := ?_) ?_ ?_
                    rotate_left
                    ·
                     show Act.put _ (some 20) _ = _
                     simp only [Act.put, pSq]
                     rfl
                    exact norm_ (by first | (simp only [putAll, Act.put, List.setIfInBounds_toArray, List.set_cons_zero, List.set_cons_succ]; done) | (simp only [putAll, Act.put, List.setIfInBounds_toArray, List.set_cons_zero, List.set_cons_succ]; rfl)) (hJ4_8 (v436, v442) _ ⟨(by (with_reducible repeat (first | apply Zra | apply Zrn | apply Zrd)); exact HO437.out), (by (with_reducible repeat (first | apply Zsa | apply Zsn | apply Zsd)); exact HO443.out), (by (with_reducible repeat (first | refine Zkn ?_ _ | refine Zkd ?_ | refine Zka ?_ _)); exact BK431.out), (by repeat (first | (with_reducible first | exact HB.out | apply Zba | apply Zbn | apply Zbd | refine below_set ?_ GE431.out) | exact HB.out))⟩)
                 ·
                  skip
                  rintro v433 w15 ⟨h0_, h1_, h2_⟩
                  have n0_ : Aside0 (Kd.R Kd.bool 4 w15 w.heap.size (fun _ => True) v433 y432) := ⟨h0_⟩
                  have n1_ : Aside0 (w15.heap[gb431]? = some (.cells #[.int .i64 0, .int .i64 0, .slice none 0 0, .slice none 0 0, .slice none 0 0, .slice none 0 0] 93 (0, 0))) := ⟨h1_⟩
                  have n2_ : Aside0 (Below w.heap.size w w15) := ⟨h2_⟩
                  clear BK431
                  clear HB
                  clear h0_ h1_ h2_
                  have HO434 := n0_
                  have BK431 := n1_
                  have HB := n2_
                  clear n0_ n1_ n2_
                  have hHeld := trivial
                  refine norm_ (a' := ?_) ?_ ?_
                  rotate_left
                  ·
                   simp only [putAll, Act.put, List.setIfInBounds_toArray, List.set_cons_zero, List.set_cons_succ]
                   rfl
                  refine three_ (i := 4) (j := 6) (k := 8) (Ni := some 16) (Nj := some 18) (Nk := some 20) #[true, true, true, true, true, true, false, true, false, false, false, false] #[true, true, true, true, false, true, true, true, false, false, false, false] #[true, true, true, true, false, true, false, true, true, false, false, false] rfl rfl rfl rfl rfl rfl (three_of HT_.out (by kernel_rfl)) (by decide) (by decide) (by decide) (fun K hK => ?_) (fun K hK => ?_) (fun K hK => ?_)
                  ·
                   skip
                   refine Kd.R_make_step (Kd.int .u64) _ 36 (by rfl) (N := 16) rfl 90 _ _ rfl 8 rfl rfl Try.underlying90 (.int .u64 0) 8 info36 rfl (by decide) (by omega) 0 (ok := fun _ => True) (okp := fun _ => True) rfl (fun _ hk => hk) trivial (by omega) (by omega) (Below.refl _ _) (Nat.le_refl _) ?_
                   intro v436 w16 ho17 hb hg_ hnew_
                   clear hg_ hnew_
                   (first | rw [← Ny435.out] at ho17 | (simp only [Int.reduceToNat] at ho17; rw [← Ny435.out] at ho17))
                   have n0_ := Aside0.mk (Kd.R_below (by (with_reducible repeat (first | apply Zra | apply Zrn | apply Zrd)); exact HO434.out) hb)
                   have n1_ := Aside0.mk (Kd.R_lower ho17 (below_size (by repeat (first | (with_reducible first | exact HB.out | apply Zba | apply Zbn | apply Zbd | refine below_set ?_ GE431.out) | exact HB.out))))
                   have n2_ := Aside0.mk (blk_below (g := gb431) (o := .cells #[.int .i64 0, .int .i64 0, .slice none 0 0, .slice none 0 0, .slice none 0 0, .slice none 0 0] 93 (0, 0)) (by (with_reducible repeat (first | refine Zkn ?_ _ | refine Zkd ?_ | refine Zka ?_ _)); exact BK431.out) hb)
                   have n3_ := Aside0.mk (below_step (by repeat (first | (with_reducible first | exact HB.out | apply Zba | apply Zbn | apply Zbd | refine below_set ?_ GE431.out) | exact HB.out)) hb)
                   clear HO434
                   clear BK431
                   clear HB
                   have HO434 := n0_
                   have HO437 := n1_
                   have BK431 := n2_
                   have HB := n3_
                   clear n0_ n1_ n2_ n3_
                   clear hb ho17
                   refine hK.out _ _ trivial (fun hHeld => ?_)
                   clear hK K
                   refine norm_ (a' := ?_) ?_ ?_
                   rotate_left
                   ·
                    show Act.put _ (some 16) _ = _
                    simp only [Act.put, pSq]
                    rfl
                   exact norm_ (by first | (simp only [putAll, Act.put, List.setIfInBounds_toArray, List.set_cons_zero, List.set_cons_succ]; done) | (simp only [putAll, Act.put, List.setIfInBounds_toArray, List.set_cons_zero, List.set_cons_succ]; rfl)) (hJ2_4 (v433, v436) _ ⟨(by (with_reducible repeat (first | apply Zra | apply Zrn | apply Zrd)); exact HO434.out), (by (with_reducible repeat (first | apply Zra | apply Zrn | apply Zrd)); exact HO437.out), (by (with_reducible repeat (first | refine Zkn ?_ _ | refine Zkd ?_ | refine Zka ?_ _)); exact BK431.out), (by repeat (first | (with_reducible first | exact HB.out | apply Zba | apply Zbn | apply Zbd | refine below_set ?_ GE431.out) | exact HB.out))⟩)
                  ·
                   skip
                   refine Kd.R_make_step Kd.bool _ 4 (by rfl) (N := 18) rfl 39 _ _ rfl 8 rfl rfl Try.underlying39 (.bool false) 1 info4 rfl (by decide) (by omega) false (ok := fun _ => True) (okp := fun _ => True) rfl (fun _ hk => hk) trivial (by omega) (by omega) (Below.refl _ _) (Nat.le_refl _) ?_
                   intro v439 w16 ho17 hb hg_ hnew_
                   clear hg_ hnew_
                   (first | rw [← Ny438.out] at ho17 | (simp only [Int.reduceToNat] at ho17; rw [← Ny438.out] at ho17))
                   have n0_ := Aside0.mk (Kd.R_elder' (by (with_reducible repeat (first | apply Zra | apply Zrn | apply Zrd)); exact HO434.out) (Kd.R_base ho17) hb)
                   have n1_ := Aside0.mk (Kd.R_lower (Kd.R_new' ho17 (Kd.R_lt (by (with_reducible repeat (first | apply Zra | apply Zrn | apply Zrd)); exact HO434.out))) (below_size (by repeat (first | (with_reducible first | exact HB.out | apply Zba | apply Zbn | apply Zbd | refine below_set ?_ GE431.out) | exact HB.out))))
                   have n2_ := Aside0.mk (blk_below (g := gb431) (o := .cells #[.int .i64 0, .int .i64 0, .slice none 0 0, .slice none 0 0, .slice none 0 0, .slice none 0 0] 93 (0, 0)) (by (with_reducible repeat (first | refine Zkn ?_ _ | refine Zkd ?_ | refine Zka ?_ _)); exact BK431.out) hb)
                   have n3_ := Aside0.mk (below_step (by repeat (first | (with_reducible first | exact HB.out | apply Zba | apply Zbn | apply Zbd | refine below_set ?_ GE431.out) | exact HB.out)) hb)
                   clear HO434
                   clear BK431
                   clear HB
                   have HO434 := n0_
                   have HO440 := n1_
                   have BK431 := n2_
                   have HB := n3_
                   clear n0_ n1_ n2_ n3_
                   clear hb ho17
                   refine hK.out _ _ trivial (fun hHeld => ?_)
                   clear hK K
                   refine norm_ (a' := ?_) ?_ ?_
                   rotate_left
                   ·
                    show Act.put _ (some 18) _ = _
                    simp only [Act.put, pSq]
                    rfl
                   exact norm_ (by first | (simp only [putAll, Act.put, List.setIfInBounds_toArray, List.set_cons_zero, List.set_cons_succ]; done) | (simp only [putAll, Act.put, List.setIfInBounds_toArray, List.set_cons_zero, List.set_cons_succ]; rfl)) (hJ2_6 (v433, v439) _ ⟨(by (with_reducible repeat (first | apply Zra | apply Zrn | apply Zrd)); exact Kd.R_mono HO434.out (fun _ hk => hk.2)), (by (with_reducible repeat (first | apply Zra | apply Zrn | apply Zrd)); exact Kd.R_mono HO440.out (fun _ hk => hk.2)), (by (with_reducible repeat (first | refine Zkn ?_ _ | refine Zkd ?_ | refine Zka ?_ _)); exact BK431.out), (by repeat (first | (with_reducible first | exact HB.out | apply Zba | apply Zbn | apply Zbd | refine below_set ?_ GE431.out) | exact HB.out))⟩)
                  ·
                   skip
                   refine Kd.S_make_step (Kd.slice 50 k50) _ 22 (by rfl) (N := 20) rfl 91 _ _ rfl 8 rfl rfl Try.underlying91 (.slice none 0 0) 24 info22 rfl (by decide) (by omega) [] (ok := fun _ => True) (okp := fun _ => True) ⟨_, rfl, Kd.R_nil _ _ _ _ _⟩ (fun _ hk => hk) trivial (by omega) (by omega) (Below.refl _ _) (Nat.le_refl _) ?_
                   intro v442 w16 ho17 hb hg_ hnew_
                   clear hg_ hnew_
                   (first | rw [← Ny441.out] at ho17 | (simp only [Int.reduceToNat] at ho17; rw [← Ny441.out] at ho17))
                   have n0_ := Aside0.mk (Kd.R_below (by (with_reducible repeat (first | apply Zra | apply Zrn | apply Zrd)); exact HO434.out) hb)
                   have n1_ := Aside0.mk (Kd.S_lower ho17 (below_size (by repeat (first | (with_reducible first | exact HB.out | apply Zba | apply Zbn | apply Zbd | refine below_set ?_ GE431.out) | exact HB.out))))
                   have n2_ := Aside0.mk (blk_below (g := gb431) (o := .cells #[.int .i64 0, .int .i64 0, .slice none 0 0, .slice none 0 0, .slice none 0 0, .slice none 0 0] 93 (0, 0)) (by (with_reducible repeat (first | refine Zkn ?_ _ | refine Zkd ?_ | refine Zka ?_ _)); exact BK431.out) hb)
                   have n3_ := Aside0.mk (below_step (by repeat (first | (with_reducible first | exact HB.out | apply Zba | apply Zbn | apply Zbd | refine below_set ?_ GE431.out) | exact HB.out)) hb)
                   clear HO434
                   clear BK431
                   clear HB
                   have HO434 := n0_
                   have HO443 := n1_
                   have BK431 := n2_
                   have HB := n3_
                   clear n0_ n1_ n2_ n3_
                   clear hb ho17
                   refine hK.out _ _ trivial (fun hHeld => ?_)
                   clear hK K
                   refine norm_ (a' := ?_) ?_ ?_
                   rotate_left
                   ·
                    show Act.put _ (some 20) _ = _
                    simp only [Act.put, pSq]
                    rfl
                   exact norm_ (by first | (simp only [putAll, Act.put, List.setIfInBounds_toArray, List.set_cons_zero, List.set_cons_succ]; done) | (simp only [putAll, Act.put, List.setIfInBounds_toArray, List.set_cons_zero, List.set_cons_succ]; rfl)) (hJ2_8 (v433, v442) _ ⟨(by (with_reducible repeat (first | apply Zra | apply Zrn | apply Zrd)); exact HO434.out), (by (with_reducible repeat (first | apply Zsa | apply Zsn | apply Zsd)); exact HO443.out), (by (with_reducible repeat (first | refine Zkn ?_ _ | refine Zkd ?_ | refine Zka ?_ _)); exact BK431.out), (by repeat (first | (with_reducible first | exact HB.out | apply Zba | apply Zbn | apply Zbd | refine below_set ?_ GE431.out) | exact HB.out))⟩)
                ·
                 skip
                 rintro ⟨v439, v442⟩ w17 ⟨h0_, h1_, h2_, h3_⟩
                 have n0_ : Aside0 (Kd.R Kd.bool 4 w17 w.heap.size (fun _ => True) v439 y438) := ⟨h0_⟩
                 have n1_ : Aside0 (Kd.S (Kd.slice 50 k50) 22 w17 w.heap.size (fun _ => True) v442 y441) := ⟨h1_⟩
                 have n2_ : Aside0 (w17.heap[gb431]? = some (.cells #[.int .i64 0, .int .i64 0, .slice none 0 0, .slice none 0 0, .slice none 0 0, .slice none 0 0] 93 (0, 0))) := ⟨h2_⟩
                 have n3_ : Aside0 (Below w.heap.size w w17) := ⟨h3_⟩
                 clear BK431
                 clear HB
                 clear h0_ h1_ h2_ h3_
                 have HO440 := n0_
                 have HO443 := n1_
                 have BK431 := n2_
                 have HB := n3_
                 clear n0_ n1_ n2_ n3_
                 have hHeld := trivial
                 refine norm_ (a' := ?_) ?_ ?_
                 rotate_left
                 ·
                  simp only [putAll, Act.put, List.setIfInBounds_toArray, List.set_cons_zero, List.set_cons_succ]
                  rfl
                 refine two_ (i := 2) (j := 4) (Ni := some 14) (Nj := some 16) #[true, true, true, true, false, true, true, true, true, false, false, false] #[true, true, false, true, true, true, true, true, true, false, false, false] rfl rfl rfl rfl (two_of HT_.out (by kernel_rfl)) (by decide) (by decide) (fun K hK => ?_) (fun K hK => ?_)
                 ·
                  skip
                  refine Kd.R_make_step Kd.bool _ 4 (by rfl) (N := 14) rfl 39 _ _ rfl 8 rfl rfl Try.underlying39 (.bool false) 1 info4 rfl (by decide) (by omega) false (ok := fun _ => True) (okp := fun _ => True) rfl (fun _ hk => hk) trivial (by omega) (by omega) (Below.refl _ _) (Nat.le_refl _) ?_
                  intro v433 w18 ho19 hb hg_ hnew_
                  clear hg_ hnew_
                  (first | rw [← Ny432.out] at ho19 | (simp only [Int.reduceToNat] at ho19; rw [← Ny432.out] at ho19))
                  have n0_ := Aside0.mk (Kd.R_elder' (by (with_reducible repeat (first | apply Zra | apply Zrn | apply Zrd)); exact HO440.out) (Kd.R_base ho19) hb)
                  have n1_ := Aside0.mk (Kd.S_below (by (with_reducible repeat (first | apply Zsa | apply Zsn | apply Zsd)); exact HO443.out) hb)
                  have n2_ := Aside0.mk (Kd.R_lower (Kd.R_new' ho19 (Kd.R_lt (by (with_reducible repeat (first | apply Zra | apply Zrn | apply Zrd)); exact HO440.out))) (below_size (by repeat (first | (with_reducible first | exact HB.out | apply Zba | apply Zbn | apply Zbd | refine below_set ?_ GE431.out) | exact HB.out))))
                  have n3_ := Aside0.mk (blk_below (g := gb431) (o := .cells #[.int .i64 0, .int .i64 0, .slice none 0 0, .slice none 0 0, .slice none 0 0, .slice none 0 0] 93 (0, 0)) (by (with_reducible repeat (first | refine Zkn ?_ _ | refine Zkd ?_ | refine Zka ?_ _)); exact BK431.out) hb)
                  have n4_ := Aside0.mk (below_step (by repeat (first | (with_reducible first | exact HB.out | apply Zba | apply Zbn | apply Zbd | refine below_set ?_ GE431.out) | exact HB.out)) hb)
                  clear HO440
                  clear HO443
                  clear BK431
                  clear HB
                  have HO440 := n0_
                  have HO443 := n1_
                  have HO434 := n2_
                  have BK431 := n3_
                  have HB := n4_
                  clear n0_ n1_ n2_ n3_ n4_
                  clear hb ho19
                  refine hK.out _ _ trivial (fun hHeld => ?_)
                  clear hK K
                  refine norm_ (a' := ?_) ?_ ?_
                  rotate_left
                  ·
                   show Act.put _ (some 14) _ = _
                   simp only [Act.put, pSq]
                   rfl
                  exact norm_ (by first | (simp only [putAll, Act.put, List.setIfInBounds_toArray, List.set_cons_zero, List.set_cons_succ]; done) | (simp only [putAll, Act.put, List.setIfInBounds_toArray, List.set_cons_zero, List.set_cons_succ]; rfl)) (hJ2_6_8 (v433, v439, v442) _ ⟨(by (with_reducible repeat (first | apply Zra | apply Zrn | apply Zrd)); exact Kd.R_mono HO434.out (fun _ hk => hk.2)), (by (with_reducible repeat (first | apply Zra | apply Zrn | apply Zrd)); exact Kd.R_mono HO440.out (fun _ hk => hk.2)), (by (with_reducible repeat (first | apply Zsa | apply Zsn | apply Zsd)); exact HO443.out), (by (with_reducible repeat (first | refine Zkn ?_ _ | refine Zkd ?_ | refine Zka ?_ _)); exact BK431.out), (by repeat (first | (with_reducible first | exact HB.out | apply Zba | apply Zbn | apply Zbd | refine below_set ?_ GE431.out) | exact HB.out))⟩)
                 ·
                  skip
                  refine Kd.R_make_step (Kd.int .u64) _ 36 (by rfl) (N := 16) rfl 90 _ _ rfl 8 rfl rfl Try.underlying90 (.int .u64 0) 8 info36 rfl (by decide) (by omega) 0 (ok := fun _ => True) (okp := fun _ => True) rfl (fun _ hk => hk) trivial (by omega) (by omega) (Below.refl _ _) (Nat.le_refl _) ?_
                  intro v436 w18 ho19 hb hg_ hnew_
                  clear hg_ hnew_
                  (first | rw [← Ny435.out] at ho19 | (simp only [Int.reduceToNat] at ho19; rw [← Ny435.out] at ho19))
                  have n0_ := Aside0.mk (Kd.R_below (by (with_reducible repeat (first | apply Zra | apply Zrn | apply Zrd)); exact HO440.out) hb)
                  have n1_ := Aside0.mk (Kd.S_below (by (with_reducible repeat (first | apply Zsa | apply Zsn | apply Zsd)); exact HO443.out) hb)
                  have n2_ := Aside0.mk (Kd.R_lower ho19 (below_size (by repeat (first | (with_reducible first | exact HB.out | apply Zba | apply Zbn | apply Zbd | refine below_set ?_ GE431.out) | exact HB.out))))
                  have n3_ := Aside0.mk (blk_below (g := gb431) (o := .cells #[.int .i64 0, .int .i64 0, .slice none 0 0, .slice none 0 0, .slice none 0 0, .slice none 0 0] 93 (0, 0)) (by (with_reducible repeat (first | refine Zkn ?_ _ | refine Zkd ?_ | refine Zka ?_ _)); exact BK431.out) hb)
                  have n4_ := Aside0.mk (below_step (by repeat (first | (with_reducible first | exact HB.out | apply Zba | apply Zbn | apply Zbd | refine below_set ?_ GE431.out) | exact HB.out)) hb)
                  clear HO440
                  clear HO443
                  clear BK431
                  clear HB
                  have HO440 := n0_
                  have HO443 := n1_
                  have HO437 := n2_
                  have BK431 := n3_
                  have HB := n4_
                  clear n0_ n1_ n2_ n3_ n4_
                  clear hb ho19
                  refine hK.out _ _ trivial (fun hHeld => ?_)
                  clear hK K
                  refine norm_ (a' := ?_) ?_ ?_
                  rotate_left
                  ·
                   show Act.put _ (some 16) _ = _
                   simp only [Act.put, pSq]
                   rfl
                  exact norm_ (by first | (simp only [putAll, Act.put, List.setIfInBounds_toArray, List.set_cons_zero, List.set_cons_succ]; done) | (simp only [putAll, Act.put, List.setIfInBounds_toArray, List.set_cons_zero, List.set_cons_succ]; rfl)) (hJ4_6_8 (v436, v439, v442) _ ⟨(by (with_reducible repeat (first | apply Zra | apply Zrn | apply Zrd)); exact HO437.out), (by (with_reducible repeat (first | apply Zra | apply Zrn | apply Zrd)); exact HO440.out), (by (with_reducible repeat (first | apply Zsa | apply Zsn | apply Zsd)); exact HO443.out), (by (with_reducible repeat (first | refine Zkn ?_ _ | refine Zkd ?_ | refine Zka ?_ _)); exact BK431.out), (by repeat (first | (with_reducible first | exact HB.out | apply Zba | apply Zbn | apply Zbd | refine below_set ?_ GE431.out) | exact HB.out))⟩)
               ·
                skip
                rintro ⟨v436, v442⟩ w17 ⟨h0_, h1_, h2_, h3_⟩
                have n0_ : Aside0 (Kd.R (Kd.int .u64) 36 w17 w.heap.size (fun _ => True) v436 y435) := ⟨h0_⟩
                have n1_ : Aside0 (Kd.S (Kd.slice 50 k50) 22 w17 w.heap.size (fun _ => True) v442 y441) := ⟨h1_⟩
                have n2_ : Aside0 (w17.heap[gb431]? = some (.cells #[.int .i64 0, .int .i64 0, .slice none 0 0, .slice none 0 0, .slice none 0 0, .slice none 0 0] 93 (0, 0))) := ⟨h2_⟩
                have n3_ : Aside0 (Below w.heap.size w w17) := ⟨h3_⟩
                clear BK431
                clear HB
                clear h0_ h1_ h2_ h3_
                have HO437 := n0_
                have HO443 := n1_
                have BK431 := n2_
                have HB := n3_
                clear n0_ n1_ n2_ n3_
                have hHeld := trivial
                refine norm_ (a' := ?_) ?_ ?_
                rotate_left
                ·
                 simp only [putAll, Act.put, List.setIfInBounds_toArray, List.set_cons_zero, List.set_cons_succ]
                 rfl
                refine two_ (i := 2) (j := 6) (Ni := some 14) (Nj := some 18) #[true, true, true, true, true, true, false, true, true, false, false, false] #[true, true, false, true, true, true, true, true, true, false, false, false] rfl rfl rfl rfl (two_of HT_.out (by kernel_rfl)) (by decide) (by decide) (fun K hK => ?_) (fun K hK => ?_)
                ·
                 skip
                 refine Kd.R_make_step Kd.bool _ 4 (by rfl) (N := 14) rfl 39 _ _ rfl 8 rfl rfl Try.underlying39 (.bool false) 1 info4 rfl (by decide) (by omega) false (ok := fun _ => True) (okp := fun _ => True) rfl (fun _ hk => hk) trivial (by omega) (by omega) (Below.refl _ _) (Nat.le_refl _) ?_
                 intro v433 w18 ho19 hb hg_ hnew_
                 clear hg_ hnew_
                 (first | rw [← Ny432.out] at ho19 | (simp only [Int.reduceToNat] at ho19; rw [← Ny432.out] at ho19))
                 have n0_ := Aside0.mk (Kd.R_below (by (with_reducible repeat (first | apply Zra | apply Zrn | apply Zrd)); exact HO437.out) hb)
                 have n1_ := Aside0.mk (Kd.S_below (by (with_reducible repeat (first | apply Zsa | apply Zsn | apply Zsd)); exact HO443.out) hb)
                 have n2_ := Aside0.mk (Kd.R_lower ho19 (below_size (by repeat (first | (with_reducible first | exact HB.out | apply Zba | apply Zbn | apply Zbd | refine below_set ?_ GE431.out) | exact HB.out))))
                 have n3_ := Aside0.mk (blk_below (g := gb431) (o := .cells #[.int .i64 0, .int .i64 0, .slice none 0 0, .slice none 0 0, .slice none 0 0, .slice none 0 0] 93 (0, 0)) (by (with_reducible repeat (first | refine Zkn ?_ _ | refine Zkd ?_ | refine Zka ?_ _)); exact BK431.out) hb)
                 have n4_ := Aside0.mk (below_step (by repeat (first | (with_reducible first | exact HB.out | apply Zba | apply Zbn | apply Zbd | refine below_set ?_ GE431.out) | exact HB.out)) hb)
                 clear HO437
                 clear HO443
                 clear BK431
                 clear HB
                 have HO437 := n0_
                 have HO443 := n1_
                 have HO434 := n2_
                 have BK431 := n3_
                 have HB := n4_
                 clear n0_ n1_ n2_ n3_ n4_
                 clear hb ho19
                 refine hK.out _ _ trivial (fun hHeld => ?_)
                 clear hK K
                 refine norm_ (a' := ?_) ?_ ?_
                 rotate_left
                 ·
                  show Act.put _ (some 14) _ = _
                  simp only [Act.put, pSq]
                  rfl
                 exact norm_ (by first | (simp only [putAll, Act.put, List.setIfInBounds_toArray, List.set_cons_zero, List.set_cons_succ]; done) | (simp only [putAll, Act.put, List.setIfInBounds_toArray, List.set_cons_zero, List.set_cons_succ]; rfl)) (hJ2_4_8 (v433, v436, v442) _ ⟨(by (with_reducible repeat (first | apply Zra | apply Zrn | apply Zrd)); exact HO434.out), (by (with_reducible repeat (first | apply Zra | apply Zrn | apply Zrd)); exact HO437.out), (by (with_reducible repeat (first | apply Zsa | apply Zsn | apply Zsd)); exact HO443.out), (by (with_reducible repeat (first | refine Zkn ?_ _ | refine Zkd ?_ | refine Zka ?_ _)); exact BK431.out), (by repeat (first | (with_reducible first | exact HB.out | apply Zba | apply Zbn | apply Zbd | refine below_set ?_ GE431.out) | exact HB.out))⟩)
                ·
                 skip
                 refine Kd.R_make_step Kd.bool _ 4 (by rfl) (N := 18) rfl 39 _ _ rfl 8 rfl rfl Try.underlying39 (.bool false) 1 info4 rfl (by decide) (by omega) false (ok := fun _ => True) (okp := fun _ => True) rfl (fun _ hk => hk) trivial (by omega) (by omega) (Below.refl _ _) (Nat.le_refl _) ?_
                 intro v439 w18 ho19 hb hg_ hnew_
                 clear hg_ hnew_
                 (first | rw [← Ny438.out] at ho19 | (simp only [Int.reduceToNat] at ho19; rw [← Ny438.out] at ho19))
                 have n0_ := Aside0.mk (Kd.R_below (by (with_reducible repeat (first | apply Zra | apply Zrn | apply Zrd)); exact HO437.out) hb)
                 have n1_ := Aside0.mk (Kd.S_below (by (with_reducible repeat (first | apply Zsa | apply Zsn | apply Zsd)); exact HO443.out) hb)
                 have n2_ := Aside0.mk (Kd.R_lower ho19 (below_size (by repeat (first | (with_reducible first | exact HB.out | apply Zba | apply Zbn | apply Zbd | refine below_set ?_ GE431.out) | exact HB.out))))
                 have n3_ := Aside0.mk (blk_below (g := gb431) (o := .cells #[.int .i64 0, .int .i64 0, .slice none 0 0, .slice none 0 0, .slice none 0 0, .slice none 0 0] 93 (0, 0)) (by (with_reducible repeat (first | refine Zkn ?_ _ | refine Zkd ?_ | refine Zka ?_ _)); exact BK431.out) hb)
                 have n4_ := Aside0.mk (below_step (by repeat (first | (with_reducible first | exact HB.out | apply Zba | apply Zbn | apply Zbd | refine below_set ?_ GE431.out) | exact HB.out)) hb)
                 clear HO437
                 clear HO443
                 clear BK431
                 clear HB
                 have HO437 := n0_
                 have HO443 := n1_
                 have HO440 := n2_
                 have BK431 := n3_
                 have HB := n4_
                 clear n0_ n1_ n2_ n3_ n4_
                 clear hb ho19
                 refine hK.out _ _ trivial (fun hHeld => ?_)
                 clear hK K
                 refine norm_ (a' := ?_) ?_ ?_
                 rotate_left
                 ·
                  show Act.put _ (some 18) _ = _
                  simp only [Act.put, pSq]
                  rfl
                 exact norm_ (by first | (simp only [putAll, Act.put, List.setIfInBounds_toArray, List.set_cons_zero, List.set_cons_succ]; done) | (simp only [putAll, Act.put, List.setIfInBounds_toArray, List.set_cons_zero, List.set_cons_succ]; rfl)) (hJ4_6_8 (v436, v439, v442) _ ⟨(by (with_reducible repeat (first | apply Zra | apply Zrn | apply Zrd)); exact HO437.out), (by (with_reducible repeat (first | apply Zra | apply Zrn | apply Zrd)); exact HO440.out), (by (with_reducible repeat (first | apply Zsa | apply Zsn | apply Zsd)); exact HO443.out), (by (with_reducible repeat (first | refine Zkn ?_ _ | refine Zkd ?_ | refine Zka ?_ _)); exact BK431.out), (by repeat (first | (with_reducible first | exact HB.out | apply Zba | apply Zbn | apply Zbd | refine below_set ?_ GE431.out) | exact HB.out))⟩)
              ·
               skip
               rintro ⟨v436, v439⟩ w17 ⟨h0_, h1_, h2_, h3_⟩
               have n0_ : Aside0 (Kd.R (Kd.int .u64) 36 w17 w.heap.size (fun _ => True) v436 y435) := ⟨h0_⟩
               have n1_ : Aside0 (Kd.R Kd.bool 4 w17 w.heap.size (fun _ => True) v439 y438) := ⟨h1_⟩
               have n2_ : Aside0 (w17.heap[gb431]? = some (.cells #[.int .i64 0, .int .i64 0, .slice none 0 0, .slice none 0 0, .slice none 0 0, .slice none 0 0] 93 (0, 0))) := ⟨h2_⟩
               have n3_ : Aside0 (Below w.heap.size w w17) := ⟨h3_⟩
               clear BK431
               clear HB
               clear h0_ h1_ h2_ h3_
               have HO437 := n0_
               have HO440 := n1_
               have BK431 := n2_
               have HB := n3_
               clear n0_ n1_ n2_ n3_
               have hHeld := trivial
               refine norm_ (a' := ?_) ?_ ?_
               rotate_left
               ·
                simp only [putAll, Act.put, List.setIfInBounds_toArray, List.set_cons_zero, List.set_cons_succ]
                rfl
               refine two_ (i := 2) (j := 8) (Ni := some 14) (Nj := some 20) #[true, true, true, true, true, true, true, true, false, false, false, false] #[true, true, false, true, true, true, true, true, true, false, false, false] rfl rfl rfl rfl (two_of HT_.out (by kernel_rfl)) (by decide) (by decide) (fun K hK => ?_) (fun K hK => ?_)
               ·
                skip
                refine Kd.R_make_step Kd.bool _ 4 (by rfl) (N := 14) rfl 39 _ _ rfl 8 rfl rfl Try.underlying39 (.bool false) 1 info4 rfl (by decide) (by omega) false (ok := fun _ => True) (okp := fun _ => True) rfl (fun _ hk => hk) trivial (by omega) (by omega) (Below.refl _ _) (Nat.le_refl _) ?_
                intro v433 w18 ho19 hb hg_ hnew_
                clear hg_ hnew_
                (first | rw [← Ny432.out] at ho19 | (simp only [Int.reduceToNat] at ho19; rw [← Ny432.out] at ho19))
                have n0_ := Aside0.mk (Kd.R_below (by (with_reducible repeat (first | apply Zra | apply Zrn | apply Zrd)); exact HO437.out) hb)
                have n1_ := Aside0.mk (Kd.R_elder' (by (with_reducible repeat (first | apply Zra | apply Zrn | apply Zrd)); exact HO440.out) (Kd.R_base ho19) hb)
                have n2_ := Aside0.mk (Kd.R_lower (Kd.R_new' ho19 (Kd.R_lt (by (with_reducible repeat (first | apply Zra | apply Zrn | apply Zrd)); exact HO440.out))) (below_size (by repeat (first | (with_reducible first | exact HB.out | apply Zba | apply Zbn | apply Zbd | refine below_set ?_ GE431.out) | exact HB.out))))
                have n3_ := Aside0.mk (blk_below (g := gb431) (o := .cells #[.int .i64 0, .int .i64 0, .slice none 0 0, .slice none 0 0, .slice none 0 0, .slice none 0 0] 93 (0, 0)) (by (with_reducible repeat (first | refine Zkn ?_ _ | refine Zkd ?_ | refine Zka ?_ _)); exact BK431.out) hb)
                have n4_ := Aside0.mk (below_step (by repeat (first | (with_reducible first | exact HB.out | apply Zba | apply Zbn | apply Zbd | refine below_set ?_ GE431.out) | exact HB.out)) hb)
                clear HO437
                clear HO440
                clear BK431
                clear HB
                have HO437 := n0_
                have HO440 := n1_
                have HO434 := n2_
                have BK431 := n3_
                have HB := n4_
                clear n0_ n1_ n2_ n3_ n4_
                clear hb ho19
                refine hK.out _ _ trivial (fun hHeld => ?_)
                clear hK K
                refine norm_ (a' := ?_) ?_ ?_
                rotate_left
                ·
                 show Act.put _ (some 14) _ = _
                 simp only [Act.put, pSq]
                 rfl
                exact norm_ (by first | (simp only [putAll, Act.put, List.setIfInBounds_toArray, List.set_cons_zero, List.set_cons_succ]; done) | (simp only [putAll, Act.put, List.setIfInBounds_toArray, List.set_cons_zero, List.set_cons_succ]; rfl)) (hJ2_4_6 (v433, v436, v439) _ ⟨(by (with_reducible repeat (first | apply Zra | apply Zrn | apply Zrd)); exact Kd.R_mono HO434.out (fun _ hk => hk.2)), (by (with_reducible repeat (first | apply Zra | apply Zrn | apply Zrd)); exact HO437.out), (by (with_reducible repeat (first | apply Zra | apply Zrn | apply Zrd)); exact Kd.R_mono HO440.out (fun _ hk => hk.2)), (by (with_reducible repeat (first | refine Zkn ?_ _ | refine Zkd ?_ | refine Zka ?_ _)); exact BK431.out), (by repeat (first | (with_reducible first | exact HB.out | apply Zba | apply Zbn | apply Zbd | refine below_set ?_ GE431.out) | exact HB.out))⟩)
               ·
                skip
                refine Kd.S_make_step (Kd.slice 50 k50) _ 22 (by rfl) (N := 20) rfl 91 _ _ rfl 8 rfl rfl Try.underlying91 (.slice none 0 0) 24 info22 rfl (by decide) (by omega) [] (ok := fun _ => True) (okp := fun _ => True) ⟨_, rfl, Kd.R_nil _ _ _ _ _⟩ (fun _ hk => hk) trivial (by omega) (by omega) (Below.refl _ _) (Nat.le_refl _) ?_
                intro v442 w18 ho19 hb hg_ hnew_
                clear hg_ hnew_
                (first | rw [← Ny441.out] at ho19 | (simp only [Int.reduceToNat] at ho19; rw [← Ny441.out] at ho19))
                have n0_ := Aside0.mk (Kd.R_below (by (with_reducible repeat (first | apply Zra | apply Zrn | apply Zrd)); exact HO437.out) hb)
                have n1_ := Aside0.mk (Kd.R_below (by (with_reducible repeat (first | apply Zra | apply Zrn | apply Zrd)); exact HO440.out) hb)
                have n2_ := Aside0.mk (Kd.S_lower ho19 (below_size (by repeat (first | (with_reducible first | exact HB.out | apply Zba | apply Zbn | apply Zbd | refine below_set ?_ GE431.out) | exact HB.out))))
                have n3_ := Aside0.mk (blk_below (g := gb431) (o := .cells #[.int .i64 0, .int .i64 0, .slice none 0 0, .slice none 0 0, .slice none 0 0, .slice none 0 0] 93 (0, 0)) (by (with_reducible repeat (first | refine Zkn ?_ _ | refine Zkd ?_ | refine Zka ?_ _)); exact BK431.out) hb)
                have n4_ := Aside0.mk (below_step (by repeat (first | (with_reducible first | exact HB.out | apply Zba | apply Zbn | apply Zbd | refine below_set ?_ GE431.out) | exact HB.out)) hb)
                clear HO437
                clear HO440
                clear BK431
                clear HB
                have HO437 := n0_
                have HO440 := n1_
                have HO443 := n2_
                have BK431 := n3_
                have HB := n4_
                clear n0_ n1_ n2_ n3_ n4_
                clear hb ho19
                refine hK.out _ _ trivial (fun hHeld => ?_)
                clear hK K
                refine norm_ (a' := ?_) ?_ ?_
                rotate_left
                ·
                 show Act.put _ (some 20) _ = _
                 simp only [Act.put, pSq]
                 rfl
                exact norm_ (by first | (simp only [putAll, Act.put, List.setIfInBounds_toArray, List.set_cons_zero, List.set_cons_succ]; done) | (simp only [putAll, Act.put, List.setIfInBounds_toArray, List.set_cons_zero, List.set_cons_succ]; rfl)) (hJ4_6_8 (v436, v439, v442) _ ⟨(by (with_reducible repeat (first | apply Zra | apply Zrn | apply Zrd)); exact HO437.out), (by (with_reducible repeat (first | apply Zra | apply Zrn | apply Zrd)); exact HO440.out), (by (with_reducible repeat (first | apply Zsa | apply Zsn | apply Zsd)); exact HO443.out), (by (with_reducible repeat (first | refine Zkn ?_ _ | refine Zkd ?_ | refine Zka ?_ _)); exact BK431.out), (by repeat (first | (with_reducible first | exact HB.out | apply Zba | apply Zbn | apply Zbd | refine below_set ?_ GE431.out) | exact HB.out))⟩)
             ·
              skip
              rintro ⟨v433, v442⟩ w17 ⟨h0_, h1_, h2_, h3_⟩
              have n0_ : Aside0 (Kd.R Kd.bool 4 w17 w.heap.size (fun _ => True) v433 y432) := ⟨h0_⟩
              have n1_ : Aside0 (Kd.S (Kd.slice 50 k50) 22 w17 w.heap.size (fun _ => True) v442 y441) := ⟨h1_⟩
              have n2_ : Aside0 (w17.heap[gb431]? = some (.cells #[.int .i64 0, .int .i64 0, .slice none 0 0, .slice none 0 0, .slice none 0 0, .slice none 0 0] 93 (0, 0))) := ⟨h2_⟩
              have n3_ : Aside0 (Below w.heap.size w w17) := ⟨h3_⟩
              clear BK431
              clear HB
              clear h0_ h1_ h2_ h3_
              have HO434 := n0_
              have HO443 := n1_
              have BK431 := n2_
              have HB := n3_
              clear n0_ n1_ n2_ n3_
              have hHeld := trivial
              refine norm_ (a' := ?_) ?_ ?_
              rotate_left
              ·
               simp only [putAll, Act.put, List.setIfInBounds_toArray, List.set_cons_zero, List.set_cons_succ]
               rfl
              refine two_ (i := 4) (j := 6) (Ni := some 16) (Nj := some 18) #[true, true, true, true, true, true, false, true, true, false, false, false] #[true, true, true, true, false, true, true, true, true, false, false, false] rfl rfl rfl rfl (two_of HT_.out (by kernel_rfl)) (by decide) (by decide) (fun K hK => ?_) (fun K hK => ?_)
              ·
               skip
               refine Kd.R_make_step (Kd.int .u64) _ 36 (by rfl) (N := 16) rfl 90 _ _ rfl 8 rfl rfl Try.underlying90 (.int .u64 0) 8 info36 rfl (by decide) (by omega) 0 (ok := fun _ => True) (okp := fun _ => True) rfl (fun _ hk => hk) trivial (by omega) (by omega) (Below.refl _ _) (Nat.le_refl _) ?_
               intro v436 w18 ho19 hb hg_ hnew_
               clear hg_ hnew_
               (first | rw [← Ny435.out] at ho19 | (simp only [Int.reduceToNat] at ho19; rw [← Ny435.out] at ho19))
               have n0_ := Aside0.mk (Kd.R_below (by (with_reducible repeat (first | apply Zra | apply Zrn | apply Zrd)); exact HO434.out) hb)
               have n1_ := Aside0.mk (Kd.S_below (by (with_reducible repeat (first | apply Zsa | apply Zsn | apply Zsd)); exact HO443.out) hb)
               have n2_ := Aside0.mk (Kd.R_lower ho19 (below_size (by repeat (first | (with_reducible first | exact HB.out | apply Zba | apply Zbn | apply Zbd | refine below_set ?_ GE431.out) | exact HB.out))))
               have n3_ := Aside0.mk (blk_below (g := gb431) (o := .cells #[.int .i64 0, .int .i64 0, .slice none 0 0, .slice none 0 0, .slice none 0 0, .slice none 0 0] 93 (0, 0)) (by (with_reducible repeat (first | refine Zkn ?_ _ | refine Zkd ?_ | refine Zka ?_ _)); exact BK431.out) hb)
               have n4_ := Aside0.mk (below_step (by repeat (first | (with_reducible first | exact HB.out | apply Zba | apply Zbn | apply Zbd | refine below_set ?_ GE431.out) | exact HB.out)) hb)
               clear HO434
               clear HO443
               clear BK431
               clear HB
               have HO434 := n0_
               have HO443 := n1_
               have HO437 := n2_
               have BK431 := n3_
               have HB := n4_
               clear n0_ n1_ n2_ n3_ n4_
               clear hb ho19
               refine hK.out _ _ trivial (fun hHeld => ?_)
               clear hK K
               refine norm_ (a' := ?_) ?_ ?_
               rotate_left
               ·
                show Act.put _ (some 16) _ = _
                simp only [Act.put, pSq]
                rfl
               exact norm_ (by first | (simp only [putAll, Act.put, List.setIfInBounds_toArray, List.set_cons_zero, List.set_cons_succ]; done) | (simp only [putAll, Act.put, List.setIfInBounds_toArray, List.set_cons_zero, List.set_cons_succ]; rfl)) (hJ2_4_8 (v433, v436, v442) _ ⟨(by (with_reducible repeat (first | apply Zra | apply Zrn | apply Zrd)); exact HO434.out), (by (with_reducible repeat (first | apply Zra | apply Zrn | apply Zrd)); exact HO437.out), (by (with_reducible repeat (first | apply Zsa | apply Zsn | apply Zsd)); exact HO443.out), (by (with_reducible repeat (first | refine Zkn ?_ _ | refine Zkd ?_ | refine Zka ?_ _)); exact BK431.out), (by repeat (first | (with_reducible first | exact HB.out | apply Zba | apply Zbn | apply Zbd | refine below_set ?_ GE431.out) | exact HB.out))⟩)
              ·
               skip
               refine Kd.R_make_step Kd.bool _ 4 (by rfl) (N := 18) rfl 39 _ _ rfl 8 rfl rfl Try.underlying39 (.bool false) 1 info4 rfl (by decide) (by omega) false (ok := fun _ => True) (okp := fun _ => True) rfl (fun _ hk => hk) trivial (by omega) (by omega) (Below.refl _ _) (Nat.le_refl _) ?_
               intro v439 w18 ho19 hb hg_ hnew_
               clear hg_ hnew_
               (first | rw [← Ny438.out] at ho19 | (simp only [Int.reduceToNat] at ho19; rw [← Ny438.out] at ho19))
               have n0_ := Aside0.mk (Kd.R_elder' (by (with_reducible repeat (first | apply Zra | apply Zrn | apply Zrd)); exact HO434.out) (Kd.R_base ho19) hb)
               have n1_ := Aside0.mk (Kd.S_below (by (with_reducible repeat (first | apply Zsa | apply Zsn | apply Zsd)); exact HO443.out) hb)
               have n2_ := Aside0.mk (Kd.R_lower (Kd.R_new' ho19 (Kd.R_lt (by (with_reducible repeat (first | apply Zra | apply Zrn | apply Zrd)); exact HO434.out))) (below_size (by repeat (first | (with_reducible first | exact HB.out | apply Zba | apply Zbn | apply Zbd | refine below_set ?_ GE431.out) | exact HB.out))))
               have n3_ := Aside0.mk (blk_below (g := gb431) (o := .cells #[.int .i64 0, .int .i64 0, .slice none 0 0, .slice none 0 0, .slice none 0 0, .slice none 0 0] 93 (0, 0)) (by (with_reducible repeat (first | refine Zkn ?_ _ | refine Zkd ?_ | refine Zka ?_ _)); exact BK431.out) hb)
               have n4_ := Aside0.mk (below_step (by repeat (first | (with_reducible first | exact HB.out | apply Zba | apply Zbn | apply Zbd | refine below_set ?_ GE431.out) | exact HB.out)) hb)
               clear HO434
               clear HO443
               clear BK431
               clear HB
               have HO434 := n0_
               have HO443 := n1_
               have HO440 := n2_
               have BK431 := n3_
               have HB := n4_
               clear n0_ n1_ n2_ n3_ n4_
               clear hb ho19
               refine hK.out _ _ trivial (fun hHeld => ?_)
               clear hK K
               refine norm_ (a' := ?_) ?_ ?_
               rotate_left
               ·
                show Act.put _ (some 18) _ = _
                simp only [Act.put, pSq]
                rfl
               exact norm_ (by first | (simp only [putAll, Act.put, List.setIfInBounds_toArray, List.set_cons_zero, List.set_cons_succ]; done) | (simp only [putAll, Act.put, List.setIfInBounds_toArray, List.set_cons_zero, List.set_cons_succ]; rfl)) (hJ2_6_8 (v433, v439, v442) _ ⟨(by (with_reducible repeat (first | apply Zra | apply Zrn | apply Zrd)); exact Kd.R_mono HO434.out (fun _ hk => hk.2)), (by (with_reducible repeat (first | apply Zra | apply Zrn | apply Zrd)); exact Kd.R_mono HO440.out (fun _ hk => hk.2)), (by (with_reducible repeat (first | apply Zsa | apply Zsn | apply Zsd)); exact HO443.out), (by (with_reducible repeat (first | refine Zkn ?_ _ | refine Zkd ?_ | refine Zka ?_ _)); exact BK431.out), (by repeat (first | (with_reducible first | exact HB.out | apply Zba | apply Zbn | apply Zbd | refine below_set ?_ GE431.out) | exact HB.out))⟩)
            ·
             skip
             rintro ⟨v433, v439⟩ w17 ⟨h0_, h1_, h2_, h3_⟩
             have n0_ : Aside0 (Kd.R Kd.bool 4 w17 w.heap.size (fun k_ => some k_ ≠ (v439 : Value).ownBlock) v433 y432) := ⟨h0_⟩
             have n1_ : Aside0 (Kd.R Kd.bool 4 w17 w.heap.size (fun k_ => some k_ ≠ (v433 : Value).ownBlock) v439 y438) := ⟨h1_⟩
             have n2_ : Aside0 (w17.heap[gb431]? = some (.cells #[.int .i64 0, .int .i64 0, .slice none 0 0, .slice none 0 0, .slice none 0 0, .slice none 0 0] 93 (0, 0))) := ⟨h2_⟩
             have n3_ : Aside0 (Below w.heap.size w w17) := ⟨h3_⟩
             clear BK431
             clear HB
             clear h0_ h1_ h2_ h3_
             have HO434 := n0_
             have HO440 := n1_
             have BK431 := n2_
             have HB := n3_
             clear n0_ n1_ n2_ n3_
             have hHeld := trivial
             refine norm_ (a' := ?_) ?_ ?_
             rotate_left
             ·
              simp only [putAll, Act.put, List.setIfInBounds_toArray, List.set_cons_zero, List.set_cons_succ]
              rfl
             refine two_ (i := 4) (j := 8) (Ni := some 16) (Nj := some 20) #[true, true, true, true, true, true, true, true, false, false, false, false] #[true, true, true, true, false, true, true, true, true, false, false, false] rfl rfl rfl rfl (two_of HT_.out (by kernel_rfl)) (by decide) (by decide) (fun K hK => ?_) (fun K hK => ?_)
             ·
              skip
              refine Kd.R_make_step (Kd.int .u64) _ 36 (by rfl) (N := 16) rfl 90 _ _ rfl 8 rfl rfl Try.underlying90 (.int .u64 0) 8 info36 rfl (by decide) (by omega) 0 (ok := fun _ => True) (okp := fun _ => True) rfl (fun _ hk => hk) trivial (by omega) (by omega) (Below.refl _ _) (Nat.le_refl _) ?_
              intro v436 w18 ho19 hb hg_ hnew_
              clear hg_ hnew_
              (first | rw [← Ny435.out] at ho19 | (simp only [Int.reduceToNat] at ho19; rw [← Ny435.out] at ho19))
              have n0_ := Aside0.mk (Kd.R_below (by (with_reducible repeat (first | apply Zra | apply Zrn | apply Zrd)); exact HO434.out) hb)
              have n1_ := Aside0.mk (Kd.R_below (by (with_reducible repeat (first | apply Zra | apply Zrn | apply Zrd)); exact HO440.out) hb)
              have n2_ := Aside0.mk (Kd.R_lower ho19 (below_size (by repeat (first | (with_reducible first | exact HB.out | apply Zba | apply Zbn | apply Zbd | refine below_set ?_ GE431.out) | exact HB.out))))
              have n3_ := Aside0.mk (blk_below (g := gb431) (o := .cells #[.int .i64 0, .int .i64 0, .slice none 0 0, .slice none 0 0, .slice none 0 0, .slice none 0 0] 93 (0, 0)) (by (with_reducible repeat (first | refine Zkn ?_ _ | refine Zkd ?_ | refine Zka ?_ _)); exact BK431.out) hb)
              have n4_ := Aside0.mk (below_step (by repeat (first | (with_reducible first | exact HB.out | apply Zba | apply Zbn | apply Zbd | refine below_set ?_ GE431.out) | exact HB.out)) hb)
              clear HO434
              clear HO440
              clear BK431
              clear HB
              have HO434 := n0_
              have HO440 := n1_
              have HO437 := n2_
              have BK431 := n3_
              have HB := n4_
              clear n0_ n1_ n2_ n3_ n4_
              clear hb ho19
              refine hK.out _ _ trivial (fun hHeld => ?_)
              clear hK K
              refine norm_ (a' := ?_) ?_ ?_
              rotate_left
              ·
               show Act.put _ (some 16) _ = _
               simp only [Act.put, pSq]
               rfl
              exact norm_ (by first | (simp only [putAll, Act.put, List.setIfInBounds_toArray, List.set_cons_zero, List.set_cons_succ]; done) | (simp only [putAll, Act.put, List.setIfInBounds_toArray, List.set_cons_zero, List.set_cons_succ]; rfl)) (hJ2_4_6 (v433, v436, v439) _ ⟨(by (with_reducible repeat (first | apply Zra | apply Zrn | apply Zrd)); exact HO434.out), (by (with_reducible repeat (first | apply Zra | apply Zrn | apply Zrd)); exact HO437.out), (by (with_reducible repeat (first | apply Zra | apply Zrn | apply Zrd)); exact HO440.out), (by (with_reducible repeat (first | refine Zkn ?_ _ | refine Zkd ?_ | refine Zka ?_ _)); exact BK431.out), (by repeat (first | (with_reducible first | exact HB.out | apply Zba | apply Zbn | apply Zbd | refine below_set ?_ GE431.out) | exact HB.out))⟩)
             ·
              skip
              refine Kd.S_make_step (Kd.slice 50 k50) _ 22 (by rfl) (N := 20) rfl 91 _ _ rfl 8 rfl rfl Try.underlying91 (.slice none 0 0) 24 info22 rfl (by decide) (by omega) [] (ok := fun _ => True) (okp := fun _ => True) ⟨_, rfl, Kd.R_nil _ _ _ _ _⟩ (fun _ hk => hk) trivial (by omega) (by omega) (Below.refl _ _) (Nat.le_refl _) ?_
              intro v442 w18 ho19 hb hg_ hnew_
              clear hg_ hnew_
              (first | rw [← Ny441.out] at ho19 | (simp only [Int.reduceToNat] at ho19; rw [← Ny441.out] at ho19))
              have n0_ := Aside0.mk (Kd.R_below (by (with_reducible repeat (first | apply Zra | apply Zrn | apply Zrd)); exact HO434.out) hb)
              have n1_ := Aside0.mk (Kd.R_below (by (with_reducible repeat (first | apply Zra | apply Zrn | apply Zrd)); exact HO440.out) hb)
              have n2_ := Aside0.mk (Kd.S_lower ho19 (below_size (by repeat (first | (with_reducible first | exact HB.out | apply Zba | apply Zbn | apply Zbd | refine below_set ?_ GE431.out) | exact HB.out))))
              have n3_ := Aside0.mk (blk_below (g := gb431) (o := .cells #[.int .i64 0, .int .i64 0, .slice none 0 0, .slice none 0 0, .slice none 0 0, .slice none 0 0] 93 (0, 0)) (by (with_reducible repeat (first | refine Zkn ?_ _ | refine Zkd ?_ | refine Zka ?_ _)); exact BK431.out) hb)
              have n4_ := Aside0.mk (below_step (by repeat (first | (with_reducible first | exact HB.out | apply Zba | apply Zbn | apply Zbd | refine below_set ?_ GE431.out) | exact HB.out)) hb)
              clear HO434
              clear HO440
              clear BK431
              clear HB
              have HO434 := n0_
              have HO440 := n1_
              have HO443 := n2_
              have BK431 := n3_
              have HB := n4_
              clear n0_ n1_ n2_ n3_ n4_
              clear hb ho19
              refine hK.out _ _ trivial (fun hHeld => ?_)
              clear hK K
              refine norm_ (a' := ?_) ?_ ?_
              rotate_left
              ·
               show Act.put _ (some 20) _ = _
               simp only [Act.put, pSq]
               rfl
              exact norm_ (by first | (simp only [putAll, Act.put, List.setIfInBounds_toArray, List.set_cons_zero, List.set_cons_succ]; done) | (simp only [putAll, Act.put, List.setIfInBounds_toArray, List.set_cons_zero, List.set_cons_succ]; rfl)) (hJ2_6_8 (v433, v439, v442) _ ⟨(by (with_reducible repeat (first | apply Zra | apply Zrn | apply Zrd)); exact HO434.out), (by (with_reducible repeat (first | apply Zra | apply Zrn | apply Zrd)); exact HO440.out), (by (with_reducible repeat (first | apply Zsa | apply Zsn | apply Zsd)); exact HO443.out), (by (with_reducible repeat (first | refine Zkn ?_ _ | refine Zkd ?_ | refine Zka ?_ _)); exact BK431.out), (by repeat (first | (with_reducible first | exact HB.out | apply Zba | apply Zbn | apply Zbd | refine below_set ?_ GE431.out) | exact HB.out))⟩)
           ·
            skip
            rintro ⟨v433, v436⟩ w17 ⟨h0_, h1_, h2_, h3_⟩
            have n0_ : Aside0 (Kd.R Kd.bool 4 w17 w.heap.size (fun _ => True) v433 y432) := ⟨h0_⟩
            have n1_ : Aside0 (Kd.R (Kd.int .u64) 36 w17 w.heap.size (fun _ => True) v436 y435) := ⟨h1_⟩
            have n2_ : Aside0 (w17.heap[gb431]? = some (.cells #[.int .i64 0, .int .i64 0, .slice none 0 0, .slice none 0 0, .slice none 0 0, .slice none 0 0] 93 (0, 0))) := ⟨h2_⟩
            have n3_ : Aside0 (Below w.heap.size w w17) := ⟨h3_⟩
            clear BK431
            clear HB
            clear h0_ h1_ h2_ h3_
            have HO434 := n0_
            have HO437 := n1_
            have BK431 := n2_
            have HB := n3_
            clear n0_ n1_ n2_ n3_
            have hHeld := trivial
            refine norm_ (a' := ?_) ?_ ?_
            rotate_left
            ·
             simp only [putAll, Act.put, List.setIfInBounds_toArray, List.set_cons_zero, List.set_cons_succ]
             rfl
            refine two_ (i := 6) (j := 8) (Ni := some 18) (Nj := some 20) #[true, true, true, true, true, true, true, true, false, false, false, false] #[true, true, true, true, true, true, false, true, true, false, false, false] rfl rfl rfl rfl (two_of HT_.out (by kernel_rfl)) (by decide) (by decide) (fun K hK => ?_) (fun K hK => ?_)
            ·
             skip
             refine Kd.R_make_step Kd.bool _ 4 (by rfl) (N := 18) rfl 39 _ _ rfl 8 rfl rfl Try.underlying39 (.bool false) 1 info4 rfl (by decide) (by omega) false (ok := fun _ => True) (okp := fun _ => True) rfl (fun _ hk => hk) trivial (by omega) (by omega) (Below.refl _ _) (Nat.le_refl _) ?_
             intro v439 w18 ho19 hb hg_ hnew_
             clear hg_ hnew_
             (first | rw [← Ny438.out] at ho19 | (simp only [Int.reduceToNat] at ho19; rw [← Ny438.out] at ho19))
             have n0_ := Aside0.mk (Kd.R_elder' (by (with_reducible repeat (first | apply Zra | apply Zrn | apply Zrd)); exact HO434.out) (Kd.R_base ho19) hb)
             have n1_ := Aside0.mk (Kd.R_below (by (with_reducible repeat (first | apply Zra | apply Zrn | apply Zrd)); exact HO437.out) hb)
             have n2_ := Aside0.mk (Kd.R_lower (Kd.R_new' ho19 (Kd.R_lt (by (with_reducible repeat (first | apply Zra | apply Zrn | apply Zrd)); exact HO434.out))) (below_size (by repeat (first | (with_reducible first | exact HB.out | apply Zba | apply Zbn | apply Zbd | refine below_set ?_ GE431.out) | exact HB.out))))
             have n3_ := Aside0.mk (blk_below (g := gb431) (o := .cells #[.int .i64 0, .int .i64 0, .slice none 0 0, .slice none 0 0, .slice none 0 0, .slice none 0 0] 93 (0, 0)) (by (with_reducible repeat (first | refine Zkn ?_ _ | refine Zkd ?_ | refine Zka ?_ _)); exact BK431.out) hb)
             have n4_ := Aside0.mk (below_step (by repeat (first | (with_reducible first | exact HB.out | apply Zba | apply Zbn | apply Zbd | refine below_set ?_ GE431.out) | exact HB.out)) hb)
             clear HO434
             clear HO437
             clear BK431
             clear HB
             have HO434 := n0_
             have HO437 := n1_
             have HO440 := n2_
             have BK431 := n3_
             have HB := n4_
             clear n0_ n1_ n2_ n3_ n4_
             clear hb ho19
             refine hK.out _ _ trivial (fun hHeld => ?_)
             clear hK K
             refine norm_ (a' := ?_) ?_ ?_
             rotate_left
             ·
              show Act.put _ (some 18) _ = _
              simp only [Act.put, pSq]
              rfl
             exact norm_ (by first | (simp only [putAll, Act.put, List.setIfInBounds_toArray, List.set_cons_zero, List.set_cons_succ]; done) | (simp only [putAll, Act.put, List.setIfInBounds_toArray, List.set_cons_zero, List.set_cons_succ]; rfl)) (hJ2_4_6 (v433, v436, v439) _ ⟨(by (with_reducible repeat (first | apply Zra | apply Zrn | apply Zrd)); exact Kd.R_mono HO434.out (fun _ hk => hk.2)), (by (with_reducible repeat (first | apply Zra | apply Zrn | apply Zrd)); exact HO437.out), (by (with_reducible repeat (first | apply Zra | apply Zrn | apply Zrd)); exact Kd.R_mono HO440.out (fun _ hk => hk.2)), (by (with_reducible repeat (first | refine Zkn ?_ _ | refine Zkd ?_ | refine Zka ?_ _)); exact BK431.out), (by repeat (first | (with_reducible first | exact HB.out | apply Zba | apply Zbn | apply Zbd | refine below_set ?_ GE431.out) | exact HB.out))⟩)
            ·
             skip
             refine Kd.S_make_step (Kd.slice 50 k50) _ 22 (by rfl) (N := 20) rfl 91 _ _ rfl 8 rfl rfl Try.underlying91 (.slice none 0 0) 24 info22 rfl (by decide) (by omega) [] (ok := fun _ => True) (okp := fun _ => True) ⟨_, rfl, Kd.R_nil _ _ _ _ _⟩ (fun _ hk => hk) trivial (by omega) (by omega) (Below.refl _ _) (Nat.le_refl _) ?_
             intro v442 w18 ho19 hb hg_ hnew_
             clear hg_ hnew_
             (first | rw [← Ny441.out] at ho19 | (simp only [Int.reduceToNat] at ho19; rw [← Ny441.out] at ho19))
             have n0_ := Aside0.mk (Kd.R_below (by (with_reducible repeat (first | apply Zra | apply Zrn | apply Zrd)); exact HO434.out) hb)
             have n1_ := Aside0.mk (Kd.R_below (by (with_reducible repeat (first | apply Zra | apply Zrn | apply Zrd)); exact HO437.out) hb)
             have n2_ := Aside0.mk (Kd.S_lower ho19 (below_size (by repeat (first | (with_reducible first | exact HB.out | apply Zba | apply Zbn | apply Zbd | refine below_set ?_ GE431.out) | exact HB.out))))
             have n3_ := Aside0.mk (blk_below (g := gb431) (o := .cells #[.int .i64 0, .int .i64 0, .slice none 0 0, .slice none 0 0, .slice none 0 0, .slice none 0 0] 93 (0, 0)) (by (with_reducible repeat (first | refine Zkn ?_ _ | refine Zkd ?_ | refine Zka ?_ _)); exact BK431.out) hb)
             have n4_ := Aside0.mk (below_step (by repeat (first | (with_reducible first | exact HB.out | apply Zba | apply Zbn | apply Zbd | refine below_set ?_ GE431.out) | exact HB.out)) hb)
             clear HO434
             clear HO437
             clear BK431
             clear HB
             have HO434 := n0_
             have HO437 := n1_
             have HO443 := n2_
             have BK431 := n3_
             have HB := n4_
             clear n0_ n1_ n2_ n3_ n4_
             clear hb ho19
             refine hK.out _ _ trivial (fun hHeld => ?_)
             clear hK K
             refine norm_ (a' := ?_) ?_ ?_
             rotate_left
             ·
              show Act.put _ (some 20) _ = _
              simp only [Act.put, pSq]
              rfl
             exact norm_ (by first | (simp only [putAll, Act.put, List.setIfInBounds_toArray, List.set_cons_zero, List.set_cons_succ]; done) | (simp only [putAll, Act.put, List.setIfInBounds_toArray, List.set_cons_zero, List.set_cons_succ]; rfl)) (hJ2_4_8 (v433, v436, v442) _ ⟨(by (with_reducible repeat (first | apply Zra | apply Zrn | apply Zrd)); exact HO434.out), (by (with_reducible repeat (first | apply Zra | apply Zrn | apply Zrd)); exact HO437.out), (by (with_reducible repeat (first | apply Zsa | apply Zsn | apply Zsd)); exact HO443.out), (by (with_reducible repeat (first | refine Zkn ?_ _ | refine Zkd ?_ | refine Zka ?_ _)); exact BK431.out), (by repeat (first | (with_reducible first | exact HB.out | apply Zba | apply Zbn | apply Zbd | refine below_set ?_ GE431.out) | exact HB.out))⟩)
          ·
           skip
           rintro ⟨v436, v439, v442⟩ w19 ⟨h0_, h1_, h2_, h3_, h4_⟩
           have n0_ : Aside0 (Kd.R (Kd.int .u64) 36 w19 w.heap.size (fun _ => True) v436 y435) := ⟨h0_⟩
           have n1_ : Aside0 (Kd.R Kd.bool 4 w19 w.heap.size (fun _ => True) v439 y438) := ⟨h1_⟩
           have n2_ : Aside0 (Kd.S (Kd.slice 50 k50) 22 w19 w.heap.size (fun _ => True) v442 y441) := ⟨h2_⟩
           have n3_ : Aside0 (w19.heap[gb431]? = some (.cells #[.int .i64 0, .int .i64 0, .slice none 0 0, .slice none 0 0, .slice none 0 0, .slice none 0 0] 93 (0, 0))) := ⟨h3_⟩
           have n4_ : Aside0 (Below w.heap.size w w19) := ⟨h4_⟩
           clear BK431
           clear HB
           clear h0_ h1_ h2_ h3_ h4_
           have HO437 := n0_
           have HO440 := n1_
           have HO443 := n2_
           have BK431 := n3_
           have HB := n4_
           clear n0_ n1_ n2_ n3_ n4_
           have hHeld := trivial
           refine norm_ (a' := ?_) ?_ ?_
           rotate_left
           ·
            simp only [putAll, Act.put, List.setIfInBounds_toArray, List.set_cons_zero, List.set_cons_succ]
            rfl
           refine one_ (i := 2) (N := some 14) #[true, true, true, true, true, true, true, true, true, false, false, false] rfl rfl (one_of HT_.out (by kernel_rfl)) (by decide) (fun K hK => ?_)
           refine Kd.R_make_step Kd.bool _ 4 (by rfl) (N := 14) rfl 39 _ _ rfl 8 rfl rfl Try.underlying39 (.bool false) 1 info4 rfl (by decide) (by omega) false (ok := fun _ => True) (okp := fun _ => True) rfl (fun _ hk => hk) trivial (by omega) (by omega) (Below.refl _ _) (Nat.le_refl _) ?_
           intro v433 w20 ho21 hb hg_ hnew_
           clear hg_ hnew_
           (first | rw [← Ny432.out] at ho21 | (simp only [Int.reduceToNat] at ho21; rw [← Ny432.out] at ho21))
           have n0_ := Aside0.mk (Kd.R_below (by (with_reducible repeat (first | apply Zra | apply Zrn | apply Zrd)); exact HO437.out) hb)
           have n1_ := Aside0.mk (Kd.R_elder' (by (with_reducible repeat (first | apply Zra | apply Zrn | apply Zrd)); exact HO440.out) (Kd.R_base ho21) hb)
           have n2_ := Aside0.mk (Kd.S_below (by (with_reducible repeat (first | apply Zsa | apply Zsn | apply Zsd)); exact HO443.out) hb)
           have n3_ := Aside0.mk (Kd.R_lower (Kd.R_new' ho21 (Kd.R_lt (by (with_reducible repeat (first | apply Zra | apply Zrn | apply Zrd)); exact HO440.out))) (below_size (by repeat (first | (with_reducible first | exact HB.out | apply Zba | apply Zbn | apply Zbd | refine below_set ?_ GE431.out) | exact HB.out))))
           have n4_ := Aside0.mk (blk_below (g := gb431) (o := .cells #[.int .i64 0, .int .i64 0, .slice none 0 0, .slice none 0 0, .slice none 0 0, .slice none 0 0] 93 (0, 0)) (by (with_reducible repeat (first | refine Zkn ?_ _ | refine Zkd ?_ | refine Zka ?_ _)); exact BK431.out) hb)
           have n5_ := Aside0.mk (below_step (by repeat (first | (with_reducible first | exact HB.out | apply Zba | apply Zbn | apply Zbd | refine below_set ?_ GE431.out) | exact HB.out)) hb)
           clear HO437
           clear HO440
           clear HO443
           clear BK431
           clear HB
           have HO437 := n0_
           have HO440 := n1_
           have HO443 := n2_
           have HO434 := n3_
           have BK431 := n4_
           have HB := n5_
           clear n0_ n1_ n2_ n3_ n4_ n5_
           clear hb ho21
           obtain ⟨Ao22, co22, eo22⟩ := Kd.S_slice HO443.out
           (first | subst eo22 | (injection eo22 with f1_ f2_ f3_; have f4_ := f1_.symm; have f5_ := f3_.symm; clear f1_ f2_ f3_; subst f4_; subst f5_))
           obtain ⟨Ao23, co23, eo23⟩ := Kd.R_slice HO440.out
           (first | subst eo23 | (injection eo23 with f1_ f2_ f3_; have f4_ := f1_.symm; have f5_ := f3_.symm; clear f1_ f2_ f3_; subst f4_; subst f5_))
           obtain ⟨Ao24, co24, eo24⟩ := Kd.R_slice HO437.out
           (first | subst eo24 | (injection eo24 with f1_ f2_ f3_; have f4_ := f1_.symm; have f5_ := f3_.symm; clear f1_ f2_ f3_; subst f4_; subst f5_))
           obtain ⟨Ao25, co25, eo25⟩ := Kd.R_slice HO434.out
           (first | subst eo25 | (injection eo25 with f1_ f2_ f3_; have f4_ := f1_.symm; have f5_ := f3_.symm; clear f1_ f2_ f3_; subst f4_; subst f5_))
           refine hK.out _ _ trivial (fun hHeld => ?_)
           clear hK K
           refine norm_ (a' := ?_) ?_ ?_
           rotate_left
           ·
            show Act.put _ (some 14) _ = _
            simp only [Act.put, pSq]
            rfl
           exact norm_ (by first | (simp only [putAll, Act.put, List.setIfInBounds_toArray, List.set_cons_zero, List.set_cons_succ]; done) | (simp only [putAll, Act.put, List.setIfInBounds_toArray, List.set_cons_zero, List.set_cons_succ]; rfl)) (hJ2_4_6_8 (.slice Ao25 y432.length co25, .slice Ao24 y435.length co24, .slice Ao23 y438.length co23, .slice Ao22 y441.length co22) _ ⟨(by (with_reducible repeat (first | apply Zra | apply Zrn | apply Zrd)); exact Kd.R_mono HO434.out (fun _ hk => hk.2)), (by (with_reducible repeat (first | apply Zra | apply Zrn | apply Zrd)); exact HO437.out), (by (with_reducible repeat (first | apply Zra | apply Zrn | apply Zrd)); exact Kd.R_mono HO440.out (fun _ hk => hk.2)), (by (with_reducible repeat (first | apply Zsa | apply Zsn | apply Zsd)); exact HO443.out), (by (with_reducible repeat (first | refine Zkn ?_ _ | refine Zkd ?_ | refine Zka ?_ _)); exact BK431.out), (by repeat (first | (with_reducible first | exact HB.out | apply Zba | apply Zbn | apply Zbd | refine below_set ?_ GE431.out) | exact HB.out))⟩)
         ·
          skip
          rintro ⟨v433, v439, v442⟩ w19 ⟨h0_, h1_, h2_, h3_, h4_⟩
          have n0_ : Aside0 (Kd.R Kd.bool 4 w19 w.heap.size (fun k_ => some k_ ≠ (v439 : Value).ownBlock) v433 y432) := ⟨h0_⟩
          have n1_ : Aside0 (Kd.R Kd.bool 4 w19 w.heap.size (fun k_ => some k_ ≠ (v433 : Value).ownBlock) v439 y438) := ⟨h1_⟩
          have n2_ : Aside0 (Kd.S (Kd.slice 50 k50) 22 w19 w.heap.size (fun _ => True) v442 y441) := ⟨h2_⟩
          have n3_ : Aside0 (w19.heap[gb431]? = some (.cells #[.int .i64 0, .int .i64 0, .slice none 0 0, .slice none 0 0, .slice none 0 0, .slice none 0 0] 93 (0, 0))) := ⟨h3_⟩
          have n4_ : Aside0 (Below w.heap.size w w19) := ⟨h4_⟩
          clear BK431
          clear HB
          clear h0_ h1_ h2_ h3_ h4_
          have HO434 := n0_
          have HO440 := n1_
          have HO443 := n2_
          have BK431 := n3_
          have HB := n4_
          clear n0_ n1_ n2_ n3_ n4_
          have hHeld := trivial
          refine norm_ (a' := ?_) ?_ ?_
          rotate_left
          ·
           simp only [putAll, Act.put, List.setIfInBounds_toArray, List.set_cons_zero, List.set_cons_succ]
           rfl
          refine one_ (i := 4) (N := some 16) #[true, true, true, true, true, true, true, true, true, false, false, false] rfl rfl (one_of HT_.out (by kernel_rfl)) (by decide) (fun K hK => ?_)
          refine Kd.R_make_step (Kd.int .u64) _ 36 (by rfl) (N := 16) rfl 90 _ _ rfl 8 rfl rfl Try.underlying90 (.int .u64 0) 8 info36 rfl (by decide) (by omega) 0 (ok := fun _ => True) (okp := fun _ => True) rfl (fun _ hk => hk) trivial (by omega) (by omega) (Below.refl _ _) (Nat.le_refl _) ?_
          intro v436 w20 ho21 hb hg_ hnew_
          clear hg_ hnew_
          (first | rw [← Ny435.out] at ho21 | (simp only [Int.reduceToNat] at ho21; rw [← Ny435.out] at ho21))
          have n0_ := Aside0.mk (Kd.R_below (by (with_reducible repeat (first | apply Zra | apply Zrn | apply Zrd)); exact HO434.out) hb)
          have n1_ := Aside0.mk (Kd.R_below (by (with_reducible repeat (first | apply Zra | apply Zrn | apply Zrd)); exact HO440.out) hb)
          have n2_ := Aside0.mk (Kd.S_below (by (with_reducible repeat (first | apply Zsa | apply Zsn | apply Zsd)); exact HO443.out) hb)
          have n3_ := Aside0.mk (Kd.R_lower ho21 (below_size (by repeat (first | (with_reducible first | exact HB.out | apply Zba | apply Zbn | apply Zbd | refine below_set ?_ GE431.out) | exact HB.out))))
          have n4_ := Aside0.mk (blk_below (g := gb431) (o := .cells #[.int .i64 0, .int .i64 0, .slice none 0 0, .slice none 0 0, .slice none 0 0, .slice none 0 0] 93 (0, 0)) (by (with_reducible repeat (first | refine Zkn ?_ _ | refine Zkd ?_ | refine Zka ?_ _)); exact BK431.out) hb)
          have n5_ := Aside0.mk (below_step (by repeat (first | (with_reducible first | exact HB.out | apply Zba | apply Zbn | apply Zbd | refine below_set ?_ GE431.out) | exact HB.out)) hb)
          clear HO434
          clear HO440
          clear HO443
          clear BK431
          clear HB
          have HO434 := n0_
          have HO440 := n1_
          have HO443 := n2_
          have HO437 := n3_
          have BK431 := n4_
          have HB := n5_
          clear n0_ n1_ n2_ n3_ n4_ n5_
          clear hb ho21
          obtain ⟨Ao22, co22, eo22⟩ := Kd.S_slice HO443.out
          (first | subst eo22 | (injection eo22 with f1_ f2_ f3_; have f4_ := f1_.symm; have f5_ := f3_.symm; clear f1_ f2_ f3_; subst f4_; subst f5_))
          obtain ⟨Ao23, co23, eo23⟩ := Kd.R_slice HO440.out
          (first | subst eo23 | (injection eo23 with f1_ f2_ f3_; have f4_ := f1_.symm; have f5_ := f3_.symm; clear f1_ f2_ f3_; subst f4_; subst f5_))
          obtain ⟨Ao24, co24, eo24⟩ := Kd.R_slice HO437.out
          (first | subst eo24 | (injection eo24 with f1_ f2_ f3_; have f4_ := f1_.symm; have f5_ := f3_.symm; clear f1_ f2_ f3_; subst f4_; subst f5_))
          obtain ⟨Ao25, co25, eo25⟩ := Kd.R_slice HO434.out
          (first | subst eo25 | (injection eo25 with f1_ f2_ f3_; have f4_ := f1_.symm; have f5_ := f3_.symm; clear f1_ f2_ f3_; subst f4_; subst f5_))
          refine hK.out _ _ trivial (fun hHeld => ?_)
          clear hK K
          refine norm_ (a' := ?_) ?_ ?_
          rotate_left
          ·
           show Act.put _ (some 16) _ = _
           simp only [Act.put, pSq]
           rfl
          exact norm_ (by first | (simp only [putAll, Act.put, List.setIfInBounds_toArray, List.set_cons_zero, List.set_cons_succ]; done) | (simp only [putAll, Act.put, List.setIfInBounds_toArray, List.set_cons_zero, List.set_cons_succ]; rfl)) (hJ2_4_6_8 (.slice Ao25 y432.length co25, .slice Ao24 y435.length co24, .slice Ao23 y438.length co23, .slice Ao22 y441.length co22) _ ⟨(by (with_reducible repeat (first | apply Zra | apply Zrn | apply Zrd)); exact HO434.out), (by (with_reducible repeat (first | apply Zra | apply Zrn | apply Zrd)); exact HO437.out), (by (with_reducible repeat (first | apply Zra | apply Zrn | apply Zrd)); exact HO440.out), (by (with_reducible repeat (first | apply Zsa | apply Zsn | apply Zsd)); exact HO443.out), (by (with_reducible repeat (first | refine Zkn ?_ _ | refine Zkd ?_ | refine Zka ?_ _)); exact BK431.out), (by repeat (first | (with_reducible first | exact HB.out | apply Zba | apply Zbn | apply Zbd | refine below_set ?_ GE431.out) | exact HB.out))⟩)
        ·
         skip
         rintro ⟨v433, v436, v442⟩ w19 ⟨h0_, h1_, h2_, h3_, h4_⟩
         have n0_ : Aside0 (Kd.R Kd.bool 4 w19 w.heap.size (fun _ => True) v433 y432) := ⟨h0_⟩
         have n1_ : Aside0 (Kd.R (Kd.int .u64) 36 w19 w.heap.size (fun _ => True) v436 y435) := ⟨h1_⟩
         have n2_ : Aside0 (Kd.S (Kd.slice 50 k50) 22 w19 w.heap.size (fun _ => True) v442 y441) := ⟨h2_⟩
         have n3_ : Aside0 (w19.heap[gb431]? = some (.cells #[.int .i64 0, .int .i64 0, .slice none 0 0, .slice none 0 0, .slice none 0 0, .slice none 0 0] 93 (0, 0))) := ⟨h3_⟩
         have n4_ : Aside0 (Below w.heap.size w w19) := ⟨h4_⟩
         clear BK431
         clear HB
         clear h0_ h1_ h2_ h3_ h4_
         have HO434 := n0_
         have HO437 := n1_
         have HO443 := n2_
         have BK431 := n3_
         have HB := n4_
         clear n0_ n1_ n2_ n3_ n4_
         have hHeld := trivial
         refine norm_ (a' := ?_) ?_ ?_
         rotate_left
         ·
          simp only [putAll, Act.put, List.setIfInBounds_toArray, List.set_cons_zero, List.set_cons_succ]
          rfl
         refine one_ (i := 6) (N := some 18) #[true, true, true, true, true, true, true, true, true, false, false, false] rfl rfl (one_of HT_.out (by kernel_rfl)) (by decide) (fun K hK => ?_)
         refine Kd.R_make_step Kd.bool _ 4 (by rfl) (N := 18) rfl 39 _ _ rfl 8 rfl rfl Try.underlying39 (.bool false) 1 info4 rfl (by decide) (by omega) false (ok := fun _ => True) (okp := fun _ => True) rfl (fun _ hk => hk) trivial (by omega) (by omega) (Below.refl _ _) (Nat.le_refl _) ?_
         intro v439 w20 ho21 hb hg_ hnew_
         clear hg_ hnew_
         (first | rw [← Ny438.out] at ho21 | (simp only [Int.reduceToNat] at ho21; rw [← Ny438.out] at ho21))
         have n0_ := Aside0.mk (Kd.R_elder' (by (with_reducible repeat (first | apply Zra | apply Zrn | apply Zrd)); exact HO434.out) (Kd.R_base ho21) hb)
         have n1_ := Aside0.mk (Kd.R_below (by (with_reducible repeat (first | apply Zra | apply Zrn | apply Zrd)); exact HO437.out) hb)
         have n2_ := Aside0.mk (Kd.S_below (by (with_reducible repeat (first | apply Zsa | apply Zsn | apply Zsd)); exact HO443.out) hb)
         have n3_ := Aside0.mk (Kd.R_lower (Kd.R_new' ho21 (Kd.R_lt (by (with_reducible repeat (first | apply Zra | apply Zrn | apply Zrd)); exact HO434.out))) (below_size (by repeat (first | (with_reducible first | exact HB.out | apply Zba | apply Zbn | apply Zbd | refine below_set ?_ GE431.out) | exact HB.out))))
         have n4_ := Aside0.mk (blk_below (g := gb431) (o := .cells #[.int .i64 0, .int .i64 0, .slice none 0 0, .slice none 0 0, .slice none 0 0, .slice none 0 0] 93 (0, 0)) (by (with_reducible repeat (first | refine Zkn ?_ _ | refine Zkd ?_ | refine Zka ?_ _)); exact BK431.out) hb)
         have n5_ := Aside0.mk (below_step (by repeat (first | (with_reducible first | exact HB.out | apply Zba | apply Zbn | apply Zbd | refine below_set ?_ GE431.out) | exact HB.out)) hb)
         clear HO434
         clear HO437
         clear HO443
         clear BK431
         clear HB
         have HO434 := n0_
         have HO437 := n1_
         have HO443 := n2_
         have HO440 := n3_
         have BK431 := n4_
         have HB := n5_
         clear n0_ n1_ n2_ n3_ n4_ n5_
         clear hb ho21
         obtain ⟨Ao22, co22, eo22⟩ := Kd.S_slice HO443.out
         (first | subst eo22 | (injection eo22 with f1_ f2_ f3_; have f4_ := f1_.symm; have f5_ := f3_.symm; clear f1_ f2_ f3_; subst f4_; subst f5_))
         obtain ⟨Ao23, co23, eo23⟩ := Kd.R_slice HO440.out
         (first | subst eo23 | (injection eo23 with f1_ f2_ f3_; have f4_ := f1_.symm; have f5_ := f3_.symm; clear f1_ f2_ f3_; subst f4_; subst f5_))
         obtain ⟨Ao24, co24, eo24⟩ := Kd.R_slice HO437.out
         (first | subst eo24 | (injection eo24 with f1_ f2_ f3_; have f4_ := f1_.symm; have f5_ := f3_.symm; clear f1_ f2_ f3_; subst f4_; subst f5_))
         obtain ⟨Ao25, co25, eo25⟩ := Kd.R_slice HO434.out
         (first | subst eo25 | (injection eo25 with f1_ f2_ f3_; have f4_ := f1_.symm; have f5_ := f3_.symm; clear f1_ f2_ f3_; subst f4_; subst f5_))
         refine hK.out _ _ trivial (fun hHeld => ?_)
         clear hK K
         refine norm_ (a' := ?_) ?_ ?_
         rotate_left
         ·
          show Act.put _ (some 18) _ = _
          simp only [Act.put, pSq]
          rfl
         exact norm_ (by first | (simp only [putAll, Act.put, List.setIfInBounds_toArray, List.set_cons_zero, List.set_cons_succ]; done) | (simp only [putAll, Act.put, List.setIfInBounds_toArray, List.set_cons_zero, List.set_cons_succ]; rfl)) (hJ2_4_6_8 (.slice Ao25 y432.length co25, .slice Ao24 y435.length co24, .slice Ao23 y438.length co23, .slice Ao22 y441.length co22) _ ⟨(by (with_reducible repeat (first | apply Zra | apply Zrn | apply Zrd)); exact Kd.R_mono HO434.out (fun _ hk => hk.2)), (by (with_reducible repeat (first | apply Zra | apply Zrn | apply Zrd)); exact HO437.out), (by (with_reducible repeat (first | apply Zra | apply Zrn | apply Zrd)); exact Kd.R_mono HO440.out (fun _ hk => hk.2)), (by (with_reducible repeat (first | apply Zsa | apply Zsn | apply Zsd)); exact HO443.out), (by (with_reducible repeat (first | refine Zkn ?_ _ | refine Zkd ?_ | refine Zka ?_ _)); exact BK431.out), (by repeat (first | (with_reducible first | exact HB.out | apply Zba | apply Zbn | apply Zbd | refine below_set ?_ GE431.out) | exact HB.out))⟩)
       ·
        skip
        rintro ⟨v433, v436, v439⟩ w19 ⟨h0_, h1_, h2_, h3_, h4_⟩
        have n0_ : Aside0 (Kd.R Kd.bool 4 w19 w.heap.size (fun k_ => some k_ ≠ (v439 : Value).ownBlock) v433 y432) := ⟨h0_⟩
        have n1_ : Aside0 (Kd.R (Kd.int .u64) 36 w19 w.heap.size (fun _ => True) v436 y435) := ⟨h1_⟩
        have n2_ : Aside0 (Kd.R Kd.bool 4 w19 w.heap.size (fun k_ => some k_ ≠ (v433 : Value).ownBlock) v439 y438) := ⟨h2_⟩
        have n3_ : Aside0 (w19.heap[gb431]? = some (.cells #[.int .i64 0, .int .i64 0, .slice none 0 0, .slice none 0 0, .slice none 0 0, .slice none 0 0] 93 (0, 0))) := ⟨h3_⟩
        have n4_ : Aside0 (Below w.heap.size w w19) := ⟨h4_⟩
        clear BK431
        clear HB
        clear h0_ h1_ h2_ h3_ h4_
        have HO434 := n0_
        have HO437 := n1_
        have HO440 := n2_
        have BK431 := n3_
        have HB := n4_
        clear n0_ n1_ n2_ n3_ n4_
        have hHeld := trivial
        refine norm_ (a' := ?_) ?_ ?_
        rotate_left
        ·
         simp only [putAll, Act.put, List.setIfInBounds_toArray, List.set_cons_zero, List.set_cons_succ]
         rfl
        refine one_ (i := 8) (N := some 20) #[true, true, true, true, true, true, true, true, true, false, false, false] rfl rfl (one_of HT_.out (by kernel_rfl)) (by decide) (fun K hK => ?_)
        refine Kd.S_make_step (Kd.slice 50 k50) _ 22 (by rfl) (N := 20) rfl 91 _ _ rfl 8 rfl rfl Try.underlying91 (.slice none 0 0) 24 info22 rfl (by decide) (by omega) [] (ok := fun _ => True) (okp := fun _ => True) ⟨_, rfl, Kd.R_nil _ _ _ _ _⟩ (fun _ hk => hk) trivial (by omega) (by omega) (Below.refl _ _) (Nat.le_refl _) ?_
        intro v442 w20 ho21 hb hg_ hnew_
        clear hg_ hnew_
        (first | rw [← Ny441.out] at ho21 | (simp only [Int.reduceToNat] at ho21; rw [← Ny441.out] at ho21))
        have n0_ := Aside0.mk (Kd.R_below (by (with_reducible repeat (first | apply Zra | apply Zrn | apply Zrd)); exact HO434.out) hb)
        have n1_ := Aside0.mk (Kd.R_below (by (with_reducible repeat (first | apply Zra | apply Zrn | apply Zrd)); exact HO437.out) hb)
        have n2_ := Aside0.mk (Kd.R_below (by (with_reducible repeat (first | apply Zra | apply Zrn | apply Zrd)); exact HO440.out) hb)
        have n3_ := Aside0.mk (Kd.S_lower ho21 (below_size (by repeat (first | (with_reducible first | exact HB.out | apply Zba | apply Zbn | apply Zbd | refine below_set ?_ GE431.out) | exact HB.out))))
        have n4_ := Aside0.mk (blk_below (g := gb431) (o := .cells #[.int .i64 0, .int .i64 0, .slice none 0 0, .slice none 0 0, .slice none 0 0, .slice none 0 0] 93 (0, 0)) (by (with_reducible repeat (first | refine Zkn ?_ _ | refine Zkd ?_ | refine Zka ?_ _)); exact BK431.out) hb)
        have n5_ := Aside0.mk (below_step (by repeat (first | (with_reducible first | exact HB.out | apply Zba | apply Zbn | apply Zbd | refine below_set ?_ GE431.out) | exact HB.out)) hb)
        clear HO434
        clear HO437
        clear HO440
        clear BK431
        clear HB
        have HO434 := n0_
        have HO437 := n1_
        have HO440 := n2_
        have HO443 := n3_
        have BK431 := n4_
        have HB := n5_
        clear n0_ n1_ n2_ n3_ n4_ n5_
        clear hb ho21
        obtain ⟨Ao22, co22, eo22⟩ := Kd.S_slice HO443.out
        (first | subst eo22 | (injection eo22 with f1_ f2_ f3_; have f4_ := f1_.symm; have f5_ := f3_.symm; clear f1_ f2_ f3_; subst f4_; subst f5_))
        obtain ⟨Ao23, co23, eo23⟩ := Kd.R_slice HO440.out
        (first | subst eo23 | (injection eo23 with f1_ f2_ f3_; have f4_ := f1_.symm; have f5_ := f3_.symm; clear f1_ f2_ f3_; subst f4_; subst f5_))
        obtain ⟨Ao24, co24, eo24⟩ := Kd.R_slice HO437.out
        (first | subst eo24 | (injection eo24 with f1_ f2_ f3_; have f4_ := f1_.symm; have f5_ := f3_.symm; clear f1_ f2_ f3_; subst f4_; subst f5_))
        obtain ⟨Ao25, co25, eo25⟩ := Kd.R_slice HO434.out
        (first | subst eo25 | (injection eo25 with f1_ f2_ f3_; have f4_ := f1_.symm; have f5_ := f3_.symm; clear f1_ f2_ f3_; subst f4_; subst f5_))
        refine hK.out _ _ trivial (fun hHeld => ?_)
        clear hK K
        refine norm_ (a' := ?_) ?_ ?_
        rotate_left
        ·
         show Act.put _ (some 20) _ = _
         simp only [Act.put, pSq]
         rfl
        exact norm_ (by first | (simp only [putAll, Act.put, List.setIfInBounds_toArray, List.set_cons_zero, List.set_cons_succ]; done) | (simp only [putAll, Act.put, List.setIfInBounds_toArray, List.set_cons_zero, List.set_cons_succ]; rfl)) (hJ2_4_6_8 (.slice Ao25 y432.length co25, .slice Ao24 y435.length co24, .slice Ao23 y438.length co23, .slice Ao22 y441.length co22) _ ⟨(by (with_reducible repeat (first | apply Zra | apply Zrn | apply Zrd)); exact HO434.out), (by (with_reducible repeat (first | apply Zra | apply Zrn | apply Zrd)); exact HO437.out), (by (with_reducible repeat (first | apply Zra | apply Zrn | apply Zrd)); exact HO440.out), (by (with_reducible repeat (first | apply Zsa | apply Zsn | apply Zsd)); exact HO443.out), (by (with_reducible repeat (first | refine Zkn ?_ _ | refine Zkd ?_ | refine Zka ?_ _)); exact BK431.out), (by repeat (first | (with_reducible first | exact HB.out | apply Zba | apply Zbn | apply Zbd | refine below_set ?_ GE431.out) | exact HB.out))⟩)
      rintro ⟨v433, v436, v439, v442⟩ w25 ⟨h0_, h1_, h2_, h3_, h4_, h5_⟩
      have n0_ : Aside0 (Kd.R Kd.bool 4 w25 w.heap.size (fun k_ => some k_ ≠ (v439 : Value).ownBlock) v433 y432) := ⟨h0_⟩
      have n1_ : Aside0 (Kd.R (Kd.int .u64) 36 w25 w.heap.size (fun _ => True) v436 y435) := ⟨h1_⟩
      have n2_ : Aside0 (Kd.R Kd.bool 4 w25 w.heap.size (fun k_ => some k_ ≠ (v433 : Value).ownBlock) v439 y438) := ⟨h2_⟩
      have n3_ : Aside0 (Kd.S (Kd.slice 50 k50) 22 w25 w.heap.size (fun _ => True) v442 y441) := ⟨h3_⟩
      have n4_ : Aside0 (w25.heap[gb431]? = some (.cells #[.int .i64 0, .int .i64 0, .slice none 0 0, .slice none 0 0, .slice none 0 0, .slice none 0 0] 93 (0, 0))) := ⟨h4_⟩
      have n5_ : Aside0 (Below w.heap.size w w25) := ⟨h5_⟩
      clear BK431
      clear HB
      clear h0_ h1_ h2_ h3_ h4_ h5_
      have HO434 := n0_
      have HO437 := n1_
      have HO440 := n2_
      have HO443 := n3_
      have BK431 := n4_
      have HB := n5_
      clear n0_ n1_ n2_ n3_ n4_ n5_
      have hHeld := trivial
      obtain ⟨Ao26, co26, eo26⟩ := Kd.S_slice HO443.out
      (first | subst eo26 | (injection eo26 with f1_ f2_ f3_; have f4_ := f1_.symm; have f5_ := f3_.symm; clear f1_ f2_ f3_; subst f4_; subst f5_))
      obtain ⟨Ao27, co27, eo27⟩ := Kd.R_slice HO440.out
      (first | subst eo27 | (injection eo27 with f1_ f2_ f3_; have f4_ := f1_.symm; have f5_ := f3_.symm; clear f1_ f2_ f3_; subst f4_; subst f5_))
      obtain ⟨Ao28, co28, eo28⟩ := Kd.R_slice HO437.out
      (first | subst eo28 | (injection eo28 with f1_ f2_ f3_; have f4_ := f1_.symm; have f5_ := f3_.symm; clear f1_ f2_ f3_; subst f4_; subst f5_))
      obtain ⟨Ao29, co29, eo29⟩ := Kd.R_slice HO434.out
      (first | subst eo29 | (injection eo29 with f1_ f2_ f3_; have f4_ := f1_.symm; have f5_ := f3_.symm; clear f1_ f2_ f3_; subst f4_; subst f5_))
      refine norm_ (a' := ?_) ?_ ?_
      rotate_left
      ·
       simp only [putAll, Act.put, List.setIfInBounds_toArray, List.set_cons_zero, List.set_cons_succ]
       rfl
      refine pure_ (i := 9) (N := some 21) (v := ?_) (a' := ?_) #[true, true, true, true, true, true, true, true, true, true, false, false] rfl rfl (any_of HT_.out (by kernel_rfl)) (fun _ _ _ h => h) (Or.inl ⟨by rfl, ?_⟩) ?_ ?_
      rotate_left
      ·
       intro w'
       go_simp
       with_reducible rfl
      rotate_left
      ·
       simp only [Act.put, pSq]
       rfl
      refine one_ (i := 10) (N := none) #[true, true, true, true, true, true, true, true, true, true, true, false] rfl rfl (one_of HT_.out (by kernel_rfl)) (by decide) (fun K hK => ?_)
      have hs30 : w25.cell? ⟨gb431, 0, none⟩ = some (.int .i64 0) := (blk_cell BK431.out 0).trans rfl
      have hfs30 := blk_frozen BK431.out 0
      have hs31 : w25.cell? ⟨gb431, 1, none⟩ = some (.int .i64 0) := (blk_cell BK431.out 1).trans rfl
      have hfs31 := blk_frozen BK431.out 1
      have hs32 : w25.cell? ⟨gb431, 2, none⟩ = some (.slice none 0 0) := (blk_cell BK431.out 2).trans rfl
      have hfs32 := blk_frozen BK431.out 2
      have hs33 : w25.cell? ⟨gb431, 3, none⟩ = some (.slice none 0 0) := (blk_cell BK431.out 3).trans rfl
      have hfs33 := blk_frozen BK431.out 3
      have hs34 : w25.cell? ⟨gb431, 4, none⟩ = some (.slice none 0 0) := (blk_cell BK431.out 4).trans rfl
      have hfs34 := blk_frozen BK431.out 4
      have hs35 : w25.cell? ⟨gb431, 5, none⟩ = some (.slice none 0 0) := (blk_cell BK431.out 5).trans rfl
      have hfs35 := blk_frozen BK431.out 5
      refine skip_ (w1 := ?_) (by rfl) rfl ?_ ?_
      rotate_left
      ·
       go_simp
       rfl
      refine hK.out _ _ trivial (fun hHeld => ?_)
      clear hK K
      refine pure_ (i := 11) (N := some 3) (v := ?_) (a' := ?_) #[true, true, true, true, true, true, true, true, true, true, true, true] rfl rfl (any_of HT_.out (by kernel_rfl)) (fun _ _ _ h => h) (Or.inl ⟨by rfl, ?_⟩) ?_ ?_
      rotate_left
      ·
       intro w'
       go_simp
       with_reducible rfl
      rotate_left
      ·
       simp only [Act.put, pSq]
       rfl
      refine done_ (done_of HT_.out (by kernel_rfl)) ?_
      try go_wp2
      refine bodyPost_ret (results_ct rfl _ _ gb431 93 #[.int .i64 a0, .int .i64 0, .slice Ao29 y432.length co29, .slice Ao28 y435.length co28, .slice Ao27 y438.length co27, .slice Ao26 y441.length co26] (0, 0) _ rfl (by (with_reducible repeat (first | refine Zkn ?_ _ | refine Zkd ?_ | refine Zka ?_ _)); refine blk_put (cs := #[.int .i64 a0, .int .i64 0, .slice Ao29 y432.length co29, .slice Ao28 y435.length co28, .slice Ao27 y438.length co27, .slice none 0 0]) ?_ 5 _ rfl; (with_reducible repeat (first | refine Zkn ?_ _ | refine Zkd ?_ | refine Zka ?_ _)); refine blk_put (cs := #[.int .i64 a0, .int .i64 0, .slice Ao29 y432.length co29, .slice Ao28 y435.length co28, .slice none 0 0, .slice none 0 0]) ?_ 4 _ rfl; (with_reducible repeat (first | refine Zkn ?_ _ | refine Zkd ?_ | refine Zka ?_ _)); refine blk_put (cs := #[.int .i64 a0, .int .i64 0, .slice Ao29 y432.length co29, .slice none 0 0, .slice none 0 0, .slice none 0 0]) ?_ 3 _ rfl; (with_reducible repeat (first | refine Zkn ?_ _ | refine Zkd ?_ | refine Zka ?_ _)); refine blk_put (cs := #[.int .i64 a0, .int .i64 0, .slice none 0 0, .slice none 0 0, .slice none 0 0, .slice none 0 0]) ?_ 2 _ rfl; (with_reducible repeat (first | refine Zkn ?_ _ | refine Zkd ?_ | refine Zka ?_ _)); refine blk_put (cs := #[.int .i64 a0, .int .i64 0, .slice none 0 0, .slice none 0 0, .slice none 0 0, .slice none 0 0]) ?_ 1 _ rfl; (with_reducible repeat (first | refine Zkn ?_ _ | refine Zkd ?_ | refine Zka ?_ _)); refine blk_put (cs := #[.int .i64 0, .int .i64 0, .slice none 0 0, .slice none 0 0, .slice none 0 0, .slice none 0 0]) ?_ 0 _ rfl; (with_reducible repeat (first | refine Zkn ?_ _ | refine Zkd ?_ | refine Zka ?_ _)); exact BK431.out) Try.underlying93 rfl (by kernel_rfl)) rfl ?_
      exact ⟨_, _, _, _, by first | rfl | (simp [errW_none, errW_some] <;> rfl) | (simp [*, errW_none, errW_some] <;> rfl), by (with_reducible repeat (first | apply Zra | apply Zrn | apply Zrd)); exact Kd.R_mono (Kd.R_far (p := ⟨gb431, 5, none⟩) (Kd.R_far (p := ⟨gb431, 4, none⟩) (Kd.R_far (p := ⟨gb431, 3, none⟩) (Kd.R_far (p := ⟨gb431, 2, none⟩) (Kd.R_far (p := ⟨gb431, 1, none⟩) (Kd.R_far (p := ⟨gb431, 0, none⟩) (Kd.R_types HO434.out BK431.out (by decide)) (fun _ hk => hk.2) (.int .i64 a0)) (fun _ hk => hk.2) (.int .i64 0)) (fun _ hk => hk.2) (.slice Ao29 y432.length co29)) (fun _ hk => hk.2) (.slice Ao28 y435.length co28)) (fun _ hk => hk.2) (.slice Ao27 y438.length co27)) (fun _ hk => hk.2) (.slice Ao26 y441.length co26)) (fun _ hk => hk.1), by (with_reducible repeat (first | apply Zra | apply Zrn | apply Zrd)); exact Kd.R_mono (Kd.R_far (p := ⟨gb431, 5, none⟩) (Kd.R_far (p := ⟨gb431, 4, none⟩) (Kd.R_far (p := ⟨gb431, 3, none⟩) (Kd.R_far (p := ⟨gb431, 2, none⟩) (Kd.R_far (p := ⟨gb431, 1, none⟩) (Kd.R_far (p := ⟨gb431, 0, none⟩) (Kd.R_types HO437.out BK431.out (by decide)) (fun _ hk => hk.2) (.int .i64 a0)) (fun _ hk => hk.2) (.int .i64 0)) (fun _ hk => hk.2) (.slice Ao29 y432.length co29)) (fun _ hk => hk.2) (.slice Ao28 y435.length co28)) (fun _ hk => hk.2) (.slice Ao27 y438.length co27)) (fun _ hk => hk.2) (.slice Ao26 y441.length co26)) (fun _ hk => trivial), by (with_reducible repeat (first | apply Zra | apply Zrn | apply Zrd)); exact Kd.R_mono (Kd.R_far (p := ⟨gb431, 5, none⟩) (Kd.R_far (p := ⟨gb431, 4, none⟩) (Kd.R_far (p := ⟨gb431, 3, none⟩) (Kd.R_far (p := ⟨gb431, 2, none⟩) (Kd.R_far (p := ⟨gb431, 1, none⟩) (Kd.R_far (p := ⟨gb431, 0, none⟩) (Kd.R_types HO440.out BK431.out (by decide)) (fun _ hk => hk.2) (.int .i64 a0)) (fun _ hk => hk.2) (.int .i64 0)) (fun _ hk => hk.2) (.slice Ao29 y432.length co29)) (fun _ hk => hk.2) (.slice Ao28 y435.length co28)) (fun _ hk => hk.2) (.slice Ao27 y438.length co27)) (fun _ hk => hk.2) (.slice Ao26 y441.length co26)) (fun _ hk => hk.1), by (with_reducible repeat (first | apply Zsa | apply Zsn | apply Zsd)); exact Kd.S_mono (Kd.S_far (p := ⟨gb431, 5, none⟩) (Kd.S_far (p := ⟨gb431, 4, none⟩) (Kd.S_far (p := ⟨gb431, 3, none⟩) (Kd.S_far (p := ⟨gb431, 2, none⟩) (Kd.S_far (p := ⟨gb431, 1, none⟩) (Kd.S_far (p := ⟨gb431, 0, none⟩) (Kd.S_types HO443.out BK431.out (by decide)) (fun _ hk => hk.2) (.int .i64 a0)) (fun _ hk => hk.2) (.int .i64 0)) (fun _ hk => hk.2) (.slice Ao29 y432.length co29)) (fun _ hk => hk.2) (.slice Ao28 y435.length co28)) (fun _ hk => hk.2) (.slice Ao27 y438.length co27)) (fun _ hk => hk.2) (.slice Ao26 y441.length co26)) (fun _ hk => trivial), by repeat (first | (with_reducible first | exact HB.out | apply Zba | apply Zbn | apply Zbd | refine below_set ?_ GE431.out) | exact HB.out)⟩
     ·
      rw [if_neg c10] at H
      exact absurd H (by simp)
    ·
     rw [if_neg c9] at H
     exact absurd H (by simp)
   ·
    rw [if_neg c8] at H
    exact absurd H (by simp)
end Go.Proofs.Ythfdjccdelbeeaa.PT
end
