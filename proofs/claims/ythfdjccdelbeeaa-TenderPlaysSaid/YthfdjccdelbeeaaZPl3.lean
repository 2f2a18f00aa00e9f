/-
  The texts that the theorem in YthfdjccdelbeeaaZRowPl rests on, merged (part 4); only what it reaches.
-/
import Derived.Test.YthfdjccdelbeeaaZPl2
section
namespace Go.Proofs.Ythfdjccdelbeeaa.PT
open Go.RowKit Go.Proofs.YthfdjccdelbeeaaW.PrintWords Go.Proofs.YthfdjccdelbeeaaW.PrintLast Go.Proofs.YthfdjccdelbeeaaW.PrintMore
attribute [local go_sem] max2_int min2_int max_two min_two max_three min_three max_four min_four   -- for this text's walks alone
set_option linter.unusedVariables false
set_option linter.unusedSimpArgs false
def tender_valid.f (a0_0 : Int) (a0_1 : Int) (a0_2 : Int) (a1 : Int) : Option (Bool) := if a0_0 ≥ 0 then (if a0_0 ≤ 7 then (if a0_1 ≥ 1 then (if 0 ≤ a1 then (if a0_1 < (shl .i64 1 a1) then (if a0_2 ≥ 1 then (some (decide (a0_2 ≤ 1073741824))) else (some false)) else (some false)) else (none)) else (some false)) else (some false)) else (some false)
set_option maxHeartbeats 8000000 in
set_option maxRecDepth 100000 in
theorem tender_valid.calls (a0_0 : Int) (a0_1 : Int) (a0_2 : Int) (a1 : Int) (r : Bool) (w : World) (h : tender_valid.f a0_0 a0_1 a0_2 a1 = some r) :
  Calls Try.prog 57 #[.agg #[.int .i64 a0_0, .int .i64 a0_1, .int .i64 a0_2], .int .i64 a1] w fun e w' => e = .returned (.bool r) ∧ Below w.heap.size w w' := by
 have hu50 := Try.underlying50
 have HB := Aside0.mk (Below.refl w.heap.size w)
 have H : (if a0_0 ≥ 0 then (if a0_0 ≤ 7 then (if a0_1 ≥ 1 then (if 0 ≤ a1 then (if a0_1 < (shl .i64 1 a1) then (if a0_2 ≥ 1 then (some (decide (a0_2 ≤ 1073741824))) else (some false)) else (some false)) else (none)) else (some false)) else (some false)) else (some false)) = some r := h
 clear h
 by_cases c3 : a0_0 ≥ 0
 ·
  rw [if_pos c3] at H
  have c3b0 : decide (0 ≤ a0_0) = true := decide_eq_true c3
  clear c3
  by_cases c4 : a0_0 ≤ 7
  ·
   rw [if_pos c4] at H
   have c4b0 : decide (a0_0 ≤ 7) = true := decide_eq_true c4
   clear c4
   by_cases c5 : a0_1 ≥ 1
   ·
    rw [if_pos c5] at H
    have c5b0 : decide (1 ≤ a0_1) = true := decide_eq_true c5
    clear c5
    by_cases c6 : 0 ≤ a1
    ·
     rw [if_pos c6] at H
     have c6b0 := eq_true c6
     have c6b1 : decide (0 ≤ a1) = true := decide_eq_true c6
     clear c6
     obtain ⟨ji7, hji7⟩ : ∃ j_ : Int, (shl .i64 1 a1) = j_ := ⟨_, rfl⟩
     replace H : (if a0_1 < (ji7) then (if a0_2 ≥ 1 then (some (decide (a0_2 ≤ 1073741824))) else (some false)) else (some false)) = some r := by first | (rw [hji7] at H; exact H) | (simp only [hji7] at H ⊢; exact H)
     have hji7_ : (IntKind.i64.wrap (1 * 2 ^ min a1.toNat 64)) = ji7 := hji7
     have hji7z : a1 ≤ 64 → (IntKind.i64.wrap (1 * 2 ^ a1.toNat)) = ji7 := shl_small hji7
     have hji7u : (IntKind.i64.wrap (2 ^ min a1.toNat 64)) = ji7 := by have h_ := hji7_; rw [Int.one_mul] at h_; exact h_
     have hji7v : a1 ≤ 64 → (IntKind.i64.wrap (2 ^ a1.toNat)) = ji7 := fun hle_ => by have h_ := hji7z hle_; rw [Int.one_mul] at h_; exact h_
     have hji7y : (wrap64 (1 * 2 ^ min a1.toNat 64)) = ji7 := (i64_w _).symm.trans hji7_
     have hji7x : a1 ≤ 64 → (wrap64 (1 * 2 ^ a1.toNat)) = ji7 := fun h_ => (i64_w _).symm.trans (hji7z h_)
     by_cases c8 : a0_1 < (ji7)
     ·
      rw [if_pos c8] at H
      have c8b0 : decide (a0_1 < (ji7)) = true := decide_eq_true c8
      clear c8
      by_cases c9 : a0_2 ≥ 1
      ·
       rw [if_pos c9] at H
       have c9b0 : decide (1 ≤ a0_2) = true := decide_eq_true c9
       clear c9
       obtain rfl := Option.some.inj H
       go_enter Try.func57, Try.ntmps57
       go_wp2_with (first | ((with_reducible refine gate_dst (N := 2) rfl ?_); refine box_event ?hg (N := 2) ?hd (cs := #[.int .i64 a0_0, .int .i64 a0_1, .int .i64 a0_2]) (t := 50) ?hr ?_; (case hd => rfl); (case hg => rfl); (case hr => first | (go_simp; done) | (go_simp; rfl)); intro gb103 hg w10 hbox hb; have n0_ := Aside0.mk (below_step (by repeat (first | (with_reducible first | exact HB.out | apply Zba | apply Zbn | apply Zbd) | exact HB.out)) hb); have n1_ := Aside0.mk (hbox); have n2_ := Aside0.mk ((by rw [hg]; exact (below_size (by repeat (first | (with_reducible first | exact HB.out | apply Zba | apply Zbn | apply Zbd) | exact HB.out))) : w.heap.size ≤ gb103)); have n3_ := Aside0.mk ((by rw [hg]; exact (below_size (by repeat (first | (with_reducible first | exact HB.out | apply Zba | apply Zbn | apply Zbd) | exact HB.out))) : w.heap.size ≤ gb103)); clear HB; have HB := n0_; have BK103 := n1_; have GW103 := n2_; have GE103 := n3_; clear n0_ n1_ n2_ n3_; clear hb hbox hg; have hcz11_0 : w10.cell? ⟨gb103, 0, none⟩ = some (.int .i64 a0_0) := (blk_cell BK103.out 0).trans rfl; have hcz11_1 : w10.cell? ⟨gb103, 1, none⟩ = some (.int .i64 a0_1) := (blk_cell BK103.out 1).trans rfl; have hcz11_2 : w10.cell? ⟨gb103, 2, none⟩ = some (.int .i64 a0_2) := (blk_cell BK103.out 2).trans rfl; have hfz11_0 := blk_frozen BK103.out 0; have hfz11_1 := blk_frozen BK103.out 1; have hfz11_2 := blk_frozen BK103.out 2))
       repeat (go_quiet (first | ((with_reducible refine gate_dst (N := 2) rfl ?_); refine box_event ?hg (N := 2) ?hd (cs := #[.int .i64 a0_0, .int .i64 a0_1, .int .i64 a0_2]) (t := 50) ?hr ?_; (case hd => rfl); (case hg => rfl); (case hr => first | (go_simp; done) | (go_simp; rfl)); intro gb103 hg w10 hbox hb; have n0_ := Aside0.mk (below_step (by repeat (first | (with_reducible first | exact HB.out | apply Zba | apply Zbn | apply Zbd) | exact HB.out)) hb); have n1_ := Aside0.mk (hbox); have n2_ := Aside0.mk ((by rw [hg]; exact (below_size (by repeat (first | (with_reducible first | exact HB.out | apply Zba | apply Zbn | apply Zbd) | exact HB.out))) : w.heap.size ≤ gb103)); have n3_ := Aside0.mk ((by rw [hg]; exact (below_size (by repeat (first | (with_reducible first | exact HB.out | apply Zba | apply Zbn | apply Zbd) | exact HB.out))) : w.heap.size ≤ gb103)); clear HB; have HB := n0_; have BK103 := n1_; have GW103 := n2_; have GE103 := n3_; clear n0_ n1_ n2_ n3_; clear hb hbox hg; have hcz11_0 : w10.cell? ⟨gb103, 0, none⟩ = some (.int .i64 a0_0) := (blk_cell BK103.out 0).trans rfl; have hcz11_1 : w10.cell? ⟨gb103, 1, none⟩ = some (.int .i64 a0_1) := (blk_cell BK103.out 1).trans rfl; have hcz11_2 : w10.cell? ⟨gb103, 2, none⟩ = some (.int .i64 a0_2) := (blk_cell BK103.out 2).trans rfl; have hfz11_0 := blk_frozen BK103.out 0; have hfz11_1 := blk_frozen BK103.out 1; have hfz11_2 := blk_frozen BK103.out 2)); try go_wp2_with (first | ((with_reducible refine gate_dst (N := 2) rfl ?_); refine box_event ?hg (N := 2) ?hd (cs := #[.int .i64 a0_0, .int .i64 a0_1, .int .i64 a0_2]) (t := 50) ?hr ?_; (case hd => rfl); (case hg => rfl); (case hr => first | (go_simp; done) | (go_simp; rfl)); intro gb103 hg w10 hbox hb; have n0_ := Aside0.mk (below_step (by repeat (first | (with_reducible first | exact HB.out | apply Zba | apply Zbn | apply Zbd) | exact HB.out)) hb); have n1_ := Aside0.mk (hbox); have n2_ := Aside0.mk ((by rw [hg]; exact (below_size (by repeat (first | (with_reducible first | exact HB.out | apply Zba | apply Zbn | apply Zbd) | exact HB.out))) : w.heap.size ≤ gb103)); have n3_ := Aside0.mk ((by rw [hg]; exact (below_size (by repeat (first | (with_reducible first | exact HB.out | apply Zba | apply Zbn | apply Zbd) | exact HB.out))) : w.heap.size ≤ gb103)); clear HB; have HB := n0_; have BK103 := n1_; have GW103 := n2_; have GE103 := n3_; clear n0_ n1_ n2_ n3_; clear hb hbox hg; have hcz11_0 : w10.cell? ⟨gb103, 0, none⟩ = some (.int .i64 a0_0) := (blk_cell BK103.out 0).trans rfl; have hcz11_1 : w10.cell? ⟨gb103, 1, none⟩ = some (.int .i64 a0_1) := (blk_cell BK103.out 1).trans rfl; have hcz11_2 : w10.cell? ⟨gb103, 2, none⟩ = some (.int .i64 a0_2) := (blk_cell BK103.out 2).trans rfl; have hfz11_0 := blk_frozen BK103.out 0; have hfz11_1 := blk_frozen BK103.out 1; have hfz11_2 := blk_frozen BK103.out 2)))
       go_ret
       exact ⟨by first | rfl | (simp [errW_none, errW_some] <;> rfl) | (simp only [← hji7]; first | rfl | (simp [errW_none, errW_some] <;> rfl)) | (simp [*, errW_none, errW_some] <;> rfl), by repeat (first | (with_reducible first | exact HB.out | apply Zba | apply Zbn | apply Zbd | refine below_set ?_ GE103.out) | exact HB.out)⟩
      ·
       rw [if_neg c9] at H
       have c9b0 : decide (1 ≤ a0_2) = false := decide_eq_false c9
       clear c9
       obtain rfl := Option.some.inj H
       go_enter Try.func57, Try.ntmps57
       go_wp2_with (first | ((with_reducible refine gate_dst (N := 2) rfl ?_); refine box_event ?hg (N := 2) ?hd (cs := #[.int .i64 a0_0, .int .i64 a0_1, .int .i64 a0_2]) (t := 50) ?hr ?_; (case hd => rfl); (case hg => rfl); (case hr => first | (go_simp; done) | (go_simp; rfl)); intro gb103 hg w12 hbox hb; have n0_ := Aside0.mk (below_step (by repeat (first | (with_reducible first | exact HB.out | apply Zba | apply Zbn | apply Zbd) | exact HB.out)) hb); have n1_ := Aside0.mk (hbox); have n2_ := Aside0.mk ((by rw [hg]; exact (below_size (by repeat (first | (with_reducible first | exact HB.out | apply Zba | apply Zbn | apply Zbd) | exact HB.out))) : w.heap.size ≤ gb103)); have n3_ := Aside0.mk ((by rw [hg]; exact (below_size (by repeat (first | (with_reducible first | exact HB.out | apply Zba | apply Zbn | apply Zbd) | exact HB.out))) : w.heap.size ≤ gb103)); clear HB; have HB := n0_; have BK103 := n1_; have GW103 := n2_; have GE103 := n3_; clear n0_ n1_ n2_ n3_; clear hb hbox hg; have hcz13_0 : w12.cell? ⟨gb103, 0, none⟩ = some (.int .i64 a0_0) := (blk_cell BK103.out 0).trans rfl; have hcz13_1 : w12.cell? ⟨gb103, 1, none⟩ = some (.int .i64 a0_1) := (blk_cell BK103.out 1).trans rfl; have hcz13_2 : w12.cell? ⟨gb103, 2, none⟩ = some (.int .i64 a0_2) := (blk_cell BK103.out 2).trans rfl; have hfz13_0 := blk_frozen BK103.out 0; have hfz13_1 := blk_frozen BK103.out 1; have hfz13_2 := blk_frozen BK103.out 2))
       repeat (go_quiet (first | ((with_reducible refine gate_dst (N := 2) rfl ?_); refine box_event ?hg (N := 2) ?hd (cs := #[.int .i64 a0_0, .int .i64 a0_1, .int .i64 a0_2]) (t := 50) ?hr ?_; (case hd => rfl); (case hg => rfl); (case hr => first | (go_simp; done) | (go_simp; rfl)); intro gb103 hg w12 hbox hb; have n0_ := Aside0.mk (below_step (by repeat (first | (with_reducible first | exact HB.out | apply Zba | apply Zbn | apply Zbd) | exact HB.out)) hb); have n1_ := Aside0.mk (hbox); have n2_ := Aside0.mk ((by rw [hg]; exact (below_size (by repeat (first | (with_reducible first | exact HB.out | apply Zba | apply Zbn | apply Zbd) | exact HB.out))) : w.heap.size ≤ gb103)); have n3_ := Aside0.mk ((by rw [hg]; exact (below_size (by repeat (first | (with_reducible first | exact HB.out | apply Zba | apply Zbn | apply Zbd) | exact HB.out))) : w.heap.size ≤ gb103)); clear HB; have HB := n0_; have BK103 := n1_; have GW103 := n2_; have GE103 := n3_; clear n0_ n1_ n2_ n3_; clear hb hbox hg; have hcz13_0 : w12.cell? ⟨gb103, 0, none⟩ = some (.int .i64 a0_0) := (blk_cell BK103.out 0).trans rfl; have hcz13_1 : w12.cell? ⟨gb103, 1, none⟩ = some (.int .i64 a0_1) := (blk_cell BK103.out 1).trans rfl; have hcz13_2 : w12.cell? ⟨gb103, 2, none⟩ = some (.int .i64 a0_2) := (blk_cell BK103.out 2).trans rfl; have hfz13_0 := blk_frozen BK103.out 0; have hfz13_1 := blk_frozen BK103.out 1; have hfz13_2 := blk_frozen BK103.out 2)); try go_wp2_with (first | ((with_reducible refine gate_dst (N := 2) rfl ?_); refine box_event ?hg (N := 2) ?hd (cs := #[.int .i64 a0_0, .int .i64 a0_1, .int .i64 a0_2]) (t := 50) ?hr ?_; (case hd => rfl); (case hg => rfl); (case hr => first | (go_simp; done) | (go_simp; rfl)); intro gb103 hg w12 hbox hb; have n0_ := Aside0.mk (below_step (by repeat (first | (with_reducible first | exact HB.out | apply Zba | apply Zbn | apply Zbd) | exact HB.out)) hb); have n1_ := Aside0.mk (hbox); have n2_ := Aside0.mk ((by rw [hg]; exact (below_size (by repeat (first | (with_reducible first | exact HB.out | apply Zba | apply Zbn | apply Zbd) | exact HB.out))) : w.heap.size ≤ gb103)); have n3_ := Aside0.mk ((by rw [hg]; exact (below_size (by repeat (first | (with_reducible first | exact HB.out | apply Zba | apply Zbn | apply Zbd) | exact HB.out))) : w.heap.size ≤ gb103)); clear HB; have HB := n0_; have BK103 := n1_; have GW103 := n2_; have GE103 := n3_; clear n0_ n1_ n2_ n3_; clear hb hbox hg; have hcz13_0 : w12.cell? ⟨gb103, 0, none⟩ = some (.int .i64 a0_0) := (blk_cell BK103.out 0).trans rfl; have hcz13_1 : w12.cell? ⟨gb103, 1, none⟩ = some (.int .i64 a0_1) := (blk_cell BK103.out 1).trans rfl; have hcz13_2 : w12.cell? ⟨gb103, 2, none⟩ = some (.int .i64 a0_2) := (blk_cell BK103.out 2).trans rfl; have hfz13_0 := blk_frozen BK103.out 0; have hfz13_1 := blk_frozen BK103.out 1; have hfz13_2 := blk_frozen BK103.out 2)))
       go_ret
       exact ⟨by first | rfl | (simp [errW_none, errW_some] <;> rfl) | (simp only [← hji7]; first | rfl | (simp [errW_none, errW_some] <;> rfl)) | (simp [*, errW_none, errW_some] <;> rfl), by repeat (first | (with_reducible first | exact HB.out | apply Zba | apply Zbn | apply Zbd | refine below_set ?_ GE103.out) | exact HB.out)⟩
     ·
      rw [if_neg c8] at H
      have c8b0 : decide (a0_1 < (ji7)) = false := decide_eq_false c8
      clear c8
      obtain rfl := Option.some.inj H
      go_enter Try.func57, Try.ntmps57
      go_wp2_with (first | ((with_reducible refine gate_dst (N := 2) rfl ?_); refine box_event ?hg (N := 2) ?hd (cs := #[.int .i64 a0_0, .int .i64 a0_1, .int .i64 a0_2]) (t := 50) ?hr ?_; (case hd => rfl); (case hg => rfl); (case hr => first | (go_simp; done) | (go_simp; rfl)); intro gb103 hg w14 hbox hb; have n0_ := Aside0.mk (below_step (by repeat (first | (with_reducible first | exact HB.out | apply Zba | apply Zbn | apply Zbd) | exact HB.out)) hb); have n1_ := Aside0.mk (hbox); have n2_ := Aside0.mk ((by rw [hg]; exact (below_size (by repeat (first | (with_reducible first | exact HB.out | apply Zba | apply Zbn | apply Zbd) | exact HB.out))) : w.heap.size ≤ gb103)); have n3_ := Aside0.mk ((by rw [hg]; exact (below_size (by repeat (first | (with_reducible first | exact HB.out | apply Zba | apply Zbn | apply Zbd) | exact HB.out))) : w.heap.size ≤ gb103)); clear HB; have HB := n0_; have BK103 := n1_; have GW103 := n2_; have GE103 := n3_; clear n0_ n1_ n2_ n3_; clear hb hbox hg; have hcz15_0 : w14.cell? ⟨gb103, 0, none⟩ = some (.int .i64 a0_0) := (blk_cell BK103.out 0).trans rfl; have hcz15_1 : w14.cell? ⟨gb103, 1, none⟩ = some (.int .i64 a0_1) := (blk_cell BK103.out 1).trans rfl; have hcz15_2 : w14.cell? ⟨gb103, 2, none⟩ = some (.int .i64 a0_2) := (blk_cell BK103.out 2).trans rfl; have hfz15_0 := blk_frozen BK103.out 0; have hfz15_1 := blk_frozen BK103.out 1; have hfz15_2 := blk_frozen BK103.out 2))
      repeat (go_quiet (first | ((with_reducible refine gate_dst (N := 2) rfl ?_); refine box_event ?hg (N := 2) ?hd (cs := #[.int .i64 a0_0, .int .i64 a0_1, .int .i64 a0_2]) (t := 50) ?hr ?_; (case hd => rfl); (case hg => rfl); (case hr => first | (go_simp; done) | (go_simp; rfl)); intro gb103 hg w14 hbox hb; have n0_ := Aside0.mk (below_step (by repeat (first | (with_reducible first | exact HB.out | apply Zba | apply Zbn | apply Zbd) | exact HB.out)) hb); have n1_ := Aside0.mk (hbox); have n2_ := Aside0.mk ((by rw [hg]; exact (below_size (by repeat (first | (with_reducible first | exact HB.out | apply Zba | apply Zbn | apply Zbd) | exact HB.out))) : w.heap.size ≤ gb103)); have n3_ := Aside0.mk ((by rw [hg]; exact (below_size (by repeat (first | (with_reducible first | exact HB.out | apply Zba | apply Zbn | apply Zbd) | exact HB.out))) : w.heap.size ≤ gb103)); clear HB; have HB := n0_; have BK103 := n1_; have GW103 := n2_; have GE103 := n3_; clear n0_ n1_ n2_ n3_; clear hb hbox hg; have hcz15_0 : w14.cell? ⟨gb103, 0, none⟩ = some (.int .i64 a0_0) := (blk_cell BK103.out 0).trans rfl; have hcz15_1 : w14.cell? ⟨gb103, 1, none⟩ = some (.int .i64 a0_1) := (blk_cell BK103.out 1).trans rfl; have hcz15_2 : w14.cell? ⟨gb103, 2, none⟩ = some (.int .i64 a0_2) := (blk_cell BK103.out 2).trans rfl; have hfz15_0 := blk_frozen BK103.out 0; have hfz15_1 := blk_frozen BK103.out 1; have hfz15_2 := blk_frozen BK103.out 2)); try go_wp2_with (first | ((with_reducible refine gate_dst (N := 2) rfl ?_); refine box_event ?hg (N := 2) ?hd (cs := #[.int .i64 a0_0, .int .i64 a0_1, .int .i64 a0_2]) (t := 50) ?hr ?_; (case hd => rfl); (case hg => rfl); (case hr => first | (go_simp; done) | (go_simp; rfl)); intro gb103 hg w14 hbox hb; have n0_ := Aside0.mk (below_step (by repeat (first | (with_reducible first | exact HB.out | apply Zba | apply Zbn | apply Zbd) | exact HB.out)) hb); have n1_ := Aside0.mk (hbox); have n2_ := Aside0.mk ((by rw [hg]; exact (below_size (by repeat (first | (with_reducible first | exact HB.out | apply Zba | apply Zbn | apply Zbd) | exact HB.out))) : w.heap.size ≤ gb103)); have n3_ := Aside0.mk ((by rw [hg]; exact (below_size (by repeat (first | (with_reducible first | exact HB.out | apply Zba | apply Zbn | apply Zbd) | exact HB.out))) : w.heap.size ≤ gb103)); clear HB; have HB := n0_; have BK103 := n1_; have GW103 := n2_; have GE103 := n3_; clear n0_ n1_ n2_ n3_; clear hb hbox hg; have hcz15_0 : w14.cell? ⟨gb103, 0, none⟩ = some (.int .i64 a0_0) := (blk_cell BK103.out 0).trans rfl; have hcz15_1 : w14.cell? ⟨gb103, 1, none⟩ = some (.int .i64 a0_1) := (blk_cell BK103.out 1).trans rfl; have hcz15_2 : w14.cell? ⟨gb103, 2, none⟩ = some (.int .i64 a0_2) := (blk_cell BK103.out 2).trans rfl; have hfz15_0 := blk_frozen BK103.out 0; have hfz15_1 := blk_frozen BK103.out 1; have hfz15_2 := blk_frozen BK103.out 2)))
      go_ret
      exact ⟨by first | rfl | (simp [errW_none, errW_some] <;> rfl) | (simp only [← hji7]; first | rfl | (simp [errW_none, errW_some] <;> rfl)) | (simp [*, errW_none, errW_some] <;> rfl), by repeat (first | (with_reducible first | exact HB.out | apply Zba | apply Zbn | apply Zbd | refine below_set ?_ GE103.out) | exact HB.out)⟩
    ·
     rw [if_neg c6] at H
     exact absurd H (by simp)
   ·
    rw [if_neg c5] at H
    have c5b0 : decide (1 ≤ a0_1) = false := decide_eq_false c5
    clear c5
    obtain rfl := Option.some.inj H
    go_enter Try.func57, Try.ntmps57
    go_wp2_with (first | ((with_reducible refine gate_dst (N := 2) rfl ?_); refine box_event ?hg (N := 2) ?hd (cs := #[.int .i64 a0_0, .int .i64 a0_1, .int .i64 a0_2]) (t := 50) ?hr ?_; (case hd => rfl); (case hg => rfl); (case hr => first | (go_simp; done) | (go_simp; rfl)); intro gb103 hg w16 hbox hb; have n0_ := Aside0.mk (below_step (by repeat (first | (with_reducible first | exact HB.out | apply Zba | apply Zbn | apply Zbd) | exact HB.out)) hb); have n1_ := Aside0.mk (hbox); have n2_ := Aside0.mk ((by rw [hg]; exact (below_size (by repeat (first | (with_reducible first | exact HB.out | apply Zba | apply Zbn | apply Zbd) | exact HB.out))) : w.heap.size ≤ gb103)); have n3_ := Aside0.mk ((by rw [hg]; exact (below_size (by repeat (first | (with_reducible first | exact HB.out | apply Zba | apply Zbn | apply Zbd) | exact HB.out))) : w.heap.size ≤ gb103)); clear HB; have HB := n0_; have BK103 := n1_; have GW103 := n2_; have GE103 := n3_; clear n0_ n1_ n2_ n3_; clear hb hbox hg; have hcz17_0 : w16.cell? ⟨gb103, 0, none⟩ = some (.int .i64 a0_0) := (blk_cell BK103.out 0).trans rfl; have hcz17_1 : w16.cell? ⟨gb103, 1, none⟩ = some (.int .i64 a0_1) := (blk_cell BK103.out 1).trans rfl; have hcz17_2 : w16.cell? ⟨gb103, 2, none⟩ = some (.int .i64 a0_2) := (blk_cell BK103.out 2).trans rfl; have hfz17_0 := blk_frozen BK103.out 0; have hfz17_1 := blk_frozen BK103.out 1; have hfz17_2 := blk_frozen BK103.out 2))
    repeat (go_quiet (first | ((with_reducible refine gate_dst (N := 2) rfl ?_); refine box_event ?hg (N := 2) ?hd (cs := #[.int .i64 a0_0, .int .i64 a0_1, .int .i64 a0_2]) (t := 50) ?hr ?_; (case hd => rfl); (case hg => rfl); (case hr => first | (go_simp; done) | (go_simp; rfl)); intro gb103 hg w16 hbox hb; have n0_ := Aside0.mk (below_step (by repeat (first | (with_reducible first | exact HB.out | apply Zba | apply Zbn | apply Zbd) | exact HB.out)) hb); have n1_ := Aside0.mk (hbox); have n2_ := Aside0.mk ((by rw [hg]; exact (below_size (by repeat (first | (with_reducible first | exact HB.out | apply Zba | apply Zbn | apply Zbd) | exact HB.out))) : w.heap.size ≤ gb103)); have n3_ := Aside0.mk ((by rw [hg]; exact (below_size (by repeat (first | (with_reducible first | exact HB.out | apply Zba | apply Zbn | apply Zbd) | exact HB.out))) : w.heap.size ≤ gb103)); clear HB; have HB := n0_; have BK103 := n1_; have GW103 := n2_; have GE103 := n3_; clear n0_ n1_ n2_ n3_; clear hb hbox hg; have hcz17_0 : w16.cell? ⟨gb103, 0, none⟩ = some (.int .i64 a0_0) := (blk_cell BK103.out 0).trans rfl; have hcz17_1 : w16.cell? ⟨gb103, 1, none⟩ = some (.int .i64 a0_1) := (blk_cell BK103.out 1).trans rfl; have hcz17_2 : w16.cell? ⟨gb103, 2, none⟩ = some (.int .i64 a0_2) := (blk_cell BK103.out 2).trans rfl; have hfz17_0 := blk_frozen BK103.out 0; have hfz17_1 := blk_frozen BK103.out 1; have hfz17_2 := blk_frozen BK103.out 2)); try go_wp2_with (first | ((with_reducible refine gate_dst (N := 2) rfl ?_); refine box_event ?hg (N := 2) ?hd (cs := #[.int .i64 a0_0, .int .i64 a0_1, .int .i64 a0_2]) (t := 50) ?hr ?_; (case hd => rfl); (case hg => rfl); (case hr => first | (go_simp; done) | (go_simp; rfl)); intro gb103 hg w16 hbox hb; have n0_ := Aside0.mk (below_step (by repeat (first | (with_reducible first | exact HB.out | apply Zba | apply Zbn | apply Zbd) | exact HB.out)) hb); have n1_ := Aside0.mk (hbox); have n2_ := Aside0.mk ((by rw [hg]; exact (below_size (by repeat (first | (with_reducible first | exact HB.out | apply Zba | apply Zbn | apply Zbd) | exact HB.out))) : w.heap.size ≤ gb103)); have n3_ := Aside0.mk ((by rw [hg]; exact (below_size (by repeat (first | (with_reducible first | exact HB.out | apply Zba | apply Zbn | apply Zbd) | exact HB.out))) : w.heap.size ≤ gb103)); clear HB; have HB := n0_; have BK103 := n1_; have GW103 := n2_; have GE103 := n3_; clear n0_ n1_ n2_ n3_; clear hb hbox hg; have hcz17_0 : w16.cell? ⟨gb103, 0, none⟩ = some (.int .i64 a0_0) := (blk_cell BK103.out 0).trans rfl; have hcz17_1 : w16.cell? ⟨gb103, 1, none⟩ = some (.int .i64 a0_1) := (blk_cell BK103.out 1).trans rfl; have hcz17_2 : w16.cell? ⟨gb103, 2, none⟩ = some (.int .i64 a0_2) := (blk_cell BK103.out 2).trans rfl; have hfz17_0 := blk_frozen BK103.out 0; have hfz17_1 := blk_frozen BK103.out 1; have hfz17_2 := blk_frozen BK103.out 2)))
    go_ret
    exact ⟨by first | rfl | (simp [errW_none, errW_some] <;> rfl) | (simp [*, errW_none, errW_some] <;> rfl), by repeat (first | (with_reducible first | exact HB.out | apply Zba | apply Zbn | apply Zbd | refine below_set ?_ GE103.out) | exact HB.out)⟩
  ·
   rw [if_neg c4] at H
   have c4b0 : decide (a0_0 ≤ 7) = false := decide_eq_false c4
   clear c4
   obtain rfl := Option.some.inj H
   go_enter Try.func57, Try.ntmps57
   go_wp2_with (first | ((with_reducible refine gate_dst (N := 2) rfl ?_); refine box_event ?hg (N := 2) ?hd (cs := #[.int .i64 a0_0, .int .i64 a0_1, .int .i64 a0_2]) (t := 50) ?hr ?_; (case hd => rfl); (case hg => rfl); (case hr => first | (go_simp; done) | (go_simp; rfl)); intro gb103 hg w18 hbox hb; have n0_ := Aside0.mk (below_step (by repeat (first | (with_reducible first | exact HB.out | apply Zba | apply Zbn | apply Zbd) | exact HB.out)) hb); have n1_ := Aside0.mk (hbox); have n2_ := Aside0.mk ((by rw [hg]; exact (below_size (by repeat (first | (with_reducible first | exact HB.out | apply Zba | apply Zbn | apply Zbd) | exact HB.out))) : w.heap.size ≤ gb103)); have n3_ := Aside0.mk ((by rw [hg]; exact (below_size (by repeat (first | (with_reducible first | exact HB.out | apply Zba | apply Zbn | apply Zbd) | exact HB.out))) : w.heap.size ≤ gb103)); clear HB; have HB := n0_; have BK103 := n1_; have GW103 := n2_; have GE103 := n3_; clear n0_ n1_ n2_ n3_; clear hb hbox hg; have hcz19_0 : w18.cell? ⟨gb103, 0, none⟩ = some (.int .i64 a0_0) := (blk_cell BK103.out 0).trans rfl; have hcz19_1 : w18.cell? ⟨gb103, 1, none⟩ = some (.int .i64 a0_1) := (blk_cell BK103.out 1).trans rfl; have hcz19_2 : w18.cell? ⟨gb103, 2, none⟩ = some (.int .i64 a0_2) := (blk_cell BK103.out 2).trans rfl; have hfz19_0 := blk_frozen BK103.out 0; have hfz19_1 := blk_frozen BK103.out 1; have hfz19_2 := blk_frozen BK103.out 2))
   repeat (go_quiet (first | ((with_reducible refine gate_dst (N := 2) rfl ?_); refine box_event ?hg (N := 2) ?hd (cs := #[.int .i64 a0_0, .int .i64 a0_1, .int .i64 a0_2]) (t := 50) ?hr ?_; (case hd => rfl); (case hg => rfl); (case hr => first | (go_simp; done) | (go_simp; rfl)); intro gb103 hg w18 hbox hb; have n0_ := Aside0.mk (below_step (by repeat (first | (with_reducible first | exact HB.out | apply Zba | apply Zbn | apply Zbd) | exact HB.out)) hb); have n1_ := Aside0.mk (hbox); have n2_ := Aside0.mk ((by rw [hg]; exact (below_size (by repeat (first | (with_reducible first | exact HB.out | apply Zba | apply Zbn | apply Zbd) | exact HB.out))) : w.heap.size ≤ gb103)); have n3_ := Aside0.mk ((by rw [hg]; exact (below_size (by repeat (first | (with_reducible first | exact HB.out | apply Zba | apply Zbn | apply Zbd) | exact HB.out))) : w.heap.size ≤ gb103)); clear HB; have HB := n0_; have BK103 := n1_; have GW103 := n2_; have GE103 := n3_; clear n0_ n1_ n2_ n3_; clear hb hbox hg; have hcz19_0 : w18.cell? ⟨gb103, 0, none⟩ = some (.int .i64 a0_0) := (blk_cell BK103.out 0).trans rfl; have hcz19_1 : w18.cell? ⟨gb103, 1, none⟩ = some (.int .i64 a0_1) := (blk_cell BK103.out 1).trans rfl; have hcz19_2 : w18.cell? ⟨gb103, 2, none⟩ = some (.int .i64 a0_2) := (blk_cell BK103.out 2).trans rfl; have hfz19_0 := blk_frozen BK103.out 0; have hfz19_1 := blk_frozen BK103.out 1; have hfz19_2 := blk_frozen BK103.out 2)); try go_wp2_with (first | ((with_reducible refine gate_dst (N := 2) rfl ?_); refine box_event ?hg (N := 2) ?hd (cs := #[.int .i64 a0_0, .int .i64 a0_1, .int .i64 a0_2]) (t := 50) ?hr ?_; (case hd => rfl); (case hg => rfl); (case hr => first | (go_simp; done) | (go_simp; rfl)); intro gb103 hg w18 hbox hb; have n0_ := Aside0.mk (below_step (by repeat (first | (with_reducible first | exact HB.out | apply Zba | apply Zbn | apply Zbd) | exact HB.out)) hb); have n1_ := Aside0.mk (hbox); have n2_ := Aside0.mk ((by rw [hg]; exact (below_size (by repeat (first | (with_reducible first | exact HB.out | apply Zba | apply Zbn | apply Zbd) | exact HB.out))) : w.heap.size ≤ gb103)); have n3_ := Aside0.mk ((by rw [hg]; exact (below_size (by repeat (first | (with_reducible first | exact HB.out | apply Zba | apply Zbn | apply Zbd) | exact HB.out))) : w.heap.size ≤ gb103)); clear HB; have HB := n0_; have BK103 := n1_; have GW103 := n2_; have GE103 := n3_; clear n0_ n1_ n2_ n3_; clear hb hbox hg; have hcz19_0 : w18.cell? ⟨gb103, 0, none⟩ = some (.int .i64 a0_0) := (blk_cell BK103.out 0).trans rfl; have hcz19_1 : w18.cell? ⟨gb103, 1, none⟩ = some (.int .i64 a0_1) := (blk_cell BK103.out 1).trans rfl; have hcz19_2 : w18.cell? ⟨gb103, 2, none⟩ = some (.int .i64 a0_2) := (blk_cell BK103.out 2).trans rfl; have hfz19_0 := blk_frozen BK103.out 0; have hfz19_1 := blk_frozen BK103.out 1; have hfz19_2 := blk_frozen BK103.out 2)))
   go_ret
   exact ⟨by first | rfl | (simp [errW_none, errW_some] <;> rfl) | (simp [*, errW_none, errW_some] <;> rfl), by repeat (first | (with_reducible first | exact HB.out | apply Zba | apply Zbn | apply Zbd | refine below_set ?_ GE103.out) | exact HB.out)⟩
 ·
  rw [if_neg c3] at H
  have c3b0 : decide (0 ≤ a0_0) = false := decide_eq_false c3
  clear c3
  obtain rfl := Option.some.inj H
  go_enter Try.func57, Try.ntmps57
  go_wp2_with (first | ((with_reducible refine gate_dst (N := 2) rfl ?_); refine box_event ?hg (N := 2) ?hd (cs := #[.int .i64 a0_0, .int .i64 a0_1, .int .i64 a0_2]) (t := 50) ?hr ?_; (case hd => rfl); (case hg => rfl); (case hr => first | (go_simp; done) | (go_simp; rfl)); intro gb103 hg w20 hbox hb; have n0_ := Aside0.mk (below_step (by repeat (first | (with_reducible first | exact HB.out | apply Zba | apply Zbn | apply Zbd) | exact HB.out)) hb); have n1_ := Aside0.mk (hbox); have n2_ := Aside0.mk ((by rw [hg]; exact (below_size (by repeat (first | (with_reducible first | exact HB.out | apply Zba | apply Zbn | apply Zbd) | exact HB.out))) : w.heap.size ≤ gb103)); have n3_ := Aside0.mk ((by rw [hg]; exact (below_size (by repeat (first | (with_reducible first | exact HB.out | apply Zba | apply Zbn | apply Zbd) | exact HB.out))) : w.heap.size ≤ gb103)); clear HB; have HB := n0_; have BK103 := n1_; have GW103 := n2_; have GE103 := n3_; clear n0_ n1_ n2_ n3_; clear hb hbox hg; have hcz21_0 : w20.cell? ⟨gb103, 0, none⟩ = some (.int .i64 a0_0) := (blk_cell BK103.out 0).trans rfl; have hcz21_1 : w20.cell? ⟨gb103, 1, none⟩ = some (.int .i64 a0_1) := (blk_cell BK103.out 1).trans rfl; have hcz21_2 : w20.cell? ⟨gb103, 2, none⟩ = some (.int .i64 a0_2) := (blk_cell BK103.out 2).trans rfl; have hfz21_0 := blk_frozen BK103.out 0; have hfz21_1 := blk_frozen BK103.out 1; have hfz21_2 := blk_frozen BK103.out 2))
  repeat (go_quiet (first | ((with_reducible refine gate_dst (N := 2) rfl ?_); refine box_event ?hg (N := 2) ?hd (cs := #[.int .i64 a0_0, .int .i64 a0_1, .int .i64 a0_2]) (t := 50) ?hr ?_; (case hd => rfl); (case hg => rfl); (case hr => first | (go_simp; done) | (go_simp; rfl)); intro gb103 hg w20 hbox hb; have n0_ := Aside0.mk (below_step (by repeat (first | (with_reducible first | exact HB.out | apply Zba | apply Zbn | apply Zbd) | exact HB.out)) hb); have n1_ := Aside0.mk (hbox); have n2_ := Aside0.mk ((by rw [hg]; exact (below_size (by repeat (first | (with_reducible first | exact HB.out | apply Zba | apply Zbn | apply Zbd) | exact HB.out))) : w.heap.size ≤ gb103)); have n3_ := Aside0.mk ((by rw [hg]; exact (below_size (by repeat (first | (with_reducible first | exact HB.out | apply Zba | apply Zbn | apply Zbd) | exact HB.out))) : w.heap.size ≤ gb103)); clear HB; have HB := n0_; have BK103 := n1_; have GW103 := n2_; have GE103 := n3_; clear n0_ n1_ n2_ n3_; clear hb hbox hg; have hcz21_0 : w20.cell? ⟨gb103, 0, none⟩ = some (.int .i64 a0_0) := (blk_cell BK103.out 0).trans rfl; have hcz21_1 : w20.cell? ⟨gb103, 1, none⟩ = some (.int .i64 a0_1) := (blk_cell BK103.out 1).trans rfl; have hcz21_2 : w20.cell? ⟨gb103, 2, none⟩ = some (.int .i64 a0_2) := (blk_cell BK103.out 2).trans rfl; have hfz21_0 := blk_frozen BK103.out 0; have hfz21_1 := blk_frozen BK103.out 1; have hfz21_2 := blk_frozen BK103.out 2)); try go_wp2_with (first | ((with_reducible refine gate_dst (N := 2) rfl ?_); refine box_event ?hg (N := 2) ?hd (cs := #[.int .i64 a0_0, .int .i64 a0_1, .int .i64 a0_2]) (t := 50) ?hr ?_; (case hd => rfl); (case hg => rfl); (case hr => first | (go_simp; done) | (go_simp; rfl)); intro gb103 hg w20 hbox hb; have n0_ := Aside0.mk (below_step (by repeat (first | (with_reducible first | exact HB.out | apply Zba | apply Zbn | apply Zbd) | exact HB.out)) hb); have n1_ := Aside0.mk (hbox); have n2_ := Aside0.mk ((by rw [hg]; exact (below_size (by repeat (first | (with_reducible first | exact HB.out | apply Zba | apply Zbn | apply Zbd) | exact HB.out))) : w.heap.size ≤ gb103)); have n3_ := Aside0.mk ((by rw [hg]; exact (below_size (by repeat (first | (with_reducible first | exact HB.out | apply Zba | apply Zbn | apply Zbd) | exact HB.out))) : w.heap.size ≤ gb103)); clear HB; have HB := n0_; have BK103 := n1_; have GW103 := n2_; have GE103 := n3_; clear n0_ n1_ n2_ n3_; clear hb hbox hg; have hcz21_0 : w20.cell? ⟨gb103, 0, none⟩ = some (.int .i64 a0_0) := (blk_cell BK103.out 0).trans rfl; have hcz21_1 : w20.cell? ⟨gb103, 1, none⟩ = some (.int .i64 a0_1) := (blk_cell BK103.out 1).trans rfl; have hcz21_2 : w20.cell? ⟨gb103, 2, none⟩ = some (.int .i64 a0_2) := (blk_cell BK103.out 2).trans rfl; have hfz21_0 := blk_frozen BK103.out 0; have hfz21_1 := blk_frozen BK103.out 1; have hfz21_2 := blk_frozen BK103.out 2)))
  go_ret
  exact ⟨by first | rfl | (simp [errW_none, errW_some] <;> rfl) | (simp [*, errW_none, errW_some] <;> rfl), by repeat (first | (with_reducible first | exact HB.out | apply Zba | apply Zbn | apply Zbd | refine below_set ?_ GE103.out) | exact HB.out)⟩
mutual
def tender_checked.j0 : Nat → Int → List (S50) → Bool → Option (Int)
 | 0, _, _, _ => none
 | k + 1, x0, x1, x12 => if x12 = true then (some 2) else (if (x1.length : Int) > 16 then (some 3) else (tender_checked.l0 k x0 x1 (x1.length : Int) 0))
def tender_checked.l0 : Nat → Int → List (S50) → Int → Int → Option (Int)
 | 0, _, _, _, _ => none
 | k + 1, x0, x16, x17, x18 => if x18 < x17 then (if 0 ≤ x18 then (if x18 < (x16.length : Int) then ((tender_valid.f ((rd_T50 x16 x18).f0) ((rd_T50 x16 x18).f1) ((rd_T50 x16 x18).f2) x0).bind fun t106 => (if t106 = true then (tender_checked.l0 k x0 x16 x17 (wrap64 (x18 + 1))) else (some 2))) else (none)) else (none)) else (some 0)
end
def tender_checked.f (k : Nat) (a0 : Int) (l1 : List (S50)) : Option (Int) := if a0 < 1 then (tender_checked.j0 k a0 l1 true) else (tender_checked.j0 k a0 l1 (decide (a0 > 12)))
theorem tender_checked.mono_l : ∀ k, (∀ y0 y1 y2, LeO (tender_checked.j0 k y0 y1 y2) (tender_checked.j0 (k + 1) y0 y1 y2)) ∧ (∀ y0 y1 y2 y3, LeO (tender_checked.l0 k y0 y1 y2 y3) (tender_checked.l0 (k + 1) y0 y1 y2 y3))
 | 0 => ⟨fun _ _ _ r h => by simp [tender_checked.j0] at h, fun _ _ _ _ r h => by simp [tender_checked.l0] at h⟩
 | k + 1 => by
  obtain ⟨ih0, ih1⟩ := tender_checked.mono_l k
  refine ⟨?_, ?_⟩
  ·
   intro y0 y1 y2
   unfold tender_checked.j0
   repeat' first
   | (with_reducible exact ih0 _ _ _)
   | (with_reducible exact ih1 _ _ _ _)
   | (with_reducible exact LeO.refl _)
   | (with_reducible exact LeO.none _)
   | (with_reducible refine LeO.ite ?_ ?_)
   | (with_reducible refine LeO.bind ?_ (fun _ => ?_))
   | exact ih0 _ _ _
   | exact ih1 _ _ _ _
   | exact LeO.none _
   | refine LeO.ite ?_ ?_
   | refine LeO.bind ?_ (fun _ => ?_)
  ·
   intro y0 y1 y2 y3
   unfold tender_checked.l0
   repeat' first
   | (with_reducible exact ih0 _ _ _)
   | (with_reducible exact ih1 _ _ _ _)
   | (with_reducible exact LeO.refl _)
   | (with_reducible exact LeO.none _)
   | (with_reducible refine LeO.ite ?_ ?_)
   | (with_reducible refine LeO.bind ?_ (fun _ => ?_))
   | exact ih0 _ _ _
   | exact ih1 _ _ _ _
   | exact LeO.none _
   | refine LeO.ite ?_ ?_
   | refine LeO.bind ?_ (fun _ => ?_)
theorem tender_checked.mono : ∀ a0 a1 k, LeO (tender_checked.f k a0 a1) (tender_checked.f (k + 1) a0 a1) := by
 intro a0 a1 k
 obtain ⟨ih0, ih1⟩ := tender_checked.mono_l k
 unfold tender_checked.f
 repeat' first
   | (with_reducible exact ih0 _ _ _)
   | (with_reducible exact ih1 _ _ _ _)
   | (with_reducible exact LeO.refl _)
   | (with_reducible exact LeO.none _)
   | (with_reducible refine LeO.ite ?_ ?_)
   | (with_reducible refine LeO.bind ?_ (fun _ => ?_))
   | exact ih0 _ _ _
   | exact ih1 _ _ _ _
   | exact LeO.none _
   | refine LeO.ite ?_ ?_
   | refine LeO.bind ?_ (fun _ => ?_)
set_option maxHeartbeats 8000000 in
set_option maxRecDepth 100000 in
theorem tender_checked.calls (k : Nat) (a0 : Int) (A1 : Option Addr) (c1 : Nat) (l1 : List (S50)) (r : Int) (w : World) (hr1 : Kd.C k50 w A1 l1.length l1) (hc1 : l1.length ≤ c1) (h : tender_checked.f k a0 l1 = some r) :
  Calls Try.prog 49 #[.int .i64 a0, .slice A1 l1.length c1] w fun e w' => e = .returned (.int .i64 r) ∧ Below w.heap.size w w' := by
 have hu50 := Try.underlying50
 have HR1 := Aside0.mk hr1
 have HC1 := Aside0.mk hc1
 clear hr1 hc1
 have HB := Aside0.mk (Below.refl w.heap.size w)
 have H : (if a0 < 1 then (tender_checked.j0 k a0 l1 true) else (tender_checked.j0 k a0 l1 (decide (a0 > 12)))) = some r := h
 clear h
 have HC3 := Aside0.mk H
 clear H
 go_enter Try.func49, Try.ntmps49
 go_upto_region 1 with (fail)
 go_cut [12] (fun v12 wc => ∃ (kq : Nat) (x12_2 : Bool), v12 = .bool x12_2 ∧ Aside0 (tender_checked.j0 kq a0 l1 x12_2 = some r) ∧ Aside0 (kq ≤ k) ∧ Aside0 (Below w.heap.size w wc))
 case first =>
  have H := HC3.out
  clear HC3
  by_cases c4 : a0 < 1
  ·
   rw [if_pos c4] at H
   have c4b0 : decide (a0 < 1) = true := decide_eq_true c4
   clear c4
   (first | rw [c4b0] | (simp only [i64_w, i32_w]; rw [c4b0]) | skip)
   have H' := Aside0.mk H
   clear H
   go_wp2
   go_meet
   case rel => exact ⟨_, (true), (by first | rfl | (simp; done) | (simp [*]; done)), H', ⟨by first | omega | exact Nat.le_refl _⟩, ⟨by repeat (first | (with_reducible first | exact HB.out | apply Zba | apply Zbn | apply Zbd) | exact HB.out)⟩⟩
  ·
   rw [if_neg c4] at H
   have c4b0 : decide (a0 < 1) = false := decide_eq_false c4
   clear c4
   (first | rw [c4b0] | (simp only [i64_w, i32_w]; rw [c4b0]) | skip)
   have H' := Aside0.mk H
   clear H
   go_wp2
   go_meet
   case rel => exact ⟨_, (decide (a0 > 12)), (by first | rfl | (simp; done) | (simp [*]; done)), H', ⟨by first | omega | exact Nat.le_refl _⟩, ⟨by repeat (first | (with_reducible first | exact HB.out | apply Zba | apply Zbn | apply Zbd) | exact HB.out)⟩⟩
 case rest =>
  clear HC3
  try clear c1
  try clear p2
  try clear c4
  try clear c4b0
  obtain ⟨kq, x12_2, rfl, HA, HJ2, HB⟩ := hcut
  cases kq with
  | zero => exact absurd HA.out (by simp [tender_checked.j0])
  | succ kj2 =>
   have H := HA.out
   clear HA
   simp only [tender_checked.j0] at H
   by_cases c5 : x12_2 = true
   ·
    subst c5
    have H1 : (some 2) = some r := by rw [if_pos rfl] at H; exact H
    clear H
    have H := H1
    clear H1
    obtain rfl := Option.some.inj H
    go_wp2
    go_ret
    exact ⟨by first | rfl | (simp [errW_none, errW_some] <;> rfl) | (simp [*, errW_none, errW_some] <;> rfl), by repeat (first | (with_reducible first | exact HB.out | apply Zba | apply Zbn | apply Zbd) | exact HB.out)⟩
   ·
    replace c5 := Bool.eq_false_iff.mpr c5
    subst c5
    have H1 : (if (l1.length : Int) > 16 then (some 3) else (tender_checked.l0 kj2 a0 l1 (l1.length : Int) 0)) = some r := by rw [if_neg (show ¬ (false = true) by decide)] at H; exact H
    clear H
    have H := H1
    clear H1
    by_cases c6 : (l1.length : Int) > 16
    ·
     rw [if_pos c6] at H
     have c6b0 : decide (16 < (l1.length : Int)) = true := decide_eq_true c6
     have c6b1 : decide (16 < l1.length) = true := decide_eq_true (by omega)
     clear c6
     obtain rfl := Option.some.inj H
     go_wp2
     go_ret
     exact ⟨by first | rfl | (simp [errW_none, errW_some] <;> rfl) | (simp [*, errW_none, errW_some] <;> rfl), by repeat (first | (with_reducible first | exact HB.out | apply Zba | apply Zbn | apply Zbd) | exact HB.out)⟩
    ·
     rw [if_neg c6] at H
     have c6b0 : decide (16 < (l1.length : Int)) = false := decide_eq_false c6
     have c6b1 : decide (16 < l1.length) = false := decide_eq_false (by omega)
     clear c6
     have H' := Aside0.mk H
     clear H
     go_wp2
     go_loopg [18] kj2 (fun kq v18 w' => ∃ (x18_2 : Int), v18 = .int .i64 x18_2 ∧ Aside0 (tender_checked.l0 kq a0 l1 (l1.length : Int) x18_2 = some r) ∧ Aside0 (kq ≤ kj2) ∧ Aside0 (Below w.heap.size w w'))
     case atStart => exact ⟨(0), (by first | rfl | (simp; done) | (simp [*]; done)), H', ⟨Nat.le_refl _⟩, ⟨by repeat (first | (with_reducible first | exact HB.out | apply Zba | apply Zbn | apply Zbd) | exact HB.out)⟩⟩
     case round =>
      clear H'
      try clear c1
      try clear p2
      try clear c4
      try clear c4b0
      try clear c5
      try clear c6
      try clear c6b0
      try clear c6b1
      try clear p2
      obtain ⟨x18_2, rfl, HA, HK2, HB⟩ := hrel
      cases gk with
      | zero => exact absurd HA.out (by simp [tender_checked.l0])
      | succ k2 =>
       have H := HA.out
       clear HA
       simp only [tender_checked.l0] at H
       by_cases c7 : x18_2 < (l1.length : Int)
       ·
        rw [if_pos c7] at H
        have c7b0 : decide (x18_2 < (l1.length : Int)) = true := decide_eq_true c7
        clear c7
        by_cases c8 : 0 ≤ x18_2
        ·
         rw [if_pos c8] at H
         have c8b0 : decide (0 ≤ x18_2) = true := decide_eq_true c8
         clear c8
         by_cases c9 : x18_2 < (l1.length : Int)
         ·
          rw [if_pos c9] at H
          have c9b0 : decide (x18_2 < (l1.length : Int)) = true := decide_eq_true c9
          clear c9
          replace H := Option.bind_eq_some_iff.mp H
          obtain ⟨t106, A100, H⟩ := H
          replace H : (if t106 = true then (tender_checked.l0 k2 a0 l1 (l1.length : Int) (wrap64 (x18_2 + 1))) else (some 2)) = some r := H
          have A10 := Aside0.mk A100
          clear A100
          by_cases c11 : t106 = true
          ·
           subst c11
           have H1 : (tender_checked.l0 k2 a0 l1 (l1.length : Int) (wrap64 (x18_2 + 1))) = some r := by rw [if_pos rfl] at H; exact H
           clear H
           have H := H1
           clear H1
           have H' := Aside0.mk H
           clear H
           have p104 : 0 ≤ (x18_2 : Int) := of_decide_eq_true (by first | (with_reducible assumption) | assumption)
           have q104 : x18_2 < (l1.length : Int) := of_decide_eq_true (by first | (with_reducible assumption) | assumption)
           obtain ⟨ad104, e104, hx104_0, hx104_1, hx104_2⟩ := at_T50 HR1.out x18_2 p104 q104
           cases e104
           replace hx104_0 := (HB.out.cell (World.block_lt_of_cell? w _ hx104_0)).trans hx104_0
           replace hx104_1 := (HB.out.cell (World.block_lt_of_cell? w _ hx104_1)).trans hx104_1
           replace hx104_2 := (HB.out.cell (World.block_lt_of_cell? w _ hx104_2)).trans hx104_2
           replace p104 := eq_true p104
           replace q104 := eq_true q104
           go_wp2_with (first | ((with_reducible refine gate_dst (N := 6) rfl ?_); refine box_event ?hg (N := 6) ?hd (cs := #[.int .i64 0, .int .i64 0, .int .i64 0]) (t := 50) ?hr ?_; (case hd => rfl); (case hg => rfl); (case hr => first | (go_simp; done) | (go_simp; rfl)); intro gb105 hg w12 hbox hb; have n0_ := Aside0.mk (below_step (by repeat (first | (with_reducible first | exact HB.out | apply Zba | apply Zbn | apply Zbd) | exact HB.out)) hb); have n1_ := Aside0.mk (hbox); have n2_ := Aside0.mk ((by rw [hg]; exact (below_size (by repeat (first | (with_reducible first | exact HB.out | apply Zba | apply Zbn | apply Zbd) | exact HB.out))) : w.heap.size ≤ gb105)); have n3_ := Aside0.mk ((by rw [hg]; exact (below_size (by repeat (first | (with_reducible first | exact HB.out | apply Zba | apply Zbn | apply Zbd) | exact HB.out))) : w.heap.size ≤ gb105)); clear HB; have HB := n0_; have BK105 := n1_; have GW105 := n2_; have GE105 := n3_; clear n0_ n1_ n2_ n3_; clear hb hbox hg; have hcz13_0 : w12.cell? ⟨gb105, 0, none⟩ = some (.int .i64 0) := (blk_cell BK105.out 0).trans rfl; have hcz13_1 : w12.cell? ⟨gb105, 1, none⟩ = some (.int .i64 0) := (blk_cell BK105.out 1).trans rfl; have hcz13_2 : w12.cell? ⟨gb105, 2, none⟩ = some (.int .i64 0) := (blk_cell BK105.out 2).trans rfl; have hfz13_0 := blk_frozen BK105.out 0; have hfz13_1 := blk_frozen BK105.out 1; have hfz13_2 := blk_frozen BK105.out 2) | ((with_reducible refine gate_callee (f := 57) rfl ?_); refine goesL_ (some 24) rfl rfl Try.func57 (by kernel_rfl) rfl #[.agg #[.int .i64 ((rd_T50 l1 x18_2).f0), .int .i64 ((rd_T50 l1 x18_2).f1), .int .i64 ((rd_T50 l1 x18_2).f2)], .int .i64 a0] rfl (by (try simp only [List.map_toArray, List.map_cons, List.map_nil]); first | done | rfl | (simp only [List.length_drop, List.length_take]; rfl)) ?_; (with_reducible refine (tender_valid.calls ((rd_T50 l1 x18_2).f0) ((rd_T50 l1 x18_2).f1) ((rd_T50 l1 x18_2).f2) a0 true _ A10.out).mono ?_); rintro e w14 ⟨rfl, hb⟩; refine ⟨_, rfl, ?_⟩; have n0_ := Aside0.mk (blk_below (g := gb105) (o := .cells #[.int .i64 ((rd_T50 l1 x18_2).f0), .int .i64 ((rd_T50 l1 x18_2).f1), .int .i64 ((rd_T50 l1 x18_2).f2)] 50 (0, 0)) (by (with_reducible repeat (first | refine Zkn ?_ _ | refine Zkd ?_ | refine Zka ?_ _)); refine blk_put (cs := #[.int .i64 ((rd_T50 l1 x18_2).f0), .int .i64 ((rd_T50 l1 x18_2).f1), .int .i64 0]) ?_ 2 _ rfl; (with_reducible repeat (first | refine Zkn ?_ _ | refine Zkd ?_ | refine Zka ?_ _)); refine blk_put (cs := #[.int .i64 ((rd_T50 l1 x18_2).f0), .int .i64 0, .int .i64 0]) ?_ 1 _ rfl; (with_reducible repeat (first | refine Zkn ?_ _ | refine Zkd ?_ | refine Zka ?_ _)); refine blk_put (cs := #[.int .i64 0, .int .i64 0, .int .i64 0]) ?_ 0 _ rfl; (with_reducible repeat (first | refine Zkn ?_ _ | refine Zkd ?_ | refine Zka ?_ _)); exact BK105.out) hb); have n1_ := Aside0.mk (below_step (by repeat (first | (with_reducible first | exact HB.out | apply Zba | apply Zbn | apply Zbd | refine below_set ?_ GE105.out) | exact HB.out)) hb); clear BK105; clear HB; have BK105 := n0_; have HB := n1_; clear n0_ n1_; (try clear hb); (try clear hb2); (try clear hk); (try clear hi)))
           go_roundg k2
           case measure => have := HJ2.out; have := HK2.out; omega
           case rel => exact ⟨(wrap64 (x18_2 + 1)), (by first | rfl | (simp; done) | (simp [*]; done)), H', ⟨by have := HJ2.out; have := HK2.out; omega⟩, ⟨by repeat (first | (with_reducible first | exact HB.out | apply Zba | apply Zbn | apply Zbd | refine below_set ?_ GE105.out) | exact HB.out)⟩⟩
          ·
           replace c11 := Bool.eq_false_iff.mpr c11
           subst c11
           have H1 : (some 2) = some r := by rw [if_neg (show ¬ (false = true) by decide)] at H; exact H
           clear H
           have H := H1
           clear H1
           obtain rfl := Option.some.inj H
           have p104 : 0 ≤ (x18_2 : Int) := of_decide_eq_true (by first | (with_reducible assumption) | assumption)
           have q104 : x18_2 < (l1.length : Int) := of_decide_eq_true (by first | (with_reducible assumption) | assumption)
           obtain ⟨ad104, e104, hx104_0, hx104_1, hx104_2⟩ := at_T50 HR1.out x18_2 p104 q104
           cases e104
           replace hx104_0 := (HB.out.cell (World.block_lt_of_cell? w _ hx104_0)).trans hx104_0
           replace hx104_1 := (HB.out.cell (World.block_lt_of_cell? w _ hx104_1)).trans hx104_1
           replace hx104_2 := (HB.out.cell (World.block_lt_of_cell? w _ hx104_2)).trans hx104_2
           replace p104 := eq_true p104
           replace q104 := eq_true q104
           go_wp2_with (first | ((with_reducible refine gate_dst (N := 6) rfl ?_); refine box_event ?hg (N := 6) ?hd (cs := #[.int .i64 0, .int .i64 0, .int .i64 0]) (t := 50) ?hr ?_; (case hd => rfl); (case hg => rfl); (case hr => first | (go_simp; done) | (go_simp; rfl)); intro gb105 hg w15 hbox hb; have n0_ := Aside0.mk (below_step (by repeat (first | (with_reducible first | exact HB.out | apply Zba | apply Zbn | apply Zbd) | exact HB.out)) hb); have n1_ := Aside0.mk (hbox); have n2_ := Aside0.mk ((by rw [hg]; exact (below_size (by repeat (first | (with_reducible first | exact HB.out | apply Zba | apply Zbn | apply Zbd) | exact HB.out))) : w.heap.size ≤ gb105)); have n3_ := Aside0.mk ((by rw [hg]; exact (below_size (by repeat (first | (with_reducible first | exact HB.out | apply Zba | apply Zbn | apply Zbd) | exact HB.out))) : w.heap.size ≤ gb105)); clear HB; have HB := n0_; have BK105 := n1_; have GW105 := n2_; have GE105 := n3_; clear n0_ n1_ n2_ n3_; clear hb hbox hg; have hcz16_0 : w15.cell? ⟨gb105, 0, none⟩ = some (.int .i64 0) := (blk_cell BK105.out 0).trans rfl; have hcz16_1 : w15.cell? ⟨gb105, 1, none⟩ = some (.int .i64 0) := (blk_cell BK105.out 1).trans rfl; have hcz16_2 : w15.cell? ⟨gb105, 2, none⟩ = some (.int .i64 0) := (blk_cell BK105.out 2).trans rfl; have hfz16_0 := blk_frozen BK105.out 0; have hfz16_1 := blk_frozen BK105.out 1; have hfz16_2 := blk_frozen BK105.out 2) | ((with_reducible refine gate_callee (f := 57) rfl ?_); refine goesL_ (some 24) rfl rfl Try.func57 (by kernel_rfl) rfl #[.agg #[.int .i64 ((rd_T50 l1 x18_2).f0), .int .i64 ((rd_T50 l1 x18_2).f1), .int .i64 ((rd_T50 l1 x18_2).f2)], .int .i64 a0] rfl (by (try simp only [List.map_toArray, List.map_cons, List.map_nil]); first | done | rfl | (simp only [List.length_drop, List.length_take]; rfl)) ?_; (with_reducible refine (tender_valid.calls ((rd_T50 l1 x18_2).f0) ((rd_T50 l1 x18_2).f1) ((rd_T50 l1 x18_2).f2) a0 false _ A10.out).mono ?_); rintro e w17 ⟨rfl, hb⟩; refine ⟨_, rfl, ?_⟩; have n0_ := Aside0.mk (blk_below (g := gb105) (o := .cells #[.int .i64 ((rd_T50 l1 x18_2).f0), .int .i64 ((rd_T50 l1 x18_2).f1), .int .i64 ((rd_T50 l1 x18_2).f2)] 50 (0, 0)) (by (with_reducible repeat (first | refine Zkn ?_ _ | refine Zkd ?_ | refine Zka ?_ _)); refine blk_put (cs := #[.int .i64 ((rd_T50 l1 x18_2).f0), .int .i64 ((rd_T50 l1 x18_2).f1), .int .i64 0]) ?_ 2 _ rfl; (with_reducible repeat (first | refine Zkn ?_ _ | refine Zkd ?_ | refine Zka ?_ _)); refine blk_put (cs := #[.int .i64 ((rd_T50 l1 x18_2).f0), .int .i64 0, .int .i64 0]) ?_ 1 _ rfl; (with_reducible repeat (first | refine Zkn ?_ _ | refine Zkd ?_ | refine Zka ?_ _)); refine blk_put (cs := #[.int .i64 0, .int .i64 0, .int .i64 0]) ?_ 0 _ rfl; (with_reducible repeat (first | refine Zkn ?_ _ | refine Zkd ?_ | refine Zka ?_ _)); exact BK105.out) hb); have n1_ := Aside0.mk (below_step (by repeat (first | (with_reducible first | exact HB.out | apply Zba | apply Zbn | apply Zbd | refine below_set ?_ GE105.out) | exact HB.out)) hb); clear BK105; clear HB; have BK105 := n0_; have HB := n1_; clear n0_ n1_; (try clear hb); (try clear hb2); (try clear hk); (try clear hi)))
           go_ret
           exact ⟨by first | rfl | (simp [errW_none, errW_some] <;> rfl) | (simp [*, errW_none, errW_some] <;> rfl), by repeat (first | (with_reducible first | exact HB.out | apply Zba | apply Zbn | apply Zbd | refine below_set ?_ GE105.out) | exact HB.out)⟩
         ·
          rw [if_neg c9] at H
          exact absurd H (by simp)
        ·
         rw [if_neg c8] at H
         exact absurd H (by simp)
       ·
        rw [if_neg c7] at H
        have c7b0 : decide (x18_2 < (l1.length : Int)) = false := decide_eq_false c7
        clear c7
        obtain rfl := Option.some.inj H
        go_wp2
        go_ret
        exact ⟨by first | rfl | (simp [errW_none, errW_some] <;> rfl) | (simp [*, errW_none, errW_some] <;> rfl), by repeat (first | (with_reducible first | exact HB.out | apply Zba | apply Zbn | apply Zbd) | exact HB.out)⟩
end Go.Proofs.Ythfdjccdelbeeaa.PT
end
section
namespace Go.Proofs.Ythfdjccdelbeeaa.PT
open Go.RowKit Go.Proofs.YthfdjccdelbeeaaW.PrintWords Go.Proofs.YthfdjccdelbeeaaW.PrintLast Go.Proofs.YthfdjccdelbeeaaW.PrintMore
attribute [local go_sem] max2_int min2_int max_two min_two max_three min_three max_four min_four   -- for this text's walks alone
set_option linter.unusedVariables false
set_option linter.unusedSimpArgs false
theorem bhid {p : Prop} (h : p) : Hid p := h
def bSum : List S50 → Int
 | [] => 0
 | o :: os => bSum os + o.f2
def bOk (wo lots buyers : Int) (o : S50) : Prop := ¬ o.f0 = wo ∧ bits .and .i64 lots o.f1 = 0 ∧ bits .and .i64 buyers (wrap64 (2 ^ o.f0.toNat)) = 0
instance (wo lots buyers : Int) (o : S50) : Decidable (bOk wo lots buyers o) := by unfold bOk; exact inferInstance
def bGo (wo : Int) : List S50 → Int → Int → Int → Int → List Int → List Int × Int → List Int × Int
 | [], _, _, _, sum, now, tw => if sum ≤ tw.2 then tw else (now, sum)
 | o :: os, i, lots, buyers, sum, now, tw =>
  if sum + bSum (o :: os) ≤ tw.2 then tw
  else bGo wo os (i + 1) lots buyers sum now (if bOk wo lots buyers o then bGo wo os (i + 1) (bits .or .i64 lots o.f1) (bits .or .i64 buyers (wrap64 (2 ^ o.f0.toNat))) (sum + o.f2) (now ++ [i]) tw else tw)
def bValid (l : List S50) : Prop := l.length ≤ 16 ∧ ∀ o ∈ l, 0 ≤ o.f0 ∧ o.f0 ≤ 7 ∧ 1 ≤ o.f1 ∧ o.f1 < 4096 ∧ 1 ≤ o.f2 ∧ o.f2 ≤ 1073741824
instance (l : List S50) : Decidable (bValid l) := by unfold bValid; exact inferInstance
theorem bSum_bd : ∀ (l : List S50), (∀ o ∈ l, 1 ≤ o.f2 ∧ o.f2 ≤ 1073741824) → 0 ≤ bSum l ∧ bSum l ≤ l.length * 1073741824
 | [], _ => by simp [bSum]
 | o :: os, h => by
  have h1 := h o List.mem_cons_self
  have h2 := bSum_bd os (fun x hx => h x (List.mem_cons_of_mem _ hx))
  simp only [bSum, List.length_cons]
  omega
theorem bGo_bd (wo : Int) : ∀ (os : List S50) (i lots buyers sum : Int) (now : List Int) (tw : List Int × Int) (M : Int), (∀ o ∈ os, 1 ≤ o.f2 ∧ o.f2 ≤ 1073741824) → tw.2 ≤ M → sum + bSum os ≤ M → tw.2 ≤ (bGo wo os i lots buyers sum now tw).2 ∧ (bGo wo os i lots buyers sum now tw).2 ≤ M
 | [], i, lots, buyers, sum, now, tw, M, _, h1, h2 => by
  simp only [bGo, bSum] at *
  split
  ·
   omega
  ·
   dsimp only; omega
 | o :: os, i, lots, buyers, sum, now, tw, M, h, h1, h2 => by
  have ho := h o List.mem_cons_self
  have hos := fun x hx => h x (List.mem_cons_of_mem o hx)
  simp only [bSum] at h2
  simp only [bGo]
  split
  ·
   omega
  ·
   split
   ·
    have a := bGo_bd wo os (i + 1) (bits .or .i64 lots o.f1) (bits .or .i64 buyers (wrap64 (2 ^ o.f0.toNat))) (sum + o.f2) (now ++ [i]) tw M hos h1 (by omega)
    have b := bGo_bd wo os (i + 1) lots buyers sum now (bGo wo os (i + 1) (bits .or .i64 lots o.f1) (bits .or .i64 buyers (wrap64 (2 ^ o.f0.toNat))) (sum + o.f2) (now ++ [i]) tw) M hos a.2 (by omega)
    omega
   ·
    exact bGo_bd wo os (i + 1) lots buyers sum now tw M hos h1 (by omega)
structure BInv (w0 : World) (B g2 g3 g6 gr g8 g9 g10 g11 : Nat) (A0 : Option Addr) (c0 : Nat) (l : List S50) (wo : Int) (w : World) (T : List Int) (m : Int) (N : List Int) : Prop where
 below : Below w0.heap.size w0 w
 lo : w0.heap.size ≤ g2
 d23 : g2 < g3
 d36 : g3 < g6
 d6r : g3 < gr
 d6r' : g6 ≠ gr
 d68 : g6 < g8
 dr8 : gr < g8
 d89 : g8 < g9
 d910 : g9 < g10
 d1011 : g10 < g11
 d11 : g11 < B
 size : B ≤ w.heap.size
 b2 : w.heap[g2]? = some (.cells #[.slice A0 l.length c0] 22 (0, 0))
 b3 : w.heap[g3]? = some (.cells #[.int .i64 wo] 3 (0, 0))
 b6 : w.heap[g6]? = some (.cells #[.slice (some ⟨gr, 0, none⟩) (l.length + 1) (l.length + 1)] 26 (0, 0))
 br : ∃ cs, w.heap[gr]? = some (.cells cs 3 (0, 0)) ∧ ∀ j, j ≤ l.length → cs[j]? = some (.int .i64 (bSum (l.drop j)))
 b11 : w.heap[g11]? = some (.cells #[.func (.func 68) #[] #[.pointer (some ⟨g6, 0, none⟩), .pointer (some ⟨g10, 0, none⟩), .pointer (some ⟨g2, 0, none⟩), .pointer (some ⟨g9, 0, none⟩), .pointer (some ⟨g8, 0, none⟩), .pointer (some ⟨g3, 0, none⟩), .pointer (some ⟨g11, 0, none⟩)]] 130 (0, 0))
 b10 : w.heap[g10]? = some (.cells #[.int .i64 m] 3 (0, 0))
 rows : ∃ vt vn, w.heap[g8]? = some (.cells #[vt] 26 (0, 0)) ∧ w.heap[g9]? = some (.cells #[vn] 26 (0, 0)) ∧ w.ownsRow B 3 1 vt T.length (nums .i64 T) ∧ w.ownsRow B 3 1 vn N.length (nums .i64 N) ∧ (vt.ownBlock = none ∨ vt.ownBlock ≠ vn.ownBlock)
theorem BInv.drewN {w0 : World} {B g2 g3 g6 gr g8 g9 g10 g11 : Nat} {A0 : Option Addr} {c0 : Nat} {l : List S50} {wo : Int} {w : World} {T : List Int} {m : Int} {N : List Int} (h : BInv w0 B g2 g3 g6 gr g8 g9 g10 g11 A0 c0 l wo w T m N) (n : Nat) :
  BInv w0 B g2 g3 g6 gr g8 g9 g10 g11 A0 c0 l wo (w.drewN n) T m N :=
 ⟨Zbn h.below n, h.lo, h.d23, h.d36, h.d6r, h.d6r', h.d68, h.dr8, h.d89, h.d910, h.d1011, h.d11, h.size, h.b2, h.b3, h.b6, h.br, h.b11, h.b10, h.rows⟩
theorem BInv.grown {w0 : World} {B g2 g3 g6 gr g8 g9 g10 g11 : Nat} {A0 : Option Addr} {c0 : Nat} {l : List S50} {wo : Int} {w w1 : World} {T : List Int} {m : Int} {N : List Int} (h : BInv w0 B g2 g3 g6 gr g8 g9 g10 g11 A0 c0 l wo w T m N) (hg : w.grownBy w1 none) :
  BInv w0 B g2 g3 g6 gr g8 g9 g10 g11 A0 c0 l wo w1 T m N := by
 obtain ⟨vt, vn, r8, r9, rt, rn, rd⟩ := h.rows
 obtain ⟨cs, hb, hc⟩ := h.br
 have hs := h.size
 have := h.lo
 have := h.d23
 have := h.d36
 have := h.d68
 have := h.d89
 have := h.d910
 have := h.d1011
 have := h.d11
 have hb0 := h.below.size
 exact ⟨h.below.grown hg (by omega) (by simp), h.lo, h.d23, h.d36, h.d6r, h.d6r', h.d68, h.dr8, h.d89, h.d910, h.d1011, h.d11, Nat.le_trans hs hg.size, blk_grown h.b2 hg (by simp), blk_grown h.b3 hg (by simp), blk_grown h.b6 hg (by simp), ⟨cs, blk_grown hb hg (by simp), hc⟩, blk_grown h.b11 hg (by simp), blk_grown h.b10 hg (by simp),
  ⟨vt, vn, blk_grown r8 hg (by simp), blk_grown r9 hg (by simp), rt.kept hg (by cases vt.ownBlock <;> simp), rn.kept hg (by cases vn.ownBlock <;> simp), rd⟩⟩
theorem ne_blk {w : World} {B g n : Nat} {v : Value} {xs : List Value} (h : w.ownsRow B 3 1 v n xs) (hg : g < B) : some g ≠ v.ownBlock := by
 intro e; have := (h.lt g e.symm).1; omega
theorem ne_type {w : World} {B g n : Nat} {v : Value} {xs : List Value} {cs : Array Value} {t : TypeId} (h : w.ownsRow B 3 1 v n xs) (hb : w.heap[g]? = some (.cells cs t (0, 0))) (ht : t ≠ 3) : some g ≠ v.ownBlock := by
 intro e
 rcases h.2 with ⟨rfl, _⟩ | ⟨g', cap, cur, rfl, _, hh, _⟩
 ·
  simp [Value.ownBlock] at e
 ·
  simp [Value.ownBlock] at e
  subst e
  rw [hb] at hh
  injection hh with hh
  injection hh with _ h2
  exact ht h2
theorem BInv.setNow {w0 : World} {B g2 g3 g6 gr g8 g9 g10 g11 : Nat} {A0 : Option Addr} {c0 : Nat} {l : List S50} {wo : Int} {w w1 : World} {T : List Int} {m : Int} {N N' : List Int} {vt vn v1 : Value} (h : BInv w0 B g2 g3 g6 gr g8 g9 g10 g11 A0 c0 l wo w T m N)
  (r8 : w.heap[g8]? = some (.cells #[vt] 26 (0, 0))) (r9 : w.heap[g9]? = some (.cells #[vn] 26 (0, 0))) (rt : w.ownsRow B 3 1 vt T.length (nums .i64 T)) (rn : w.ownsRow B 3 1 vn N.length (nums .i64 N)) (rd : vt.ownBlock = none ∨ vt.ownBlock ≠ vn.ownBlock)
  (ho : w1.ownsRow B 3 1 v1 N'.length (nums .i64 N')) (hg : w.grownBy w1 vn.ownBlock) (hat : v1.ownBlock = vn.ownBlock ∨ ∃ b, v1.ownBlock = some b ∧ w.heap.size ≤ b) :
  BInv w0 B g2 g3 g6 gr g8 g9 g10 g11 A0 c0 l wo (w1.setCell ⟨g9, 0, none⟩ v1) T m N' := by
 obtain ⟨cs, hb, hc⟩ := h.br
 have hs := h.size
 have q1 := h.lo
 have q2 := h.d23
 have q3 := h.d36
 have q4 := h.d68
 have q5 := h.d89
 have q6 := h.d910
 have q7 := h.d1011
 have q8 := h.d11
 have q9 := h.dr8
 have q10 := h.d6r
 have hb0 := h.below.size
 have far : ∀ {g : Nat} {cs : Array Value} {t : TypeId}, g < B → g ≠ g9 → w.heap[g]? = some (.cells cs t (0, 0)) → (w1.setCell ⟨g9, 0, none⟩ v1).heap[g]? = some (.cells cs t (0, 0)) := fun hg1 hg2 hw => blk_far (blk_grown hw hg (ne_blk rn hg1)) (p := ⟨g9, 0, none⟩) hg2 v1
 have r9' := blk_grown r9 hg (ne_blk rn (by omega))
 have hset : w1.grownBy (w1.setCell ⟨g9, 0, none⟩ v1) (some g9) := ⟨rfl, rfl, rfl, by simp [World.setCell], fun k _ hne => Below.heap_setCell _ _ _ _ (fun e => hne (by rw [e]))⟩
 refine ⟨(h.below.grown hg (by omega) (fun k hk => ?_)).setCell (by show _ ≤ g9; omega) _, h.lo, h.d23, h.d36, h.d6r, h.d6r', h.d68, h.dr8, h.d89, h.d910, h.d1011, h.d11, Nat.le_trans hs (Nat.le_trans hg.size hset.size), far (by omega) (by omega) h.b2, far (by omega) (by omega) h.b3, far (by omega) (by omega) h.b6, ⟨cs, far (by omega) (by omega) hb, hc⟩, far (by omega) (by omega) h.b11, far (by omega) (by omega) h.b10, vt, v1, far (by omega) (by omega) r8, blk_put r9' 0 v1 rfl, ?_, ?_, ?_⟩
 ·
  have := (rn.lt k hk).1; omega
 ·
  exact (rt.kept hg rd).kept hset (Or.inr (fun e => ne_blk rt (by omega : g9 < B) e.symm))
 ·
  exact ho.kept hset (Or.inr (fun e => ne_blk ho (by omega : g9 < B) e.symm))
 ·
  rcases hat with e | ⟨b, e, hbb⟩
  ·
   rw [e]; exact rd
  ·
   right; intro e2
   have := (rt.lt b (e2.trans e)).2; omega
theorem BInv.setBest {w0 : World} {B g2 g3 g6 gr g8 g9 g10 g11 : Nat} {A0 : Option Addr} {c0 : Nat} {l : List S50} {wo : Int} {w w1 : World} {T T' : List Int} {m m' : Int} {N : List Int} {vn v1 : Value} (h : BInv w0 B g2 g3 g6 gr g8 g9 g10 g11 A0 c0 l wo w T m N)
  (r9 : w.heap[g9]? = some (.cells #[vn] 26 (0, 0))) (rn : w.ownsRow B 3 1 vn N.length (nums .i64 N))
  (ho : w1.ownsRow B 3 1 v1 T'.length (nums .i64 T')) (hg : w.grownBy w1 none) (hat : v1.ownBlock = none ∨ ∃ b, v1.ownBlock = some b ∧ w.heap.size ≤ b) :
  BInv w0 B g2 g3 g6 gr g8 g9 g10 g11 A0 c0 l wo ((w1.setCell ⟨g8, 0, none⟩ v1).setCell ⟨g10, 0, none⟩ (.int .i64 m')) T' m' N := by
 obtain ⟨cs, hb, hc⟩ := h.br
 obtain ⟨vt, _, r8, _, _, _, _⟩ := h.rows
 have hs := h.size
 have q1 := h.lo
 have q2 := h.d23
 have q3 := h.d36
 have q4 := h.d68
 have q5 := h.d89
 have q6 := h.d910
 have q7 := h.d1011
 have q8 := h.d11
 have q9 := h.dr8
 have q10 := h.d6r
 have hb0 := h.below.size
 have far : ∀ {g : Nat} {cs : Array Value} {t : TypeId}, g ≠ g8 → g ≠ g10 → w.heap[g]? = some (.cells cs t (0, 0)) → ((w1.setCell ⟨g8, 0, none⟩ v1).setCell ⟨g10, 0, none⟩ (.int .i64 m')).heap[g]? = some (.cells cs t (0, 0)) := fun hg1 hg2 hw => blk_far (blk_far (blk_grown hw hg (by simp)) (p := ⟨g8, 0, none⟩) hg1 v1) (p := ⟨g10, 0, none⟩) hg2 _
 have r8' := blk_grown r8 hg (by simp)
 have r10' := blk_grown h.b10 hg (by simp)
 have hset : w1.grownBy (w1.setCell ⟨g8, 0, none⟩ v1) (some g8) := ⟨rfl, rfl, rfl, by simp [World.setCell], fun k _ hne => Below.heap_setCell _ _ _ _ (fun e => hne (by rw [e]))⟩
 have hset2 : (w1.setCell ⟨g8, 0, none⟩ v1).grownBy ((w1.setCell ⟨g8, 0, none⟩ v1).setCell ⟨g10, 0, none⟩ (.int .i64 m')) (some g10) := ⟨rfl, rfl, rfl, by simp [World.setCell], fun k _ hne => Below.heap_setCell _ _ _ _ (fun e => hne (by rw [e]))⟩
 have keep : ∀ {v : Value} {n : Nat} {xs : List Value}, w1.ownsRow B 3 1 v n xs → ((w1.setCell ⟨g8, 0, none⟩ v1).setCell ⟨g10, 0, none⟩ (.int .i64 m')).ownsRow B 3 1 v n xs := fun hv => (hv.kept hset (Or.inr (fun e => ne_blk hv (by omega : g8 < B) e.symm))).kept hset2 (Or.inr (fun e => ne_blk hv (by omega : g10 < B) e.symm))
 refine ⟨((h.below.grown hg (by omega) (by simp)).setCell (by show _ ≤ g8; omega) _).setCell (by show _ ≤ g10; omega) _, h.lo, h.d23, h.d36, h.d6r, h.d6r', h.d68, h.dr8, h.d89, h.d910, h.d1011, h.d11, Nat.le_trans hs (Nat.le_trans hg.size (Nat.le_trans hset.size hset2.size)), far (by omega) (by omega) h.b2, far (by omega) (by omega) h.b3, far (by omega) (by omega) h.b6, ⟨cs, far (by omega) (by omega) hb, hc⟩, far (by omega) (by omega) h.b11, ?_, v1, vn, ?_, far (by omega) (by omega) r9, keep ho, keep (rn.kept hg (by cases vn.ownBlock <;> simp)), ?_⟩
 ·
  exact blk_put (blk_far r10' (p := ⟨g8, 0, none⟩) (by show g10 ≠ g8; omega) v1) 0 _ rfl
 ·
  exact blk_far (blk_put r8' 0 v1 rfl) (p := ⟨g10, 0, none⟩) (by show g8 ≠ g10; omega) _
 ·
  rcases hat with e | ⟨b, e, hbb⟩
  ·
   exact Or.inl e
  ·
   right; intro e2
   have := (rn.lt b (e2.symm.trans e)).2; omega
theorem own_cap {w : World} {B n c : Nat} {A : Option Addr} {xs : List Value} (h : w.ownsRow B 3 1 (.slice A n c) n xs) : n ≤ c := by
 rcases h.2 with ⟨e, h0⟩ | ⟨g, cap, cur, e, _, _, hn, _⟩
 ·
  omega
 ·
  injection e with _ _ e3
  omega
theorem own_take {w : World} {B n c k : Nat} {A : Option Addr} {xs : List Int} (h : w.ownsRow B 3 1 (.slice A n c) n (nums .i64 xs)) (hk : k ≤ n) : w.ownsRow B 3 1 (.slice A k c) k (nums .i64 (xs.take k)) := by
 obtain ⟨h1, h2⟩ := h
 simp [nums] at h1
 refine ⟨by simp [nums]; omega, ?_⟩
 rcases h2 with ⟨e, h0⟩ | ⟨g, cap, cur, e, hb, hh, hn, hm, hsz, ht⟩
 ·
  injection e with e1 e2 e3
  subst e1 e3
  left; constructor
  ·
   congr; omega
  ·
   omega
 ·
  injection e with e1 e2 e3
  subst e1 e3
  right
  refine ⟨g, c, cur, rfl, hb, hh, by omega, hm, hsz, ?_⟩
  have := congrArg (List.take k) ht
  rw [List.take_take] at this
  rw [show min k (n * 1) = k * 1 from by omega] at this
  rw [this]; simp [nums]
theorem bk_cell {w : World} {g : Nat} {v : Value} {t : TypeId} (h : w.heap[g]? = some (.cells #[v] t (0, 0))) : w.cell? ⟨g, 0, none⟩ = some v := by rw [blk_cell h]; rfl
theorem bk_cell3 {w : World} {g : Nat} {u v x : Value} {t : TypeId} (h : w.heap[g]? = some (.cells #[u, v, x] t (0, 0))) : w.cell? ⟨g, 0, none⟩ = some u ∧ w.cell? ⟨g, 1, none⟩ = some v ∧ w.cell? ⟨g, 2, none⟩ = some x := by rw [blk_cell h, blk_cell h, blk_cell h]; exact ⟨rfl, rfl, rfl⟩
set_option maxHeartbeats 1600000 in
set_option maxRecDepth 100000 in
theorem best1_calls (w0 : World) (B g2 g3 g6 gr g8 g9 g10 g11 : Nat) (A0 : Option Addr) (c0 : Nat) (l : List S50) (wo : Int) (hr0 : Kd.C k50 w0 A0 l.length l) (hv : bValid l) :
  ∀ (os : List S50) (i : Nat) (lots buyers sum : Int) (T : List Int) (m : Int) (N : List Int) (w : World), l.drop i = os → i + os.length = l.length → N.length ≤ i → 0 ≤ sum → sum ≤ i * 1073741824 → -1 ≤ m → m ≤ 100000000000 →
   BInv w0 B g2 g3 g6 gr g8 g9 g10 g11 A0 c0 l wo w T m N →
   Calls Try.prog 68 #[.int .i64 i, .int .i64 lots, .int .i64 buyers, .int .i64 sum, .pointer (some ⟨g6, 0, none⟩), .pointer (some ⟨g10, 0, none⟩), .pointer (some ⟨g2, 0, none⟩), .pointer (some ⟨g9, 0, none⟩), .pointer (some ⟨g8, 0, none⟩), .pointer (some ⟨g3, 0, none⟩), .pointer (some ⟨g11, 0, none⟩)] w
    fun e w' => e = .returned (.tuple #[]) ∧ BInv w0 B g2 g3 g6 gr g8 g9 g10 g11 A0 c0 l wo w' (bGo wo os i lots buyers sum N (T, m)).1 (bGo wo os i lots buyers sum N (T, m)).2 N := by
 intro os
 induction os with
 | nil =>
  intro i lots buyers sum T m N w hd hi hN hs0 hs1 hm0 hm1 H
  have HI := bhid H
  obtain ⟨cs, hbr, hcs⟩ := H.br
  have hil : i = l.length := by simpa using hi
  have hci : w.cell? ⟨gr, i, none⟩ = some (.int .i64 0) := by rw [blk_cell hbr, hcs i (by omega), hd]; rfl
  have hc6 := blk_cell H.b6 0
  have hc10 := blk_cell H.b10 0
  simp only [List.getElem?_toArray, List.getElem?_cons_zero] at hc6 hc10
  have hlen := hv.1
  have hii : (i : Int) < ((l.length + 1 : Nat) : Int) := by omega
  have hi0 : (0 : Int) ≤ (i : Int) := by omega
  have HV := bhid hv
  have HR := bhid hr0
  clear hcs hbr H hd hv hr0 hi
  by_cases hle : sum ≤ m
  ·
   have HE := bhid hil
   clear hil
   go_enter Try.func68, Try.ntmps68
   go_wp2_with fail
   go_quiet (fail)
   go_wp2_with fail
   refine bodyPost_ret (results_none rfl _ _ _) rfl ⟨rfl, ?_⟩
   have e : bGo wo [] i lots buyers sum N (T, m) = (T, m) := by
    simp only [bGo]
    rw [if_pos hle]
   rw [e]
   exact HI.out.drewN _
  ·
   have hlt : m < sum := by omega
   clear hle
   have hib : ((i : Int) == (l.length : Int)) = true := by rw [hil]; simp
   have HE := bhid hil
   clear hil
   have hc2 := blk_cell HI.out.b2 0
   simp only [List.getElem?_toArray, List.getElem?_cons_zero] at hc2
   go_enter Try.func68, Try.ntmps68
   go_wp2_with fail
   go_quiet (fail)
   have HI1 := bhid (HI.out.drewN nq)
   replace hc2 : (w.drewN nq).cell? ⟨g2, 0, none⟩ = _ := hc2
   generalize w.drewN nq = w1 at *
   clear HI hci hc6 hc10
   obtain ⟨vt, vn, r8, r9, rt, rn, rd⟩ := HI1.out.rows
   obtain ⟨An, cn, hvn, hrd⟩ := own_reads rn
   subst hvn
   have hc9 := bk_cell r9
   have R9 := bhid r9
   have R8 := bhid r8
   have HRD := bhid hrd
   have hN16 : N.length ≤ 16 := by omega
   clear r9 r8 hrd
   go_wp2_with (first | (at_builtin; refine print_append_row (w0 := w1) B rfl (.const (.slice none 0 0)) (.tmp 28) 26 3 .i64 8 rfl Try.underlying26 info3 (by decide) (.slice none 0 0) [] N An N.length cn rfl rfl (own_nil _ _ _ _) HRD.out (Below.refl _ _) HI1.out.size (by simp only [List.length_nil]; omega) ?_; intro v1 w3 hown hB3 hg3 hat; obtain ⟨A1, c1, rfl⟩ := own_slice hown; have R83 := blk_grown R8.out hg3 (by simp [Value.ownBlock]); have R103 := blk_grown HI1.out.b10 hg3 (by simp [Value.ownBlock]); have hc83 := bk_cell R83; have hf83 := blk_frozen R83 0; have hc103 := bk_cell R103; have hf103 := blk_frozen R103 0; have hne810 : g8 ≠ g10 := (by have := HI1.out.d89; have := HI1.out.d910; omega); have hx10 := bk_cell (blk_far R103 (p := ⟨g8, 0, none⟩) (fun e => hne810 e.symm) (.slice A1 (N.length) c1)); have hxf10 := blk_frozen (blk_far R103 (p := ⟨g8, 0, none⟩) (fun e => hne810 e.symm) (.slice A1 (N.length) c1)) 0))
   have hSB := HI1.out.setBest (T' := N) (m' := sum) (v1 := .slice A1 N.length c1) R9.out rn (by simpa using hown) (by simpa [Value.ownBlock] using hg3) (by simpa [Value.ownBlock] using hat)
   refine bodyPost_ret (results_none rfl _ _ _) rfl ⟨rfl, ?_⟩
   have e : bGo wo [] i lots buyers sum N (T, m) = (N, sum) := by
    simp only [bGo]
    rw [if_neg (by omega)]
   rw [e]
   exact hSB
 | cons o os ih =>
  intro i lots buyers sum T m N w hd hi hN hs0 hs1 hm0 hm1 H
  have HI := bhid H
  have HD := bhid hd
  obtain ⟨cs, hbr, hcs⟩ := H.br
  have hci : w.cell? ⟨gr, i, none⟩ = some (.int .i64 (bSum (o :: os))) := by rw [blk_cell hbr, hcs i (by omega), hd]
  have hc6 := blk_cell H.b6 0
  have hc10 := blk_cell H.b10 0
  simp only [List.getElem?_toArray, List.getElem?_cons_zero] at hc6 hc10
  have hlen := hv.1
  have hosv : ∀ x ∈ o :: os, 1 ≤ x.f2 ∧ x.f2 ≤ 1073741824 := fun x hx => by
   have := hv.2 x (List.mem_of_mem_drop (i := i) (by rw [hd]; exact hx)); omega
  have hsb : 0 ≤ bSum (o :: os) ∧ bSum (o :: os) ≤ 16 * 1073741824 := by
   have := bSum_bd _ hosv
   omega
  have HOS := bhid hosv
  clear hosv
  have hii : (i : Int) < ((l.length + 1 : Nat) : Int) := by omega
  have hi0 : (0 : Int) ≤ (i : Int) := by omega
  have HV := bhid hv
  have HR := bhid hr0
  have HC := bhid hcs
  have HBR := bhid hbr
  clear hcs hbr H hd hv hr0
  by_cases hle : sum + bSum (o :: os) ≤ m
  ·
   generalize hS : bSum (o :: os) = S at *
   have HS := bhid hS
   clear hS
   go_enter Try.func68, Try.ntmps68
   go_wp2_with fail
   go_quiet (fail)
   go_wp2_with fail
   refine bodyPost_ret (results_none rfl _ _ _) rfl ⟨rfl, ?_⟩
   have e : bGo wo (o :: os) i lots buyers sum N (T, m) = (T, m) := by
    simp only [bGo]
    rw [if_pos (by rw [HS.out]; exact hle)]
   rw [e]
   exact HI.out.drewN _
  ·
   have hlt : m < sum + bSum (o :: os) := by omega
   generalize hS : bSum (o :: os) = S at *
   have HS := bhid hS
   clear hS hle
   have hil : i < l.length := by simp at hi; omega
   have hc2 := blk_cell HI.out.b2 0
   have hc3 := blk_cell HI.out.b3 0
   simp only [List.getElem?_toArray, List.getElem?_cons_zero] at hc2 hc3
   obtain ⟨ad, e0, hx0, hx1, hx2⟩ := at_T50 (Kd.C_below HR.out HI.out.below) (i : Int) (by omega) (by omega)
   cases e0
   have hoo : rd_T50 l (i : Int) = o := by
    have := congrArg List.head? HD.out
    rw [List.head?_drop] at this
    simp [rd_T50, List.getD_eq_getElem?_getD, this]
   rw [hoo] at hx0 hx1 hx2
   simp only [Int.toNat_natCast] at hx0 hx1 hx2
   clear hoo
   obtain ⟨v00, v01, v10, v11, v20, v21⟩ := HV.out.2 o (List.mem_of_mem_drop (i := i) (by rw [HD.out]; exact List.mem_cons_self))
   by_cases hk1 : o.f0 = wo
   ·
    have hk1b : (o.f0 != wo) = false := bne_eq_false_iff_eq.mpr hk1
    have HK : Hid (¬ bOk wo lots buyers o) := bhid (fun h => h.1 hk1)
    clear hk1
    (
      go_enter Try.func68, Try.ntmps68
      go_wp2_with fail
      go_quiet (fail)
      have HI1 := bhid (HI.out.drewN nq)
      replace hc2 : (w.drewN nq).cell? ⟨g2, 0, none⟩ = _ := hc2
      replace hc3 : (w.drewN nq).cell? ⟨g3, 0, none⟩ = _ := hc3
      replace hx0 : (w.drewN nq).cell? _ = _ := hx0
      replace hx1 : (w.drewN nq).cell? _ = _ := hx1
      replace hx2 : (w.drewN nq).cell? _ = _ := hx2
      generalize w.drewN nq = w1 at *
      clear HI HBR HC hci hc6 hc10
      go_upto_region 4 with (fail)
      have HI2 := bhid (HI1.out.grown (World.grownBy_alloc w1 (.cells #[.int .i64 o.f0, .int .i64 o.f1, .int .i64 o.f2] 50) none))
      have hz2 : w1.heap.size < (w1.alloc (.cells #[.int .i64 o.f0, .int .i64 o.f1, .int .i64 o.f2] 50)).heap.size := by simp
      have hb2 := blk_new w1 (.cells #[.int .i64 o.f0, .int .i64 o.f1, .int .i64 o.f2] 50)
      have hgv := HI1.out.size
      generalize w1.alloc (.cells #[.int .i64 o.f0, .int .i64 o.f1, .int .i64 o.f2] 50) = w2 at *
      generalize w1.heap.size = gv at *
      have HV2 := bhid hb2
      obtain ⟨ho0, ho1, ho2⟩ := bk_cell3 hb2
      obtain ⟨vt, vn, r8, r9, rt, rn, rd⟩ := HI2.out.rows
      have R8 := bhid r8
      have R9 := bhid r9
      have hc9 := bk_cell r9
      have hc3 := bk_cell HI2.out.b3
      clear hb2 r8 r9 hc2 hx0 hx1 hx2 HI1
      have EQ : Hid (bGo wo (o :: os) i lots buyers sum N (T, m) = bGo wo os (i + 1) lots buyers sum N (T, m)) := bhid (by
       rw [bGo, if_neg (by rw [HS.out]; show ¬ (sum + S ≤ m); omega), if_neg HK.out])
      clear HK
      go_upto_region 8 with (fail)
      have hc11 := bk_cell HI2.out.b11
      have hd2 : l.drop (i + 1) = os := by rw [← List.drop_drop, HD.out]; rfl
      have e2 : ((i + 1 : Nat) : Int) = (i : Int) + 1 := by omega
      have IH2' := ih (i + 1) lots buyers sum T m N w2 hd2 (by simp at hi; omega) (by omega) hs0 (by omega) (by omega) (by omega) HI2.out
      rw [e2] at IH2'
      have IH2 := bhid IH2'
      clear IH2' e2 hd2
      go_wp2_with fail
      refine IH2.out.mono ?_
      rintro e w8 ⟨rfl, hI8⟩
      have HI8 := bhid hI8
      clear hI8 IH2
      go_wp2_with fail
      first
       | (go_end0; exact ⟨rfl, by rw [EQ.out]; exact HI8.out⟩)
       | (refine bodyPost_ret (results_none rfl _ _ _) rfl ⟨rfl, by rw [EQ.out]; exact HI8.out⟩)
    )
   ·
    have hk1b : (o.f0 != wo) = true := bne_iff_ne.mpr hk1
    by_cases hk2 : bits .and .i64 lots o.f1 = 0
    ·
     have hk2b : (bits .and .i64 lots o.f1 == 0) = true := beq_iff_eq.mpr hk2
     by_cases hk3 : bits .and .i64 buyers (wrap64 (2 ^ o.f0.toNat)) = 0
     ·
      have hk3b : (bits .and .i64 buyers (wrap64 (2 ^ o.f0.toNat)) == 0) = true := beq_iff_eq.mpr hk3
      have HK : Hid (bOk wo lots buyers o) := bhid ⟨hk1, hk2, hk3⟩
      clear hk1 hk2 hk3
      go_enter Try.func68, Try.ntmps68
      go_wp2_with fail
      go_quiet (fail)
      have HI1 := bhid (HI.out.drewN nq)
      replace hc2 : (w.drewN nq).cell? ⟨g2, 0, none⟩ = _ := hc2
      replace hc3 : (w.drewN nq).cell? ⟨g3, 0, none⟩ = _ := hc3
      replace hx0 : (w.drewN nq).cell? _ = _ := hx0
      replace hx1 : (w.drewN nq).cell? _ = _ := hx1
      replace hx2 : (w.drewN nq).cell? _ = _ := hx2
      generalize w.drewN nq = w1 at *
      clear HI HBR HC hci hc6 hc10
      go_upto_region 4 with (fail)
      have HI2 := bhid (HI1.out.grown (World.grownBy_alloc w1 (.cells #[.int .i64 o.f0, .int .i64 o.f1, .int .i64 o.f2] 50) none))
      have hz2 : w1.heap.size < (w1.alloc (.cells #[.int .i64 o.f0, .int .i64 o.f1, .int .i64 o.f2] 50)).heap.size := by simp
      have hb2 := blk_new w1 (.cells #[.int .i64 o.f0, .int .i64 o.f1, .int .i64 o.f2] 50)
      have hgv := HI1.out.size
      generalize w1.alloc (.cells #[.int .i64 o.f0, .int .i64 o.f1, .int .i64 o.f2] 50) = w2 at *
      generalize w1.heap.size = gv at *
      have HV2 := bhid hb2
      obtain ⟨ho0, ho1, ho2⟩ := bk_cell3 hb2
      obtain ⟨vt, vn, r8, r9, rt, rn, rd⟩ := HI2.out.rows
      have R8 := bhid r8
      have R9 := bhid r9
      have hc9 := bk_cell r9
      have hc3 := bk_cell HI2.out.b3
      clear hb2 r8 r9 hc2 hx0 hx1 hx2 HI1
      have hN16 : N.length < 16 := by omega
      go_upto_region 6 with (first | (at_builtin; refine print_append_num (w0 := w2) B rfl (.tmp 54) (.tmp 56) 26 3 .i64 8 rfl Try.underlying26 info3 (by decide) vn N (i : Int) rfl rfl rn (Below.refl _ _) HI2.out.size (by omega) ?_; intro v1 w3 hown hB3 hg3 hat; obtain ⟨A1, c1, rfl⟩ := own_slice hown; have R93 := blk_grown R9.out hg3 (ne_blk rn (by have := HI2.out.d910; have := HI2.out.d1011; have := HI2.out.d11; omega)); have hc93 := bk_cell R93; have hf93 := blk_frozen R93 0; clear hc9))
      have hv3 := blk_grown HV2.out hg3 (ne_type rn HV2.out (by decide))
      have hl : (N ++ [(i : Int)]).length = N.length + 1 := by simp
      have hi4 := HI2.out.setNow R8.out R9.out rt rn rd hown hg3 hat
      rw [hl] at hi4
      have HI4 := bhid hi4
      clear hi4 hl
      have hgv9 : gv ≠ g9 := by have := HI2.out.d910; have := HI2.out.d1011; have := HI2.out.d11; omega
      have hv4 := blk_far hv3 (p := ⟨g9, 0, none⟩) hgv9 (.slice A1 (N.length + 1) c1)
      have HV4 := bhid hv4
      clear hg3 hown hB3 hat R93 hf93 hc93 hv3 hv4 rd rt rn HI2 HV2 R8 R9 ho0 ho1 ho2 hc3
      generalize w3.setCell ⟨g9, 0, none⟩ (.slice A1 (N.length + 1) c1) = w4 at *
      have hc11 := bk_cell HI4.out.b11
      obtain ⟨ho0, ho1, ho2⟩ := bk_cell3 HV4.out
      have hsz4 := HI4.out.size
      go_still_tail 16, (by kernel_rfl)
      change wpList _ _ _ _ _ w4.drew
      have HI5 := bhid (HI4.out.drewN 1)
      change Hid (BInv w0 B g2 g3 g6 gr g8 g9 g10 g11 (some ad) c0 l wo w4.drew T m (N ++ [(i : Int)])) at HI5
      clear hc11 ho0 ho1 ho2 HV4 HI4
      generalize w4.drew = w5 at *
      have e1 : ((i + 1 : Nat) : Int) = (i : Int) + 1 := by omega
      have hd1 : l.drop (i + 1) = os := by rw [← List.drop_drop, HD.out]; rfl
      have IH1 := ih (i + 1) (bits .or .i64 lots o.f1) (bits .or .i64 buyers (wrap64 (2 ^ o.f0.toNat))) (sum + o.f2) T m (N ++ [(i : Int)]) w5 hd1 (by simp at hi; omega) (by simp; omega) (by omega) (by omega) hm0 hm1 HI5.out
      rw [e1] at IH1
      have IH := bhid IH1
      clear IH1 e1 hd1
      have hbd := bGo_bd wo os ((i : Int) + 1) (bits .or .i64 lots o.f1) (bits .or .i64 buyers (wrap64 (2 ^ o.f0.toNat))) (sum + o.f2) (N ++ [(i : Int)]) (T, m) 100000000000 (fun x hx => HOS.out x (List.mem_cons_of_mem _ hx)) hm1 (by have := bSum_bd os (fun x hx => HOS.out x (List.mem_cons_of_mem _ hx)); simp at hi; omega)
      have hif := HK.out
      have EQ : Hid (bGo wo (o :: os) i lots buyers sum N (T, m) = bGo wo os (i + 1) lots buyers sum N (bGo wo os (i + 1) (bits .or .i64 lots o.f1) (bits .or .i64 buyers (wrap64 (2 ^ o.f0.toNat))) (sum + o.f2) (N ++ [(i : Int)]) (T, m))) := bhid (by
       rw [bGo, if_neg (by rw [HS.out]; show ¬ (sum + S ≤ m); omega), if_pos hif])
      clear hif HK
      generalize hG : bGo wo os ((i : Int) + 1) (bits .or .i64 lots o.f1) (bits .or .i64 buyers (wrap64 (2 ^ o.f0.toNat))) (sum + o.f2) (N ++ [(i : Int)]) (T, m) = G at *
      obtain ⟨T1, m1⟩ := G
      clear hG
      simp only at hbd
      obtain ⟨hb1, hb2⟩ := hbd
      go_wp2_with fail
      refine IH.out.mono ?_
      rintro e w6 ⟨rfl, hI6⟩
      obtain ⟨vt6, vn6, r8, r9, rt, rn, rd⟩ := hI6.rows
      have HI6 := bhid hI6
      have R8 := bhid r8
      have R9 := bhid r9
      obtain ⟨A6, c6, rfl⟩ := own_slice rn
      simp only [List.length_append, List.length_cons, List.length_nil, Nat.zero_add] at rn R9 rd
      have hc9 := bk_cell R9.out
      have hf9 := blk_frozen R9.out 0
      have hcap := own_cap rn
      have hcap2 : N.length ≤ c6 := by omega
      clear hI6 r8 r9 IH
      go_upto_region 8 with (fail)
      have hI7 := HI6.out.setNow (N' := N) (v1 := .slice A6 N.length c6) R8.out R9.out rt (by simpa using rn) rd (by have := own_take (k := N.length) rn (by omega); simpa using this) (World.grownBy.refl _ _) (Or.inl (by cases A6 <;> rfl))
      have HI7 := bhid hI7
      clear hI7 HI6 R8 R9 rt rn rd hc9 hf9
      generalize w6.setCell ⟨g9, 0, none⟩ (.slice A6 N.length c6) = w7 at *
      have hc11 := bk_cell HI7.out.b11
      have hd2 : l.drop (i + 1) = os := by rw [← List.drop_drop, HD.out]; rfl
      have e2 : ((i + 1 : Nat) : Int) = (i : Int) + 1 := by omega
      have IH2' := ih (i + 1) lots buyers sum T1 m1 N w7 hd2 (by simp at hi; omega) (by omega) hs0 (by omega) (by omega) (by omega) HI7.out
      rw [e2] at IH2'
      have IH2 := bhid IH2'
      clear IH2' e2 hd2
      go_wp2_with fail
      refine IH2.out.mono ?_
      rintro e w8 ⟨rfl, hI8⟩
      have HI8 := bhid hI8
      clear hI8 IH2
      go_wp2_with fail
      first
       | (go_end0; exact ⟨rfl, by rw [EQ.out]; exact HI8.out⟩)
       | (refine bodyPost_ret (results_none rfl _ _ _) rfl ⟨rfl, by rw [EQ.out]; exact HI8.out⟩)
     ·
      have hk3b : (bits .and .i64 buyers (wrap64 (2 ^ o.f0.toNat)) == 0) = false := beq_eq_false_iff_ne.mpr hk3
      have HK : Hid (¬ bOk wo lots buyers o) := bhid (fun h => hk3 h.2.2)
      clear hk1 hk2 hk3
      go_enter Try.func68, Try.ntmps68
      go_wp2_with fail
      go_quiet (fail)
      have HI1 := bhid (HI.out.drewN nq)
      replace hc2 : (w.drewN nq).cell? ⟨g2, 0, none⟩ = _ := hc2
      replace hc3 : (w.drewN nq).cell? ⟨g3, 0, none⟩ = _ := hc3
      replace hx0 : (w.drewN nq).cell? _ = _ := hx0
      replace hx1 : (w.drewN nq).cell? _ = _ := hx1
      replace hx2 : (w.drewN nq).cell? _ = _ := hx2
      generalize w.drewN nq = w1 at *
      clear HI HBR HC hci hc6 hc10
      go_upto_region 4 with (fail)
      have HI2 := bhid (HI1.out.grown (World.grownBy_alloc w1 (.cells #[.int .i64 o.f0, .int .i64 o.f1, .int .i64 o.f2] 50) none))
      have hz2 : w1.heap.size < (w1.alloc (.cells #[.int .i64 o.f0, .int .i64 o.f1, .int .i64 o.f2] 50)).heap.size := by simp
      have hb2 := blk_new w1 (.cells #[.int .i64 o.f0, .int .i64 o.f1, .int .i64 o.f2] 50)
      have hgv := HI1.out.size
      generalize w1.alloc (.cells #[.int .i64 o.f0, .int .i64 o.f1, .int .i64 o.f2] 50) = w2 at *
      generalize w1.heap.size = gv at *
      have HV2 := bhid hb2
      obtain ⟨ho0, ho1, ho2⟩ := bk_cell3 hb2
      obtain ⟨vt, vn, r8, r9, rt, rn, rd⟩ := HI2.out.rows
      have R8 := bhid r8
      have R9 := bhid r9
      have hc9 := bk_cell r9
      have hc3 := bk_cell HI2.out.b3
      clear hb2 r8 r9 hc2 hx0 hx1 hx2 HI1
      have EQ : Hid (bGo wo (o :: os) i lots buyers sum N (T, m) = bGo wo os (i + 1) lots buyers sum N (T, m)) := bhid (by
       rw [bGo, if_neg (by rw [HS.out]; show ¬ (sum + S ≤ m); omega), if_neg HK.out])
      clear HK
      go_upto_region 8 with (fail)
      have hc11 := bk_cell HI2.out.b11
      have hd2 : l.drop (i + 1) = os := by rw [← List.drop_drop, HD.out]; rfl
      have e2 : ((i + 1 : Nat) : Int) = (i : Int) + 1 := by omega
      have IH2' := ih (i + 1) lots buyers sum T m N w2 hd2 (by simp at hi; omega) (by omega) hs0 (by omega) (by omega) (by omega) HI2.out
      rw [e2] at IH2'
      have IH2 := bhid IH2'
      clear IH2' e2 hd2
      go_wp2_with fail
      refine IH2.out.mono ?_
      rintro e w8 ⟨rfl, hI8⟩
      have HI8 := bhid hI8
      clear hI8 IH2
      go_wp2_with fail
      first
       | (go_end0; exact ⟨rfl, by rw [EQ.out]; exact HI8.out⟩)
       | (refine bodyPost_ret (results_none rfl _ _ _) rfl ⟨rfl, by rw [EQ.out]; exact HI8.out⟩)
    ·
     have hk2b : (bits .and .i64 lots o.f1 == 0) = false := beq_eq_false_iff_ne.mpr hk2
     have HK : Hid (¬ bOk wo lots buyers o) := bhid (fun h => hk2 h.2.1)
     clear hk1 hk2
     (
      go_enter Try.func68, Try.ntmps68
      go_wp2_with fail
      go_quiet (fail)
      have HI1 := bhid (HI.out.drewN nq)
      replace hc2 : (w.drewN nq).cell? ⟨g2, 0, none⟩ = _ := hc2
      replace hc3 : (w.drewN nq).cell? ⟨g3, 0, none⟩ = _ := hc3
      replace hx0 : (w.drewN nq).cell? _ = _ := hx0
      replace hx1 : (w.drewN nq).cell? _ = _ := hx1
      replace hx2 : (w.drewN nq).cell? _ = _ := hx2
      generalize w.drewN nq = w1 at *
      clear HI HBR HC hci hc6 hc10
      go_upto_region 4 with (fail)
      have HI2 := bhid (HI1.out.grown (World.grownBy_alloc w1 (.cells #[.int .i64 o.f0, .int .i64 o.f1, .int .i64 o.f2] 50) none))
      have hz2 : w1.heap.size < (w1.alloc (.cells #[.int .i64 o.f0, .int .i64 o.f1, .int .i64 o.f2] 50)).heap.size := by simp
      have hb2 := blk_new w1 (.cells #[.int .i64 o.f0, .int .i64 o.f1, .int .i64 o.f2] 50)
      have hgv := HI1.out.size
      generalize w1.alloc (.cells #[.int .i64 o.f0, .int .i64 o.f1, .int .i64 o.f2] 50) = w2 at *
      generalize w1.heap.size = gv at *
      have HV2 := bhid hb2
      obtain ⟨ho0, ho1, ho2⟩ := bk_cell3 hb2
      obtain ⟨vt, vn, r8, r9, rt, rn, rd⟩ := HI2.out.rows
      have R8 := bhid r8
      have R9 := bhid r9
      have hc9 := bk_cell r9
      have hc3 := bk_cell HI2.out.b3
      clear hb2 r8 r9 hc2 hx0 hx1 hx2 HI1
      have EQ : Hid (bGo wo (o :: os) i lots buyers sum N (T, m) = bGo wo os (i + 1) lots buyers sum N (T, m)) := bhid (by
       rw [bGo, if_neg (by rw [HS.out]; show ¬ (sum + S ≤ m); omega), if_neg HK.out])
      clear HK
      go_upto_region 8 with (fail)
      have hc11 := bk_cell HI2.out.b11
      have hd2 : l.drop (i + 1) = os := by rw [← List.drop_drop, HD.out]; rfl
      have e2 : ((i + 1 : Nat) : Int) = (i : Int) + 1 := by omega
      have IH2' := ih (i + 1) lots buyers sum T m N w2 hd2 (by simp at hi; omega) (by omega) hs0 (by omega) (by omega) (by omega) HI2.out
      rw [e2] at IH2'
      have IH2 := bhid IH2'
      clear IH2' e2 hd2
      go_wp2_with fail
      refine IH2.out.mono ?_
      rintro e w8 ⟨rfl, hI8⟩
      have HI8 := bhid hI8
      clear hI8 IH2
      go_wp2_with fail
      first
       | (go_end0; exact ⟨rfl, by rw [EQ.out]; exact HI8.out⟩)
       | (refine bodyPost_ret (results_none rfl _ _ _) rfl ⟨rfl, by rw [EQ.out]; exact HI8.out⟩)
     )
def tender_best.f (l0 : List (S50)) (a1 : Int) : Option (List Int × Int) := if bValid l0 then some (bGo a1 l0 0 0 0 0 [] ([], -1)) else none
structure LInv (w : World) (A0 : Option Addr) (c0 : Nat) (l : List S50) (wo : Int) (wr : World) (k : Nat) : Prop where
 below : Below w.heap.size w wr
 size : w.heap.size + 4 ≤ wr.heap.size
 b2 : wr.heap[w.heap.size]? = some (.cells #[.slice A0 l.length c0] 22 (0, 0))
 b3 : wr.heap[w.heap.size + 1]? = some (.cells #[.int .i64 wo] 3 (0, 0))
 b6 : wr.heap[w.heap.size + 1 + 1 + 1]? = some (.cells #[.slice (some ⟨w.heap.size + 1 + 1, 0, none⟩) (l.length + 1) (l.length + 1)] 26 (0, 0))
 br : ∃ cs, wr.heap[w.heap.size + 1 + 1]? = some (.cells cs 3 (0, 0)) ∧ cs.size = l.length + 1 ∧ ∀ j, k ≤ j → j ≤ l.length → cs[j]? = some (.int .i64 (bSum (l.drop j)))
theorem LInv.drew {w : World} {A0 : Option Addr} {c0 : Nat} {l : List S50} {wo : Int} {wr : World} {k : Nat} (h : LInv w A0 c0 l wo wr k) : LInv w A0 c0 l wo wr.drew k := ⟨h.below.drew, h.size, h.b2, h.b3, h.b6, h.br⟩
theorem LInv.start (w : World) (A0 : Option Addr) (c0 : Nat) (l : List S50) (wo : Int) (cs : Array Value) (hs : cs.size = l.length + 1) (hc : cs[l.length]? = some (.int .i64 0)) :
  LInv w A0 c0 l wo ((((w.alloc (.cells #[.slice A0 l.length c0] 22)).alloc (.cells #[.int .i64 wo] 3)).alloc (.cells cs 3)).alloc (.cells #[.slice (some ⟨w.heap.size + 1 + 1, 0, none⟩) (l.length + 1) (l.length + 1)] 26)) l.length := by
 refine ⟨Zba (Zba (Zba (Zba (Below.refl _ _) _) _) _) _, by simp, ?_, ?_, ?_, cs, ?_, hs, ?_⟩
 ·
  exact Zka (Zka (Zka (blk_new _ _) _) _) _
 ·
  exact Zka (Zka (by have := blk_new (w.alloc (.cells #[.slice A0 l.length c0] 22)) (.cells #[.int .i64 wo] 3); simpa using this) _) _
 ·
  have := blk_new (((w.alloc (.cells #[.slice A0 l.length c0] 22)).alloc (.cells #[.int .i64 wo] 3)).alloc (.cells cs 3)) (.cells #[.slice (some ⟨w.heap.size + 1 + 1, 0, none⟩) (l.length + 1) (l.length + 1)] 26)
  simpa using this
 ·
  refine Zka ?_ _
  have := blk_new ((w.alloc (.cells #[.slice A0 l.length c0] 22)).alloc (.cells #[.int .i64 wo] 3)) (.cells cs 3)
  simpa using this
 ·
  intro j h1 h2
  obtain rfl : j = l.length := by omega
  rw [hc]; simp [bSum]
theorem LInv.put {w : World} {A0 : Option Addr} {c0 : Nat} {l : List S50} {wo : Int} {wr : World} {k : Nat} (h : LInv w A0 c0 l wo wr (k + 1)) (hk : k < l.length) {o : S50} (ho : l[k]? = some o) :
  LInv w A0 c0 l wo (wr.setCell ⟨w.heap.size + 1 + 1, k, none⟩ (.int .i64 (bSum (l.drop (k + 1)) + o.f2))) k := by
 obtain ⟨cs, hb, hs, hc⟩ := h.br
 refine ⟨h.below.setCell (by show _ ≤ w.heap.size + 1 + 1; omega) _, by have := h.size; simp [World.setCell]; omega, blk_far h.b2 (by show _ ≠ w.heap.size + 1 + 1; omega) _, blk_far h.b3 (by show _ ≠ w.heap.size + 1 + 1; omega) _, blk_far h.b6 (by show _ ≠ w.heap.size + 1 + 1; omega) _, cs.setIfInBounds k (.int .i64 (bSum (l.drop (k + 1)) + o.f2)), blk_put hb k _ rfl, by simp [hs], ?_⟩
 intro j h1 h2
 rw [Array.getElem?_setIfInBounds]
 by_cases e : k = j
 ·
  subst e
  rw [if_pos rfl, if_pos (by omega)]
  have hd : l.drop k = o :: l.drop (k + 1) := by
   rw [List.drop_eq_getElem_cons hk]
   rw [List.getElem?_eq_getElem hk] at ho
   injection ho with ho; rw [ho]
  rw [hd]; rfl
 ·
  rw [if_neg e]; exact hc j (by omega) h2
def searchFn (g2 g3 g6 g8 g9 g10 g11 : Nat) : Value := .func (.func 68) #[] #[.pointer (some ⟨g6, 0, none⟩), .pointer (some ⟨g10, 0, none⟩), .pointer (some ⟨g2, 0, none⟩), .pointer (some ⟨g9, 0, none⟩), .pointer (some ⟨g8, 0, none⟩), .pointer (some ⟨g3, 0, none⟩), .pointer (some ⟨g11, 0, none⟩)]
theorem BInv.start {w : World} {A0 : Option Addr} {c0 : Nat} {l : List S50} {wo : Int} {wr : World} (h : LInv w A0 c0 l wo wr 0) :
  BInv w (wr.heap.size + 1 + 1 + 1 + 1) w.heap.size (w.heap.size + 1) (w.heap.size + 1 + 1 + 1) (w.heap.size + 1 + 1) wr.heap.size (wr.heap.size + 1) (wr.heap.size + 1 + 1) (wr.heap.size + 1 + 1 + 1) A0 c0 l wo
   ((((wr.alloc (.cells #[.slice none 0 0] 26)).alloc (.cells #[.slice none 0 0] 26)).alloc (.cells #[.int .i64 (-1)] 3)).alloc (.cells #[searchFn w.heap.size (w.heap.size + 1) (w.heap.size + 1 + 1 + 1) wr.heap.size (wr.heap.size + 1) (wr.heap.size + 1 + 1) (wr.heap.size + 1 + 1 + 1)] 130)) [] (-1) [] := by
 obtain ⟨cs, hb, hs, hc⟩ := h.br
 have hz := h.size
 refine ⟨(((h.below.alloc (by omega) _).alloc (by simp; omega) _).alloc (by simp; omega) _).alloc (by simp; omega) _, Nat.le_refl _, by omega, by omega, by omega, by omega, by omega, by omega, by omega, by omega, by omega, by omega, by simp, ?_, ?_, ?_, ⟨cs, ?_, fun j hj => hc j (Nat.zero_le _) hj⟩, ?_, ?_, .slice none 0 0, .slice none 0 0, ?_, ?_, own_nil _ _ _ _, own_nil _ _ _ _, Or.inl rfl⟩
 ·
  exact Zka (Zka (Zka (Zka h.b2 _) _) _) _
 ·
  exact Zka (Zka (Zka (Zka h.b3 _) _) _) _
 ·
  exact Zka (Zka (Zka (Zka h.b6 _) _) _) _
 ·
  exact Zka (Zka (Zka (Zka hb _) _) _) _
 ·
  have := blk_new (((wr.alloc (.cells #[.slice none 0 0] 26)).alloc (.cells #[.slice none 0 0] 26)).alloc (.cells #[.int .i64 (-1)] 3)) (.cells #[searchFn w.heap.size (w.heap.size + 1) (w.heap.size + 1 + 1 + 1) wr.heap.size (wr.heap.size + 1) (wr.heap.size + 1 + 1) (wr.heap.size + 1 + 1 + 1)] 130)
  have e : (((wr.alloc (.cells #[.slice none 0 0] 26)).alloc (.cells #[.slice none 0 0] 26)).alloc (.cells #[.int .i64 (-1)] 3)).heap.size = wr.heap.size + 1 + 1 + 1 := by simp
  rw [e] at this
  exact this
 ·
  refine Zka ?_ _
  have := blk_new ((wr.alloc (.cells #[.slice none 0 0] 26)).alloc (.cells #[.slice none 0 0] 26)) (.cells #[.int .i64 (-1)] 3)
  simpa using this
 ·
  exact Zka (Zka (Zka (blk_new _ _) _) _) _
 ·
  refine Zka (Zka ?_ _) _
  have := blk_new (wr.alloc (.cells #[.slice none 0 0] 26)) (.cells #[.slice none 0 0] 26)
  simpa using this
set_option maxHeartbeats 1600000 in
set_option maxRecDepth 100000 in
theorem tender_best.calls (A0 : Option Addr) (c0 : Nat) (l0 : List (S50)) (a1 : Int) (r1 : List Int) (r2 : Int) (w : World) (hr0 : Kd.C k50 w A0 l0.length l0) (hc0 : l0.length ≤ c0) (h : tender_best.f l0 a1 = some (r1, r2)) :
  Calls Try.prog 50 #[.slice A0 l0.length c0, .int .i64 a1] w fun e w' => ∃ v0_ : Value, e = .returned (.tuple #[v0_, .int .i64 r2]) ∧ Kd.R (Kd.int .i64) 3 w' w.heap.size (fun _ => True) v0_ r1 ∧ Below w.heap.size w w' := by
 unfold tender_best.f at h
 split at h
 ·
  rename_i hv
  injection h with h
  have HR := bhid h
  have HC := bhid hc0
  have HX := bhid hr0
  have HV := bhid hv
  have hlen := hv.1
  clear h hc0 hr0 hv
  have hmf : ∀ (fn : Fn) (first cap : Array Value) (w : World), (Instr.makeFunc fn first cap).run Try.prog w = .ok (.func fn first cap) w := fun _ _ _ _ => rfl
  have hmk := print_make (P := Try.prog) 26 3 .i64 8 Try.underlying26 info3 (by decide) (l0.length + 1) (by omega)
  rw [show ((l0.length + 1 : Nat) : Int) = (l0.length : Int) + 1 from by omega] at hmk
  go_enter Try.func50, Try.ntmps50
  go_upto_region 3 with (fail)
  have hms : (madeCells #[.int .i64 0] (l0.length + 1)).size = l0.length + 1 := size_madeCells _ _
  have hmc : (madeCells #[.int .i64 0] (l0.length + 1))[l0.length]? = some (.int .i64 0) := by rw [← Array.getElem?_toList, toList_madeCells_one, List.getElem?_replicate]; simp
  have hst := LInv.start w A0 c0 l0 a1 _ hms hmc
  have HST := bhid hst
  clear hst hms hmc
  generalize (((w.alloc (Obj.cells #[Value.slice A0 l0.length c0] 22)).alloc (Obj.cells #[Value.int IntKind.i64 a1] 3)).alloc (Obj.cells (madeCells #[Value.int IntKind.i64 0] (l0.length + 1)) 3)).alloc (Obj.cells #[Value.slice (some { block := w.heap.size + 1 + 1, off := 0 }) (l0.length + 1) (l0.length + 1)] 26) = w1 at *
  go_loopw [7] (fun v wr => ∃ k : Nat, k ≤ l0.length ∧ v = .int .i64 ((k : Int) - 1) ∧ Hid (LInv w A0 c0 l0 a1 wr k)) (fun v _ => (intOf v + 1).toNat)
  case atStart => exact ⟨l0.length, Nat.le_refl _, rfl, HST⟩
  case round =>
   obtain ⟨k, hk, rfl, HI⟩ := hrel
   clear HST
   by_cases h0 : 1 ≤ k
   ·
    obtain ⟨k, rfl⟩ : ∃ m, k = m + 1 := ⟨k - 1, by omega⟩
    obtain ⟨cs, hbr, hsz, hcs⟩ := HI.out.br
    have hc6 := bk_cell HI.out.b6
    have hc2 := bk_cell HI.out.b2
    have hck : wr.cell? ⟨w.heap.size + 1 + 1, k + 1, none⟩ = some (.int .i64 (bSum (l0.drop (k + 1)))) := by rw [blk_cell hbr, hcs (k + 1) (by omega) (by omega)]
    obtain ⟨ad, e0, hx0, hx1, hx2⟩ := at_T50 (Kd.C_below HX.out HI.out.below) (k : Int) (by omega) (by omega)
    cases e0
    have hoo : l0[k]? = some (rd_T50 l0 (k : Int)) := by simp [rd_T50, List.getElem?_eq_getElem (show k < l0.length by omega)]
    have ho := HV.out.2 _ (List.mem_of_getElem? hoo)
    have hPT := HI.out.put (by omega) hoo
    generalize rd_T50 l0 (k : Int) = o at *
    have HO := bhid hoo
    have HP := bhid hPT
    have hb1 := bSum_bd (l0.drop (k + 1)) (fun x hx => by have := HV.out.2 x (List.mem_of_mem_drop hx); omega)
    have hlk : (l0.drop (k + 1)).length ≤ 16 := by simp; omega
    simp only [Int.toNat_natCast] at hx0 hx1 hx2
    have e1 : ((k + 1 : Nat) : Int) - 1 = (k : Int) := by omega
    rw [e1]
    have hks : k < cs.size := by omega
    have hex : wr.cell? ⟨w.heap.size + 1 + 1, k, none⟩ = some cs[k] := by rw [blk_cell hbr]; exact Array.getElem?_eq_getElem hks
    have hfk := blk_frozen hbr k
    have HB1 := bhid hb1
    have hbl : 0 ≤ bSum (l0.drop (k + 1)) := hb1.1
    have hbh : bSum (l0.drop (k + 1)) ≤ 16 * 1073741824 := by omega
    clear hoo hPT hbr hcs hx0 hx1 hsz hb1 hlk
    generalize hQ : bSum (l0.drop (k + 1)) = Q at *
    have HQ := bhid hQ
    clear hQ
    have hi1 : (0 : Int) ≤ (k : Int) + 1 := by omega
    have hi2 : (k : Int) + 1 < (l0.length : Int) + 1 := by omega
    have hi3 : (0 : Int) ≤ (k : Int) := by omega
    have hi4 : (k : Int) < (l0.length : Int) := by omega
    have hi5 : (k : Int) < (l0.length : Int) + 1 := by omega
    have hw1 : IntKind.i64.wrap ((k : Int) + 1) = (k : Int) + 1 := IntWalk.i64_in _ (by omega)
    have hw2 : IntKind.i64.wrap (Q + o.f2) = Q + o.f2 := IntWalk.i64_in _ (by omega)
    have hw3 : ((k : Int) + 1).toNat = k + 1 := by omega
    go_upto_region 5 with (fail)
    go_still_tail 14, (by kernel_rfl)
    change wpList _ _ _ _ _ wr.drew
    have HP2 : Hid (LInv w (some ad) c0 l0 a1 ((wr.setCell ⟨w.heap.size + 1 + 1, k, none⟩ (.int .i64 (Q + o.f2))).drew) k) := bhid HP.out.drew
    clear hw1 hw2 hw3
    go_wp2_with fail
    go_roundw
    case rel => exact ⟨k, by omega, rfl, HP2⟩
    case measure => simp [intOf]
   ·
    obtain rfl : k = 0 := by omega
    have hbi := best1_calls w _ _ _ _ _ _ _ _ _ A0 c0 l0 a1 HX.out HV.out l0 0 0 0 0 [] (-1) [] _ rfl (by simp) (by simp) (by omega) (by omega) (by omega) (by omega) (BInv.start HI.out)
    rw [show ((0 : Nat) : Int) = 0 from rfl] at hbi
    have HBI := bhid hbi
    clear hbi
    go_wp2_with fail
    refine HBI.out.mono ?_
    rintro e w2 ⟨rfl, hB2⟩
    have hr := HR.out
    rw [hr] at hB2
    obtain ⟨vt, vn, r8, r9, rt, rn, rd⟩ := hB2.rows
    have hc8 := bk_cell r8
    have hc10 := bk_cell hB2.b10
    have hlo : w.heap.size ≤ wr.heap.size + 1 + 1 + 1 + 1 := by have := HI.out.size; omega
    have RT := bhid rt
    have HB2 := bhid hB2.below
    clear hB2 r8 r9 rn rd rt HBI hr
    go_wp2_with fail
    go_quiet (fail)
    go_wp2_with fail
    go_ret2
    exact ⟨vt, rfl, Kd.R_of_own (own_weaken RT.out hlo) (fun _ _ => trivial), Zbn HB2.out _⟩
 ·
  simp at h
end Go.Proofs.Ythfdjccdelbeeaa.PT
end
