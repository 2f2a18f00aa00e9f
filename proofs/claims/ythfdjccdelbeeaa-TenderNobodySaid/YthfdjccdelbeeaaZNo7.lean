/-
  The texts that the theorem in YthfdjccdelbeeaaZRowNo rests on, merged (part 8); only what it reaches.
-/
import Derived.Test.YthfdjccdelbeeaaZNo2
import Derived.Test.YthfdjccdelbeeaaZNo3
import Derived.Test.YthfdjccdelbeeaaZNo5
import Derived.Test.YthfdjccdelbeeaaZNo6
section
namespace Go.Proofs.Ythfdjccdelbeeaa.PT
open Go.RowKit Go.Proofs.YthfdjccdelbeeaaW.PrintWords Go.Proofs.YthfdjccdelbeeaaW.PrintLast Go.Proofs.YthfdjccdelbeeaaW.PrintMore
attribute [local go_sem] max2_int min2_int max_two min_two max_three min_three max_four min_four   -- for this text's walks alone
set_option linter.unusedVariables false
set_option linter.unusedSimpArgs false
def kimberlitelaw05_award.f (k : Nat) (l0_0 : List Int) (l0_1 : List Int) (a0_2 : Int) (l1_0 : List Int) (l1_1 : List Int) (a1_2 : Int) : Option (Bool) := (kimberlitelaw05_same.f k l0_0 l1_0).bind fun t242 => (if t242 = true then ((kimberlitelaw05_same.f k l0_1 l1_1).bind fun t243 => (if t243 = true then (some (a0_2 == a1_2)) else (some false))) else (some false))
theorem kimberlitelaw05_award.mono : ∀ a0 a1 a2 a3 a4 a5 k, LeO (kimberlitelaw05_award.f k a0 a1 a2 a3 a4 a5) (kimberlitelaw05_award.f (k + 1) a0 a1 a2 a3 a4 a5) := by
  intro a0 a1 a2 a3 a4 a5 k
  unfold kimberlitelaw05_award.f
  repeat' first
      | (with_reducible exact kimberlitelaw05_same.mono _ _ _)
      | (with_reducible exact LeO.refl _)
      | (with_reducible exact LeO.none _)
      | (with_reducible refine LeO.ite ?_ ?_)
      | (with_reducible refine LeO.bind ?_ (fun _ => ?_))
      | exact kimberlitelaw05_same.mono _ _ _
      | exact LeO.none _
      | refine LeO.ite ?_ ?_
      | refine LeO.bind ?_ (fun _ => ?_)
set_option maxHeartbeats 8000000 in
set_option maxRecDepth 100000 in
theorem kimberlitelaw05_award.calls (k : Nat) (A0_0 : Option Addr) (c0_0 : Nat) (l0_0 : List Int) (A0_1 : Option Addr) (c0_1 : Nat) (l0_1 : List Int) (a0_2 : Int) (A1_0 : Option Addr) (c1_0 : Nat) (l1_0 : List Int) (A1_1 : Option Addr) (c1_1 : Nat) (l1_1 : List Int) (a1_2 : Int) (r : Bool) (w : World) (hr0_0 : Kd.C (Kd.int .i64) w A0_0 l0_0.length l0_0) (hc0_0 : l0_0.length ≤ c0_0) (hr0_1 : Kd.C (Kd.int .i64) w A0_1 l0_1.length l0_1) (hc0_1 : l0_1.length ≤ c0_1) (hr1_0 : Kd.C (Kd.int .i64) w A1_0 l1_0.length l1_0) (hc1_0 : l1_0.length ≤ c1_0) (hr1_1 : Kd.C (Kd.int .i64) w A1_1 l1_1.length l1_1) (hc1_1 : l1_1.length ≤ c1_1) (h : kimberlitelaw05_award.f k l0_0 l0_1 a0_2 l1_0 l1_1 a1_2 = some r) :
    Calls Try.prog 27 #[.agg #[.slice A0_0 l0_0.length c0_0, .slice A0_1 l0_1.length c0_1, .int .i64 a0_2], .agg #[.slice A1_0 l1_0.length c1_0, .slice A1_1 l1_1.length c1_1, .int .i64 a1_2]] w fun e w' => e = .returned (.bool r) ∧ Below w.heap.size w w' := by
  have hu44 := Try.underlying44
  have HR0_0 := Aside0.mk hr0_0
  have HC0_0 := Aside0.mk hc0_0
  clear hr0_0 hc0_0
  have HR0_1 := Aside0.mk hr0_1
  have HC0_1 := Aside0.mk hc0_1
  clear hr0_1 hc0_1
  have HR1_0 := Aside0.mk hr1_0
  have HC1_0 := Aside0.mk hc1_0
  clear hr1_0 hc1_0
  have HR1_1 := Aside0.mk hr1_1
  have HC1_1 := Aside0.mk hc1_1
  clear hr1_1 hc1_1
  have HB := Aside0.mk (Below.refl w.heap.size w)
  have H : ((kimberlitelaw05_same.f k l0_0 l1_0).bind fun t242 => (if t242 = true then ((kimberlitelaw05_same.f k l0_1 l1_1).bind fun t243 => (if t243 = true then (some (a0_2 == a1_2)) else (some false))) else (some false))) = some r := h
  clear h
  replace H := Option.bind_eq_some_iff.mp H
  obtain ⟨t242, A30, H⟩ := H
  replace H : (if t242 = true then ((kimberlitelaw05_same.f k l0_1 l1_1).bind fun t243 => (if t243 = true then (some (a0_2 == a1_2)) else (some false))) else (some false)) = some r := H
  have A3 := Aside0.mk A30
  clear A30
  by_cases c4 : t242 = true
  · subst c4
    have H1 : ((kimberlitelaw05_same.f k l0_1 l1_1).bind fun t243 => (if t243 = true then (some (a0_2 == a1_2)) else (some false))) = some r := by rw [if_pos rfl] at H; exact H
    clear H
    have H := H1
    clear H1
    replace H := Option.bind_eq_some_iff.mp H
    obtain ⟨t243, A50, H⟩ := H
    replace H : (if t243 = true then (some (a0_2 == a1_2)) else (some false)) = some r := H
    have A5 := Aside0.mk A50
    clear A50
    by_cases c6 : t243 = true
    · subst c6
      have H1 : (some (a0_2 == a1_2)) = some r := by rw [if_pos rfl] at H; exact H
      clear H
      have H := H1
      clear H1
      obtain rfl := Option.some.inj H
      go_enter Try.func27, Try.ntmps27
      go_wp2_with (first | ((with_reducible refine gate_dst (N := 2) rfl ?_); refine box_event ?hg (N := 2) ?hd (cs := #[.slice A0_0 l0_0.length c0_0, .slice A0_1 l0_1.length c0_1, .int .i64 a0_2]) (t := 44) ?hr ?_; (case hd => rfl); (case hg => rfl); (case hr => first | (go_simp; done) | (go_simp; rfl)); intro gb240 hg w7 hbox hb; have n0_ := Aside0.mk (below_step (by repeat (first | (with_reducible first | exact HB.out | apply below_alloc | apply pw_below_drewN | apply below_drew1) | exact HB.out)) hb); have n1_ := Aside0.mk (hbox); have n2_ := Aside0.mk ((by rw [hg]; exact (below_size (by repeat (first | (with_reducible first | exact HB.out | apply below_alloc | apply pw_below_drewN | apply below_drew1) | exact HB.out))) : w.heap.size ≤ gb240)); have n3_ := Aside0.mk ((by rw [hg]; exact (below_size (by repeat (first | (with_reducible first | exact HB.out | apply below_alloc | apply pw_below_drewN | apply below_drew1) | exact HB.out))) : w.heap.size ≤ gb240)); clear HB; have HB := n0_; have BK240 := n1_; have GW240 := n2_; have GE240 := n3_; clear n0_ n1_ n2_ n3_; clear hb hbox hg) | ((with_reducible refine gate_dst (N := 3) rfl ?_); refine box_event ?hg (N := 3) ?hd (cs := #[.slice A1_0 l1_0.length c1_0, .slice A1_1 l1_1.length c1_1, .int .i64 a1_2]) (t := 44) ?hr ?_; (case hd => rfl); (case hg => rfl); (case hr => first | (go_simp; done) | (go_simp; rfl)); intro gb241 hg w8 hbox hb; have n0_ := Aside0.mk (blk_below (g := gb240) (o := .cells #[.slice A0_0 l0_0.length c0_0, .slice A0_1 l0_1.length c0_1, .int .i64 a0_2] 44 (0, 0)) (by (with_reducible repeat (first | refine blk_drewN ?_ _ | refine blk_drew ?_ | refine blk_alloc ?_ _)); exact BK240.out) hb); have n1_ := Aside0.mk (below_step (by repeat (first | (with_reducible first | exact HB.out | apply below_alloc | apply pw_below_drewN | apply below_drew1 | refine below_set ?_ GE240.out) | exact HB.out)) hb); have n2_ := Aside0.mk (hbox); have n3_ := Aside0.mk ((by rw [hg]; exact (below_size (by repeat (first | (with_reducible first | exact HB.out | apply below_alloc | apply pw_below_drewN | apply below_drew1 | refine below_set ?_ GE240.out) | exact HB.out))) : w.heap.size ≤ gb241)); have n4_ := Aside0.mk ((by rw [hg]; exact (below_size (by repeat (first | (with_reducible first | exact HB.out | apply below_alloc | apply pw_below_drewN | apply below_drew1 | refine below_set ?_ GE240.out) | exact HB.out))) : w.heap.size ≤ gb241)); have n5_ := Aside0.mk ((by rw [hg]; exact Nat.ne_of_lt (blk_lt (g := gb240) (o := .cells #[.slice A0_0 l0_0.length c0_0, .slice A0_1 l0_1.length c0_1, .int .i64 a0_2] 44 (0, 0)) (by (with_reducible repeat (first | refine blk_drewN ?_ _ | refine blk_drew ?_ | refine blk_alloc ?_ _)); exact BK240.out)) : gb240 ≠ gb241)); have n6_ := Aside0.mk ((by rw [hg]; exact Nat.ne_of_gt (blk_lt (g := gb240) (o := .cells #[.slice A0_0 l0_0.length c0_0, .slice A0_1 l0_1.length c0_1, .int .i64 a0_2] 44 (0, 0)) (by (with_reducible repeat (first | refine blk_drewN ?_ _ | refine blk_drew ?_ | refine blk_alloc ?_ _)); exact BK240.out)) : gb241 ≠ gb240)); clear BK240; clear HB; have BK240 := n0_; have HB := n1_; have BK241 := n2_; have GW241 := n3_; have GE241 := n4_; have NB240_241 := n5_; have NB241_240 := n6_; clear n0_ n1_ n2_ n3_ n4_ n5_ n6_; clear hb hbox hg; have hnb9 := NB240_241.out; have hnc9 := NB241_240.out; have hcz10_0 : w8.cell? ⟨gb240, 0, none⟩ = some (.slice A0_0 l0_0.length c0_0) := (blk_cell BK240.out 0).trans rfl; have hcz10_1 : w8.cell? ⟨gb240, 1, none⟩ = some (.slice A0_1 l0_1.length c0_1) := (blk_cell BK240.out 1).trans rfl; have hcz10_2 : w8.cell? ⟨gb240, 2, none⟩ = some (.int .i64 a0_2) := (blk_cell BK240.out 2).trans rfl; have hfz10_0 := blk_frozen BK240.out 0; have hfz10_1 := blk_frozen BK240.out 1; have hfz10_2 := blk_frozen BK240.out 2; have hcz11_0 : w8.cell? ⟨gb241, 0, none⟩ = some (.slice A1_0 l1_0.length c1_0) := (blk_cell BK241.out 0).trans rfl; have hcz11_1 : w8.cell? ⟨gb241, 1, none⟩ = some (.slice A1_1 l1_1.length c1_1) := (blk_cell BK241.out 1).trans rfl; have hcz11_2 : w8.cell? ⟨gb241, 2, none⟩ = some (.int .i64 a1_2) := (blk_cell BK241.out 2).trans rfl; have hfz11_0 := blk_frozen BK241.out 0; have hfz11_1 := blk_frozen BK241.out 1; have hfz11_2 := blk_frozen BK241.out 2) | ((with_reducible refine gate_callee (f := 22) rfl ?_); refine goesL_ (some 9) rfl rfl Try.func22 (by kernel_rfl) rfl #[.slice A0_0 l0_0.length c0_0, .slice A1_0 l1_0.length c1_0] rfl (by (try simp only [List.map_toArray, List.map_cons, List.map_nil]); first | done | rfl | (simp only [List.length_drop, List.length_take]; rfl)) ?_; (with_reducible refine (kimberlitelaw05_same.calls k _ _ l0_0 _ _ l1_0 true _ ?side1 ?side2 ?side3 ?side4 A3.out).mono ?_); (case side1 => repeat (first | exact (Kd.C_below HR0_0.out HB.out) | (with_reducible refine Kd.C_alloc ?_ _) | (with_reducible refine Kd.C_drewN ?_ _) | (with_reducible refine Kd.C_drew ?_))); (case side2 => exact HC0_0.out); (case side3 => repeat (first | exact (Kd.C_below HR1_0.out HB.out) | (with_reducible refine Kd.C_alloc ?_ _) | (with_reducible refine Kd.C_drewN ?_ _) | (with_reducible refine Kd.C_drew ?_))); (case side4 => exact HC1_0.out); rintro e w' ⟨rfl, ⟨nd, rfl⟩⟩; refine ⟨_, rfl, ?_⟩) | (go_at_call 22; (with_reducible refine (kimberlitelaw05_same.calls k _ _ l0_1 _ _ l1_1 true _ ?side1 ?side2 ?side3 ?side4 A5.out).mono ?_); (case side1 => repeat (first | exact (Kd.C_below HR0_1.out (by repeat (first | (with_reducible first | exact HB.out | apply below_alloc | apply pw_below_drewN | apply below_drew1 | refine below_set ?_ GE240.out | refine below_set ?_ GE241.out) | exact HB.out))) | (with_reducible refine Kd.C_alloc ?_ _) | (with_reducible refine Kd.C_drewN ?_ _) | (with_reducible refine Kd.C_drew ?_))); (case side2 => exact HC0_1.out); (case side3 => repeat (first | exact (Kd.C_below HR1_1.out (by repeat (first | (with_reducible first | exact HB.out | apply below_alloc | apply pw_below_drewN | apply below_drew1 | refine below_set ?_ GE240.out | refine below_set ?_ GE241.out) | exact HB.out))) | (with_reducible refine Kd.C_alloc ?_ _) | (with_reducible refine Kd.C_drewN ?_ _) | (with_reducible refine Kd.C_drew ?_))); (case side4 => exact HC1_1.out); rintro e w' ⟨rfl, ⟨nd, rfl⟩⟩))
      go_ret
      exact ⟨by first | rfl | (simp [errW_none, errW_some] <;> rfl) | (simp [*, errW_none, errW_some] <;> rfl), by repeat (first | (with_reducible first | exact HB.out | apply below_alloc | apply pw_below_drewN | apply below_drew1 | refine below_set ?_ GE240.out | refine below_set ?_ GE241.out) | exact HB.out)⟩
    · replace c6 := Bool.eq_false_iff.mpr c6
      subst c6
      have H1 : (some false) = some r := by rw [if_neg (show ¬ (false = true) by decide)] at H; exact H
      clear H
      have H := H1
      clear H1
      obtain rfl := Option.some.inj H
      go_enter Try.func27, Try.ntmps27
      go_wp2_with (first | ((with_reducible refine gate_dst (N := 2) rfl ?_); refine box_event ?hg (N := 2) ?hd (cs := #[.slice A0_0 l0_0.length c0_0, .slice A0_1 l0_1.length c0_1, .int .i64 a0_2]) (t := 44) ?hr ?_; (case hd => rfl); (case hg => rfl); (case hr => first | (go_simp; done) | (go_simp; rfl)); intro gb240 hg w12 hbox hb; have n0_ := Aside0.mk (below_step (by repeat (first | (with_reducible first | exact HB.out | apply below_alloc | apply pw_below_drewN | apply below_drew1) | exact HB.out)) hb); have n1_ := Aside0.mk (hbox); have n2_ := Aside0.mk ((by rw [hg]; exact (below_size (by repeat (first | (with_reducible first | exact HB.out | apply below_alloc | apply pw_below_drewN | apply below_drew1) | exact HB.out))) : w.heap.size ≤ gb240)); have n3_ := Aside0.mk ((by rw [hg]; exact (below_size (by repeat (first | (with_reducible first | exact HB.out | apply below_alloc | apply pw_below_drewN | apply below_drew1) | exact HB.out))) : w.heap.size ≤ gb240)); clear HB; have HB := n0_; have BK240 := n1_; have GW240 := n2_; have GE240 := n3_; clear n0_ n1_ n2_ n3_; clear hb hbox hg) | ((with_reducible refine gate_dst (N := 3) rfl ?_); refine box_event ?hg (N := 3) ?hd (cs := #[.slice A1_0 l1_0.length c1_0, .slice A1_1 l1_1.length c1_1, .int .i64 a1_2]) (t := 44) ?hr ?_; (case hd => rfl); (case hg => rfl); (case hr => first | (go_simp; done) | (go_simp; rfl)); intro gb241 hg w13 hbox hb; have n0_ := Aside0.mk (blk_below (g := gb240) (o := .cells #[.slice A0_0 l0_0.length c0_0, .slice A0_1 l0_1.length c0_1, .int .i64 a0_2] 44 (0, 0)) (by (with_reducible repeat (first | refine blk_drewN ?_ _ | refine blk_drew ?_ | refine blk_alloc ?_ _)); exact BK240.out) hb); have n1_ := Aside0.mk (below_step (by repeat (first | (with_reducible first | exact HB.out | apply below_alloc | apply pw_below_drewN | apply below_drew1 | refine below_set ?_ GE240.out) | exact HB.out)) hb); have n2_ := Aside0.mk (hbox); have n3_ := Aside0.mk ((by rw [hg]; exact (below_size (by repeat (first | (with_reducible first | exact HB.out | apply below_alloc | apply pw_below_drewN | apply below_drew1 | refine below_set ?_ GE240.out) | exact HB.out))) : w.heap.size ≤ gb241)); have n4_ := Aside0.mk ((by rw [hg]; exact (below_size (by repeat (first | (with_reducible first | exact HB.out | apply below_alloc | apply pw_below_drewN | apply below_drew1 | refine below_set ?_ GE240.out) | exact HB.out))) : w.heap.size ≤ gb241)); have n5_ := Aside0.mk ((by rw [hg]; exact Nat.ne_of_lt (blk_lt (g := gb240) (o := .cells #[.slice A0_0 l0_0.length c0_0, .slice A0_1 l0_1.length c0_1, .int .i64 a0_2] 44 (0, 0)) (by (with_reducible repeat (first | refine blk_drewN ?_ _ | refine blk_drew ?_ | refine blk_alloc ?_ _)); exact BK240.out)) : gb240 ≠ gb241)); have n6_ := Aside0.mk ((by rw [hg]; exact Nat.ne_of_gt (blk_lt (g := gb240) (o := .cells #[.slice A0_0 l0_0.length c0_0, .slice A0_1 l0_1.length c0_1, .int .i64 a0_2] 44 (0, 0)) (by (with_reducible repeat (first | refine blk_drewN ?_ _ | refine blk_drew ?_ | refine blk_alloc ?_ _)); exact BK240.out)) : gb241 ≠ gb240)); clear BK240; clear HB; have BK240 := n0_; have HB := n1_; have BK241 := n2_; have GW241 := n3_; have GE241 := n4_; have NB240_241 := n5_; have NB241_240 := n6_; clear n0_ n1_ n2_ n3_ n4_ n5_ n6_; clear hb hbox hg; have hnb14 := NB240_241.out; have hnc14 := NB241_240.out; have hcz15_0 : w13.cell? ⟨gb240, 0, none⟩ = some (.slice A0_0 l0_0.length c0_0) := (blk_cell BK240.out 0).trans rfl; have hcz15_1 : w13.cell? ⟨gb240, 1, none⟩ = some (.slice A0_1 l0_1.length c0_1) := (blk_cell BK240.out 1).trans rfl; have hcz15_2 : w13.cell? ⟨gb240, 2, none⟩ = some (.int .i64 a0_2) := (blk_cell BK240.out 2).trans rfl; have hfz15_0 := blk_frozen BK240.out 0; have hfz15_1 := blk_frozen BK240.out 1; have hfz15_2 := blk_frozen BK240.out 2; have hcz16_0 : w13.cell? ⟨gb241, 0, none⟩ = some (.slice A1_0 l1_0.length c1_0) := (blk_cell BK241.out 0).trans rfl; have hcz16_1 : w13.cell? ⟨gb241, 1, none⟩ = some (.slice A1_1 l1_1.length c1_1) := (blk_cell BK241.out 1).trans rfl; have hcz16_2 : w13.cell? ⟨gb241, 2, none⟩ = some (.int .i64 a1_2) := (blk_cell BK241.out 2).trans rfl; have hfz16_0 := blk_frozen BK241.out 0; have hfz16_1 := blk_frozen BK241.out 1; have hfz16_2 := blk_frozen BK241.out 2) | ((with_reducible refine gate_callee (f := 22) rfl ?_); refine goesL_ (some 9) rfl rfl Try.func22 (by kernel_rfl) rfl #[.slice A0_0 l0_0.length c0_0, .slice A1_0 l1_0.length c1_0] rfl (by (try simp only [List.map_toArray, List.map_cons, List.map_nil]); first | done | rfl | (simp only [List.length_drop, List.length_take]; rfl)) ?_; (with_reducible refine (kimberlitelaw05_same.calls k _ _ l0_0 _ _ l1_0 true _ ?side1 ?side2 ?side3 ?side4 A3.out).mono ?_); (case side1 => repeat (first | exact (Kd.C_below HR0_0.out HB.out) | (with_reducible refine Kd.C_alloc ?_ _) | (with_reducible refine Kd.C_drewN ?_ _) | (with_reducible refine Kd.C_drew ?_))); (case side2 => exact HC0_0.out); (case side3 => repeat (first | exact (Kd.C_below HR1_0.out HB.out) | (with_reducible refine Kd.C_alloc ?_ _) | (with_reducible refine Kd.C_drewN ?_ _) | (with_reducible refine Kd.C_drew ?_))); (case side4 => exact HC1_0.out); rintro e w' ⟨rfl, ⟨nd, rfl⟩⟩; refine ⟨_, rfl, ?_⟩) | (go_at_call 22; (with_reducible refine (kimberlitelaw05_same.calls k _ _ l0_1 _ _ l1_1 false _ ?side1 ?side2 ?side3 ?side4 A5.out).mono ?_); (case side1 => repeat (first | exact (Kd.C_below HR0_1.out (by repeat (first | (with_reducible first | exact HB.out | apply below_alloc | apply pw_below_drewN | apply below_drew1 | refine below_set ?_ GE240.out | refine below_set ?_ GE241.out) | exact HB.out))) | (with_reducible refine Kd.C_alloc ?_ _) | (with_reducible refine Kd.C_drewN ?_ _) | (with_reducible refine Kd.C_drew ?_))); (case side2 => exact HC0_1.out); (case side3 => repeat (first | exact (Kd.C_below HR1_1.out (by repeat (first | (with_reducible first | exact HB.out | apply below_alloc | apply pw_below_drewN | apply below_drew1 | refine below_set ?_ GE240.out | refine below_set ?_ GE241.out) | exact HB.out))) | (with_reducible refine Kd.C_alloc ?_ _) | (with_reducible refine Kd.C_drewN ?_ _) | (with_reducible refine Kd.C_drew ?_))); (case side4 => exact HC1_1.out); rintro e w' ⟨rfl, ⟨nd, rfl⟩⟩))
      go_ret
      exact ⟨by first | rfl | (simp [errW_none, errW_some] <;> rfl) | (simp [*, errW_none, errW_some] <;> rfl), by repeat (first | (with_reducible first | exact HB.out | apply below_alloc | apply pw_below_drewN | apply below_drew1 | refine below_set ?_ GE240.out | refine below_set ?_ GE241.out) | exact HB.out)⟩
  · replace c4 := Bool.eq_false_iff.mpr c4
    subst c4
    have H1 : (some false) = some r := by rw [if_neg (show ¬ (false = true) by decide)] at H; exact H
    clear H
    have H := H1
    clear H1
    obtain rfl := Option.some.inj H
    go_enter Try.func27, Try.ntmps27
    go_wp2_with (first | ((with_reducible refine gate_dst (N := 2) rfl ?_); refine box_event ?hg (N := 2) ?hd (cs := #[.slice A0_0 l0_0.length c0_0, .slice A0_1 l0_1.length c0_1, .int .i64 a0_2]) (t := 44) ?hr ?_; (case hd => rfl); (case hg => rfl); (case hr => first | (go_simp; done) | (go_simp; rfl)); intro gb240 hg w17 hbox hb; have n0_ := Aside0.mk (below_step (by repeat (first | (with_reducible first | exact HB.out | apply below_alloc | apply pw_below_drewN | apply below_drew1) | exact HB.out)) hb); have n1_ := Aside0.mk (hbox); have n2_ := Aside0.mk ((by rw [hg]; exact (below_size (by repeat (first | (with_reducible first | exact HB.out | apply below_alloc | apply pw_below_drewN | apply below_drew1) | exact HB.out))) : w.heap.size ≤ gb240)); have n3_ := Aside0.mk ((by rw [hg]; exact (below_size (by repeat (first | (with_reducible first | exact HB.out | apply below_alloc | apply pw_below_drewN | apply below_drew1) | exact HB.out))) : w.heap.size ≤ gb240)); clear HB; have HB := n0_; have BK240 := n1_; have GW240 := n2_; have GE240 := n3_; clear n0_ n1_ n2_ n3_; clear hb hbox hg) | ((with_reducible refine gate_dst (N := 3) rfl ?_); refine box_event ?hg (N := 3) ?hd (cs := #[.slice A1_0 l1_0.length c1_0, .slice A1_1 l1_1.length c1_1, .int .i64 a1_2]) (t := 44) ?hr ?_; (case hd => rfl); (case hg => rfl); (case hr => first | (go_simp; done) | (go_simp; rfl)); intro gb241 hg w18 hbox hb; have n0_ := Aside0.mk (blk_below (g := gb240) (o := .cells #[.slice A0_0 l0_0.length c0_0, .slice A0_1 l0_1.length c0_1, .int .i64 a0_2] 44 (0, 0)) (by (with_reducible repeat (first | refine blk_drewN ?_ _ | refine blk_drew ?_ | refine blk_alloc ?_ _)); exact BK240.out) hb); have n1_ := Aside0.mk (below_step (by repeat (first | (with_reducible first | exact HB.out | apply below_alloc | apply pw_below_drewN | apply below_drew1 | refine below_set ?_ GE240.out) | exact HB.out)) hb); have n2_ := Aside0.mk (hbox); have n3_ := Aside0.mk ((by rw [hg]; exact (below_size (by repeat (first | (with_reducible first | exact HB.out | apply below_alloc | apply pw_below_drewN | apply below_drew1 | refine below_set ?_ GE240.out) | exact HB.out))) : w.heap.size ≤ gb241)); have n4_ := Aside0.mk ((by rw [hg]; exact (below_size (by repeat (first | (with_reducible first | exact HB.out | apply below_alloc | apply pw_below_drewN | apply below_drew1 | refine below_set ?_ GE240.out) | exact HB.out))) : w.heap.size ≤ gb241)); have n5_ := Aside0.mk ((by rw [hg]; exact Nat.ne_of_lt (blk_lt (g := gb240) (o := .cells #[.slice A0_0 l0_0.length c0_0, .slice A0_1 l0_1.length c0_1, .int .i64 a0_2] 44 (0, 0)) (by (with_reducible repeat (first | refine blk_drewN ?_ _ | refine blk_drew ?_ | refine blk_alloc ?_ _)); exact BK240.out)) : gb240 ≠ gb241)); have n6_ := Aside0.mk ((by rw [hg]; exact Nat.ne_of_gt (blk_lt (g := gb240) (o := .cells #[.slice A0_0 l0_0.length c0_0, .slice A0_1 l0_1.length c0_1, .int .i64 a0_2] 44 (0, 0)) (by (with_reducible repeat (first | refine blk_drewN ?_ _ | refine blk_drew ?_ | refine blk_alloc ?_ _)); exact BK240.out)) : gb241 ≠ gb240)); clear BK240; clear HB; have BK240 := n0_; have HB := n1_; have BK241 := n2_; have GW241 := n3_; have GE241 := n4_; have NB240_241 := n5_; have NB241_240 := n6_; clear n0_ n1_ n2_ n3_ n4_ n5_ n6_; clear hb hbox hg; have hnb19 := NB240_241.out; have hnc19 := NB241_240.out; have hcz20_0 : w18.cell? ⟨gb240, 0, none⟩ = some (.slice A0_0 l0_0.length c0_0) := (blk_cell BK240.out 0).trans rfl; have hcz20_1 : w18.cell? ⟨gb240, 1, none⟩ = some (.slice A0_1 l0_1.length c0_1) := (blk_cell BK240.out 1).trans rfl; have hcz20_2 : w18.cell? ⟨gb240, 2, none⟩ = some (.int .i64 a0_2) := (blk_cell BK240.out 2).trans rfl; have hfz20_0 := blk_frozen BK240.out 0; have hfz20_1 := blk_frozen BK240.out 1; have hfz20_2 := blk_frozen BK240.out 2; have hcz21_0 : w18.cell? ⟨gb241, 0, none⟩ = some (.slice A1_0 l1_0.length c1_0) := (blk_cell BK241.out 0).trans rfl; have hcz21_1 : w18.cell? ⟨gb241, 1, none⟩ = some (.slice A1_1 l1_1.length c1_1) := (blk_cell BK241.out 1).trans rfl; have hcz21_2 : w18.cell? ⟨gb241, 2, none⟩ = some (.int .i64 a1_2) := (blk_cell BK241.out 2).trans rfl; have hfz21_0 := blk_frozen BK241.out 0; have hfz21_1 := blk_frozen BK241.out 1; have hfz21_2 := blk_frozen BK241.out 2) | ((with_reducible refine gate_callee (f := 22) rfl ?_); refine goesL_ (some 9) rfl rfl Try.func22 (by kernel_rfl) rfl #[.slice A0_0 l0_0.length c0_0, .slice A1_0 l1_0.length c1_0] rfl (by (try simp only [List.map_toArray, List.map_cons, List.map_nil]); first | done | rfl | (simp only [List.length_drop, List.length_take]; rfl)) ?_; (with_reducible refine (kimberlitelaw05_same.calls k _ _ l0_0 _ _ l1_0 false _ ?side1 ?side2 ?side3 ?side4 A3.out).mono ?_); (case side1 => repeat (first | exact (Kd.C_below HR0_0.out HB.out) | (with_reducible refine Kd.C_alloc ?_ _) | (with_reducible refine Kd.C_drewN ?_ _) | (with_reducible refine Kd.C_drew ?_))); (case side2 => exact HC0_0.out); (case side3 => repeat (first | exact (Kd.C_below HR1_0.out HB.out) | (with_reducible refine Kd.C_alloc ?_ _) | (with_reducible refine Kd.C_drewN ?_ _) | (with_reducible refine Kd.C_drew ?_))); (case side4 => exact HC1_0.out); rintro e w' ⟨rfl, ⟨nd, rfl⟩⟩; refine ⟨_, rfl, ?_⟩))
    go_ret
    exact ⟨by first | rfl | (simp [errW_none, errW_some] <;> rfl) | (simp [*, errW_none, errW_some] <;> rfl), by repeat (first | (with_reducible first | exact HB.out | apply below_alloc | apply pw_below_drewN | apply below_drew1 | refine below_set ?_ GE240.out | refine below_set ?_ GE241.out) | exact HB.out)⟩
def kimberlitelaw05_without.l0 : Nat → List (S50) → Int → List (S50) → Int → Option ((List (S50)))
  | 0, _, _, _, _ => none
  | k + 1, x0, x1, x5, x6 => if x6 < (x0.length : Int) then (if 0 ≤ x6 then (if ((rd_T50 x0 x6).f0) = x1 then (kimberlitelaw05_without.l0 k x0 x1 x5 (wrap64 (x6 + 1))) else (if x5.length < 5864062014805 then (kimberlitelaw05_without.l0 k x0 x1 (x5 ++ [(⟨(rd_T50 x0 x6).f0, (rd_T50 x0 x6).f1, (rd_T50 x0 x6).f2⟩ : S50)]) (wrap64 (x6 + 1))) else (none))) else (none)) else (some x5)
def kimberlitelaw05_without.f (k : Nat) (l0 : List (S50)) (a1 : Int) : Option ((List (S50))) := kimberlitelaw05_without.l0 k l0 a1 ([] : List (S50)) 0
theorem kimberlitelaw05_without.mono_l : ∀ k, (∀ y0 y1 y2 y3, LeO (kimberlitelaw05_without.l0 k y0 y1 y2 y3) (kimberlitelaw05_without.l0 (k + 1) y0 y1 y2 y3))
  | 0 => fun _ _ _ _ r h => by simp [kimberlitelaw05_without.l0] at h
  | k + 1 => by
    have ih0 := kimberlitelaw05_without.mono_l k
    · intro y0 y1 y2 y3
      unfold kimberlitelaw05_without.l0
      repeat' first
      | (with_reducible exact ih0 _ _ _ _)
      | (with_reducible exact LeO.refl _)
      | (with_reducible exact LeO.none _)
      | (with_reducible refine LeO.ite ?_ ?_)
      | (with_reducible refine LeO.bind ?_ (fun _ => ?_))
      | exact ih0 _ _ _ _
      | exact LeO.none _
      | refine LeO.ite ?_ ?_
      | refine LeO.bind ?_ (fun _ => ?_)
theorem kimberlitelaw05_without.mono : ∀ a0 a1 k, LeO (kimberlitelaw05_without.f k a0 a1) (kimberlitelaw05_without.f (k + 1) a0 a1) := by
  intro a0 a1 k
  have ih0 := kimberlitelaw05_without.mono_l k
  unfold kimberlitelaw05_without.f
  repeat' first
      | (with_reducible exact ih0 _ _ _ _)
      | (with_reducible exact LeO.refl _)
      | (with_reducible exact LeO.none _)
      | (with_reducible refine LeO.ite ?_ ?_)
      | (with_reducible refine LeO.bind ?_ (fun _ => ?_))
      | exact ih0 _ _ _ _
      | exact LeO.none _
      | refine LeO.ite ?_ ?_
      | refine LeO.bind ?_ (fun _ => ?_)
set_option maxHeartbeats 8000000 in
set_option maxRecDepth 100000 in
theorem kimberlitelaw05_without.calls (k : Nat) (A0 : Option Addr) (c0 : Nat) (l0 : List (S50)) (a1 : Int) (r : List (S50)) (w : World) (hr0 : Kd.C k50 w A0 l0.length l0) (hc0 : l0.length ≤ c0) (h : kimberlitelaw05_without.f k l0 a1 = some r) :
    Calls Try.prog 28 #[.slice A0 l0.length c0, .int .i64 a1] w fun e w' => ∃ v0_ : Value, e = .returned (v0_) ∧ Kd.R k50 50 w' w.heap.size (fun _ => True) v0_ r ∧ Below w.heap.size w w' := by
  have hu50 := Try.underlying50
  have HR0 := Aside0.mk hr0
  have HC0 := Aside0.mk hc0
  clear hr0 hc0
  have HB := Aside0.mk (Below.refl w.heap.size w)
  have H : (kimberlitelaw05_without.l0 k l0 a1 ([] : List (S50)) 0) = some r := h
  clear h
  have H' := Aside0.mk H
  clear H
  go_enter Try.func28, Try.ntmps28
  go_wp2
  go_loopg [5, 6] k (fun kq v5 v6 w' => ∃ (x5_1 : List (S50)) (x6_1 : Int), v6 = .int .i64 x6_1 ∧ Aside0 (kimberlitelaw05_without.l0 kq l0 a1 x5_1 x6_1 = some r) ∧ Aside0 (kq ≤ k) ∧ Aside0 (Kd.R k50 50 w' w.heap.size (fun _ => True) v5 x5_1) ∧ Aside0 (Below w.heap.size w w'))
  case atStart => exact ⟨(([] : List (S50))), (0), (by first | rfl | (simp; done) | (simp [*]; done)), H', ⟨Nat.le_refl _⟩, ⟨by first | exact Kd.R_nil _ _ _ _ _ | exact Kd.N_nil _ _ _ _ _ | exact Kd.V_nil _ _ _ _ _ | exact Kd.Q_nil _ _ _ _ _ | exact Kd.S_nil _ _ _ _ _⟩, ⟨by repeat (first | (with_reducible first | exact HB.out | apply below_alloc | apply pw_below_drewN | apply below_drew1) | exact HB.out)⟩⟩
  case round =>
    clear H'
    try clear c2
    try clear p2
    obtain ⟨x5_1, x6_1, rfl, HA, HK1, HO_5, HB⟩ := hrel
    cases gk with
    | zero => exact absurd HA.out (by simp [kimberlitelaw05_without.l0])
    | succ k1 =>
      have H := HA.out
      clear HA
      simp only [kimberlitelaw05_without.l0] at H
      by_cases c3 : x6_1 < (l0.length : Int)
      · rw [if_pos c3] at H
        have c3b0 : decide (x6_1 < (l0.length : Int)) = true := decide_eq_true c3
        clear c3
        by_cases c4 : 0 ≤ x6_1
        · rw [if_pos c4] at H
          have c4b0 : decide (0 ≤ x6_1) = true := decide_eq_true c4
          clear c4
          by_cases c5 : ((rd_T50 l0 x6_1).f0) = a1
          · rw [if_pos c5] at H
            have c5b0 : (((rd_T50 l0 x6_1).f0) == a1) = true := beq_iff_eq.mpr c5
            have c5b1 : (((rd_T50 l0 x6_1).f0) != a1) = false := bne_eq_false_iff_eq.mpr c5
            clear c5
            have H' := Aside0.mk H
            clear H
            have p244 : 0 ≤ (x6_1 : Int) := of_decide_eq_true (by first | (with_reducible assumption) | assumption)
            have q244 : x6_1 < (l0.length : Int) := of_decide_eq_true (by first | (with_reducible assumption) | assumption)
            obtain ⟨ad244, e244, hx244_0, hx244_1, hx244_2⟩ := at_T50 HR0.out x6_1 p244 q244
            cases e244
            replace hx244_0 := (HB.out.cell (World.block_lt_of_cell? w _ hx244_0)).trans hx244_0
            replace hx244_1 := (HB.out.cell (World.block_lt_of_cell? w _ hx244_1)).trans hx244_1
            replace hx244_2 := (HB.out.cell (World.block_lt_of_cell? w _ hx244_2)).trans hx244_2
            replace p244 := eq_true p244
            replace q244 := eq_true q244
            go_wp2
            go_roundg k1
            case measure => have := HK1.out; omega
            case rel => exact ⟨(x5_1), (wrap64 (x6_1 + 1)), (by first | rfl | (simp; done) | (simp [*]; done)), H', ⟨by have := HK1.out; omega⟩, ⟨by (with_reducible repeat (first | apply Kd.R_alloc | apply Kd.R_drewN | apply Kd.R_drew)); exact HO_5.out⟩, ⟨by repeat (first | (with_reducible first | exact HB.out | apply below_alloc | apply pw_below_drewN | apply below_drew1) | exact HB.out)⟩⟩
          · rw [if_neg c5] at H
            have c5b0 : (((rd_T50 l0 x6_1).f0) == a1) = false := beq_eq_false_iff_ne.mpr c5
            have c5b1 : (((rd_T50 l0 x6_1).f0) != a1) = true := bne_iff_ne.mpr c5
            by_cases c6 : x5_1.length < 5864062014805
            · rw [if_pos c6] at H
              have LMc6 := Aside0.mk c6
              clear c6
              obtain ⟨y246, hy246⟩ : ∃ y_ : List (S50), y_ = (x5_1 ++ [(⟨(rd_T50 l0 x6_1).f0, (rd_T50 l0 x6_1).f1, (rd_T50 l0 x6_1).f2⟩ : S50)]) := ⟨_, rfl⟩
              replace H : (kimberlitelaw05_without.l0 k1 l0 a1 y246 (wrap64 (x6_1 + 1))) = some r := by first | (rw [hy246]; with_reducible exact H) | (have H2_ := (Option.bind_some _ _).symm.trans H; rw [hy246]; with_reducible exact H2_) | (have H2_ := (Option.bind_some _ _).symm.trans H; with_reducible exact H2_) | with_reducible exact H | (rw [hy246]; exact H) | exact H
              have Ny246 := Aside0.mk hy246
              clear hy246
              have H' := Aside0.mk H
              clear H
              have p244 : 0 ≤ (x6_1 : Int) := of_decide_eq_true (by first | (with_reducible assumption) | assumption)
              have q244 : x6_1 < (l0.length : Int) := of_decide_eq_true (by first | (with_reducible assumption) | assumption)
              obtain ⟨ad244, e244, hx244_0, hx244_1, hx244_2⟩ := at_T50 HR0.out x6_1 p244 q244
              cases e244
              replace hx244_0 := (HB.out.cell (World.block_lt_of_cell? w _ hx244_0)).trans hx244_0
              replace hx244_1 := (HB.out.cell (World.block_lt_of_cell? w _ hx244_1)).trans hx244_1
              replace hx244_2 := (HB.out.cell (World.block_lt_of_cell? w _ hx244_2)).trans hx244_2
              replace p244 := eq_true p244
              replace q244 := eq_true q244
              have p245 : 0 ≤ (x6_1 : Int) := of_decide_eq_true (by first | (with_reducible assumption) | assumption)
              have q245 : x6_1 < (l0.length : Int) := of_decide_eq_true (by first | (with_reducible assumption) | assumption)
              obtain ⟨ad245, e245, hx245_0, hx245_1, hx245_2⟩ := at_T50 HR0.out x6_1 p245 q245
              obtain rfl : ad244 = ad245 := (by injection e245)
              replace hx245_0 := (HB.out.cell (World.block_lt_of_cell? w _ hx245_0)).trans hx245_0
              replace hx245_1 := (HB.out.cell (World.block_lt_of_cell? w _ hx245_1)).trans hx245_1
              replace hx245_2 := (HB.out.cell (World.block_lt_of_cell? w _ hx245_2)).trans hx245_2
              replace p245 := eq_true p245
              replace q245 := eq_true q245
              go_wp2_with (first | ((with_reducible refine gate_builtin (b := .append) (xs := #[.tmp 20, .tmp 25]) rfl ?_); at_builtin; refine Kd.R_append k50 (w0 := w) w.heap.size rfl (.tmp 20) (.tmp 25) 22 50 (.agg #[(.int .i64 0), (.int .i64 0), (.int .i64 0)]) 24 rfl Try.underlying22 info50 rfl (by decide) (by omega) u5 x5_1 (⟨(rd_T50 l0 x6_1).f0, (rd_T50 l0 x6_1).f1, (rd_T50 l0 x6_1).f2⟩ : S50) [.int .i64 ((rd_T50 l0 x6_1).f0), .int .i64 ((rd_T50 l0 x6_1).f1), .int .i64 ((rd_T50 l0 x6_1).f2)] (fun _ => True) (fun _ => False) rfl rfl ?aP (fun _ hk => hk.elim) ?aF ?aO ?aB ?aS ?aL ?_; (case aP => exact k50_mkM _ _ _ (⟨(rd_T50 l0 x6_1).f0, (rd_T50 l0 x6_1).f1, (rd_T50 l0 x6_1).f2⟩ : S50)); (case aB => exact (by repeat (first | (with_reducible first | exact HB.out | apply below_alloc | apply pw_below_drewN | apply below_drew1) | exact HB.out))); (case aF => exact (fun _ _ => trivial)); (case aO => exact (by (with_reducible repeat (first | apply Kd.R_alloc | apply Kd.R_drewN | apply Kd.R_drew)); exact HO_5.out)); (case aS => exact (below_size (by repeat (first | (with_reducible first | exact HB.out | apply below_alloc | apply pw_below_drewN | apply below_drew1) | exact HB.out)))); (case aL => have := LMc6.out; omega); intro v247 w7 ho hb hg hat; rw [← Ny246.out] at ho; have n0_ := Aside0.mk (hb); have n1_ := Aside0.mk (ho); clear HB; clear HO_5; have HB := n0_; have HO248 := n1_; clear n0_ n1_; clear ho hb hg hat))
              go_roundg k1
              case measure => have := HK1.out; omega
              case rel => exact ⟨(y246), (wrap64 (x6_1 + 1)), (by first | rfl | (simp; done) | (simp [*]; done)), H', ⟨by have := HK1.out; omega⟩, ⟨by (with_reducible repeat (first | apply Kd.R_alloc | apply Kd.R_drewN | apply Kd.R_drew)); exact HO248.out⟩, ⟨by repeat (first | (with_reducible first | exact HB.out | apply below_alloc | apply pw_below_drewN | apply below_drew1) | exact HB.out)⟩⟩
            · rw [if_neg c6] at H
              exact absurd H (by simp)
        · rw [if_neg c4] at H
          exact absurd H (by simp)
      · rw [if_neg c3] at H
        have c3b0 : decide (x6_1 < (l0.length : Int)) = false := decide_eq_false c3
        clear c3
        obtain rfl := Option.some.inj H
        go_wp2
        go_ret
        exact ⟨_, by first | rfl | (simp [errW_none, errW_some] <;> rfl) | (simp [*, errW_none, errW_some] <;> rfl), by (with_reducible repeat (first | apply Kd.R_alloc | apply Kd.R_drewN | apply Kd.R_drew)); exact HO_5.out, by repeat (first | (with_reducible first | exact HB.out | apply below_alloc | apply pw_below_drewN | apply below_drew1) | exact HB.out)⟩
end Go.Proofs.Ythfdjccdelbeeaa.PT
end
section
namespace Go.Proofs.Ythfdjccdelbeeaa.PT
open Go.RowKit Go.Proofs.YthfdjccdelbeeaaW.PrintWords Go.Proofs.YthfdjccdelbeeaaW.PrintLast Go.Proofs.YthfdjccdelbeeaaW.PrintMore Go.Proofs.Ythfdjccdelbeeaa.TPl
set_option linter.unusedVariables false
theorem ev_same_l (a b : List Int) (hab : a.length = b.length) (hb : a.length < 1000000) : ∀ (d i : Nat), i + d = a.length → Ev (fun k => kimberlitelaw05_same.l0 k a b (i : Int)) (a.drop i == b.drop i)
  | 0, i, h => Ev.here fun k => by
      simp only [kimberlitelaw05_same.l0]
      rw [if_neg (by omega), List.drop_of_length_le (by omega), List.drop_of_length_le (by omega)]; rfl
  | d + 1, i, h => by
      have hi : i < a.length := by omega
      have hi' : i < b.length := by omega
      have ih := ev_same_l a b hab hb d (i + 1) (by omega)
      have hst : ∀ k, kimberlitelaw05_same.l0 (k + 1) a b (i : Int) = if a[i] = b[i] then kimberlitelaw05_same.l0 k a b ((i + 1 : Nat) : Int) else some false := fun k => by
        simp only [kimberlitelaw05_same.l0]
        rw [if_pos (by omega), if_pos (by omega), if_pos (by omega), w64 i (by omega)]
        simp [rd, hi, hi']
      have hc : (a.drop i == b.drop i) = (a[i] == b[i] && a.drop (i + 1) == b.drop (i + 1)) := by rw [List.drop_eq_getElem_cons hi, List.drop_eq_getElem_cons hi']; rfl
      rw [hc]
      by_cases c : a[i] = b[i]
      · refine Ev.step (fun k => by rw [hst k, if_pos c]) ?_
        rw [c, beq_self_eq_true, Bool.true_and]; exact ih
      · rw [beq_eq_false_iff_ne.2 c, Bool.false_and]
        exact Ev.here fun k => by rw [hst k, if_neg c]
theorem ev_same (a b : List Int) (h : a.length < 1000000) : Ev (fun k => kimberlitelaw05_same.f k a b) (a == b) := by
  by_cases hl : a.length = b.length
  · have := ev_same_l a b hl h a.length 0 (by omega)
    simp only [List.drop_zero] at this
    exact Ev.congr (fun k => by simp only [kimberlitelaw05_same.f]; rw [if_pos (by omega)]; rfl) this
  · have : (a == b) = false := by rw [beq_eq_false_iff_ne]; intro e; exact hl (by rw [e])
    rw [this]
    exact ⟨0, fun k _ => by simp only [kimberlitelaw05_same.f]; rw [if_neg (by omega)]⟩
theorem ev_award (a b : List Int) (x : Int) (a' b' : List Int) (x' : Int) (h : a.length < 1000000) (h' : b.length < 1000000) : Ev (fun k => kimberlitelaw05_award.f k a b x a' b' x') (a == a' && (b == b' && x == x')) := by
  unfold kimberlitelaw05_award.f
  refine Ev.bind (ev_same a a' h) ?_
  cases h1 : (a == a') with
  | false => simpa using Ev.now false
  | true =>
    simp only [if_true, Bool.true_and]
    refine Ev.bind (ev_same b b' h') ?_
    cases h2 : (b == b') with
    | false => simpa using Ev.now false
    | true => simpa using Ev.now (x == x')
end Go.Proofs.Ythfdjccdelbeeaa.PT
end
section
namespace Go.Proofs.Ythfdjccdelbeeaa.PT
open Go.RowKit Go.Proofs.YthfdjccdelbeeaaW.PrintWords Go.Proofs.YthfdjccdelbeeaaW.PrintLast Go.Proofs.YthfdjccdelbeeaaW.PrintMore Go.Proofs.Ythfdjccdelbeeaa.Opn
set_option linter.unusedVariables false
set_option linter.unusedSimpArgs false
theorem award_nil (w : World) : Calls Try.prog 27 #[.agg #[.slice none 0 0, .slice none 0 0, .int .i64 0], .agg #[.slice none 0 0, .slice none 0 0, .int .i64 0]] w fun e w' => e = .returned (.bool true) ∧ Below w.heap.size w w' := by
  obtain ⟨k, hk⟩ := ev_award [] [] 0 [] [] 0 (by decide) (by decide)
  exact kimberlitelaw05_award.calls k none 0 [] none 0 [] 0 none 0 [] none 0 [] 0 true w (Kd.C_nil _ _) (Nat.le_refl _) (Kd.C_nil _ _) (Nat.le_refl _) (Kd.C_nil _ _) (Nat.le_refl _) (Kd.C_nil _ _) (Nat.le_refl _) (hk k (Nat.le_refl _))
def ZT : Obj := .cells (tcs 0 0 (List.replicate 8 hd0)) 85
theorem zt_tn {w : World} {g : Nat} (h : w.heap[g]? = some ZT) : TN 0 (fun _ => False) w g 0 0 (List.replicate 8 hd0) := ⟨h, rfl, fun x hx => by
  obtain rfl := List.eq_of_mem_replicate hx
  exact Kd.R_nil _ _ _ _ _, fun q => q⟩
theorem zt_few : Few (List.replicate 8 hd0) := fun x hx => by
  obtain rfl := List.eq_of_mem_replicate hx
  decide
theorem chg_zt {w' : World} {g : Nat} {H : List Hd} (h : TN 0 (fun _ => False) w' g 0 0 H) (hH : H = List.replicate 8 hd0) : w'.heap[g]? = some ZT := by rw [hH] at h; exact h.blk
set_option maxHeartbeats 12800000 in
set_option maxRecDepth 100000 in
theorem kimberlitelaw05_TenderNobody.calls (k : Nat) (a0_0 : Int) (a0_1 : Int) (A0_2 : Option Addr) (c0_2 : Nat) (l0_2 : List (S50)) (a0_3 : Int) (a0_4 : Bool) (a1 : Bool) (w : World) (hr0_2 : Kd.C k50 w A0_2 l0_2.length l0_2) (hc0_2 : l0_2.length ≤ c0_2) (h : kimberlitelaw05_TenderNobody.ok a0_0 a0_1 l0_2 a0_3 a0_4 a1) : Calls Try.prog 12 #[.agg #[.int .u8 a0_0, .int .i64 a0_1, .slice A0_2 l0_2.length c0_2, .int .u64 a0_3, .bool a0_4], .bool a1] w fun e w' => e = .returned (.bool true) ∧ Below w.heap.size w w' := by
  have hu85 := Try.underlying85
  have hu80 := Try.underlying80
  have hu44 := Try.underlying44
  have hu50 := Try.underlying50
  have HS0 := lhid (show 0 ≤ a0_3 ∧ a0_3 < 18446744073709551616 from wf_u64 h.1.2.2.2.1)
  have HC0 := lhid hr0_2
  have HC00 := lhid hr0_2
  clear hr0_2 h
  go_enter Try.func12, Try.ntmps12
  have HB_1 := lhid (Below.refl w.heap.size w)
  go_upto_region 2 with (fail)
  have hb := below_alloc (Below.refl w.heap.size w) (.cells #[.int .u8 a0_0, .int .i64 a0_1, .slice A0_2 l0_2.length c0_2, .int .u64 a0_3, .bool a0_4] 80)
  have hn := blk_new w (.cells #[.int .u8 a0_0, .int .i64 a0_1, .slice A0_2 l0_2.length c0_2, .int .u64 a0_3, .bool a0_4] 80)
  have HZ1 := lhid (show (World.alloc w (.cells #[.int .u8 a0_0, .int .i64 a0_1, .slice A0_2 l0_2.length c0_2, .int .u64 a0_3, .bool a0_4] 80)).heap.size = w.heap.size + 1 from by simp)
  generalize hq : World.alloc w (.cells #[.int .u8 a0_0, .int .i64 a0_1, .slice A0_2 l0_2.length c0_2, .int .u64 a0_3, .bool a0_4] 80) = w1 at hb hn HZ1 ⊢
  clear hq
  have HB_2 := lhid (below_then HB_1.out HB_1.out.size hb)
  have OC_3 := lhid (Kd.C_below HC0.out hb)
  clear HB_1 HC0 hb
  have XB_4 := lhid (hn)
  clear hn
  obtain ⟨xb, hxb⟩ : ∃ q, q = w.heap.size := ⟨_, rfl⟩
  rw [← hxb] at XB_4 ⊢
  have HXB := lhid hxb
  clear hxb
  cases a1
  · go_upto_region 4 with (fail)
    have hclose := Close_nil w1
    go_wp2_with fail
    with_reducible refine hclose.mono ?_
    rintro e w20 ⟨rfl, hb⟩
    clear hclose
    have HB_5 := lhid (below_then HB_2.out HB_2.out.size hb)
    have OC_6 := lhid (Kd.C_below OC_3.out hb)
    have XB_7 := lhid (blk_below XB_4.out hb)
    clear HB_2 OC_3 XB_4 hb
    go_upto_region 5 with (fail)
    have hb := below_alloc (Below.refl w20.heap.size w20) (.cells #[.slice none 0 0, .slice none 0 0, .int .i64 0] 44)
    have hn := blk_new w20 (.cells #[.slice none 0 0, .slice none 0 0, .int .i64 0] 44)
    have HZ21 := lhid (show (World.alloc w20 (.cells #[.slice none 0 0, .slice none 0 0, .int .i64 0] 44)).heap.size = w20.heap.size + 1 from by simp)
    generalize hq : World.alloc w20 (.cells #[.slice none 0 0, .slice none 0 0, .int .i64 0] 44) = w21 at hb hn HZ21 ⊢
    clear hq
    have HB_8 := lhid (below_then HB_5.out HB_5.out.size hb)
    have OC_9 := lhid (Kd.C_below OC_6.out hb)
    have XB_10 := lhid (blk_below XB_7.out hb)
    clear HB_5 OC_6 XB_7 hb
    have AZ_11 := lhid (hn)
    clear hn
    obtain ⟨az, haz⟩ : ∃ q, q = w20.heap.size := ⟨_, rfl⟩
    rw [← haz] at AZ_11 ⊢
    clear haz
    obtain ⟨z0, z1, z2⟩ := three AZ_11.out
    go_wp2_with fail
    with_reducible refine (award_nil w21).mono ?_
    rintro e w30 ⟨rfl, hb⟩
    clear z0 z1 z2
    have HB_12 := lhid (below_then HB_8.out HB_8.out.size hb)
    have OC_13 := lhid (Kd.C_below OC_9.out hb)
    have XB_14 := lhid (blk_below XB_10.out hb)
    have AZ_15 := lhid (blk_below AZ_11.out hb)
    clear HB_8 OC_9 XB_10 AZ_11 hb
    have y0 := blk_cell XB_14.out 0
    have y1 := blk_cell XB_14.out 1
    have y2 := blk_cell XB_14.out 2
    have y3 := blk_cell XB_14.out 3
    have y4 := blk_cell XB_14.out 4
    simp only [List.getElem?_toArray, List.getElem?_cons_succ, List.getElem?_cons_zero] at y0 y1 y2 y3 y4
    have hq := Submit_nil w30 a0_1 a0_3
    go_wp2_with fail
    try any_goals (exfalso; omega)
    with_reducible refine hq.mono ?_
    rintro e w' ⟨rfl, rfl⟩
    clear hq
    clear y0 y1 y2 y3 y4
    have y0 := blk_cell XB_14.out 0
    have y1 := blk_cell XB_14.out 1
    have y2 := blk_cell XB_14.out 2
    have y3 := blk_cell XB_14.out 3
    have y4 := blk_cell XB_14.out 4
    simp only [List.getElem?_toArray, List.getElem?_cons_succ, List.getElem?_cons_zero] at y0 y1 y2 y3 y4
    have hq := Shut_nil w30
    go_wp2_with fail
    try any_goals (exfalso; omega)
    with_reducible refine hq.mono ?_
    rintro e w' ⟨rfl, rfl⟩
    clear hq
    have hq := Show_nil w30 a0_1 (.slice A0_2 l0_2.length c0_2) a0_3
    go_wp2_with fail
    try any_goals (exfalso; omega)
    with_reducible refine hq.mono ?_
    rintro e w331 ⟨rfl, hb⟩
    clear hq
    clear y0 y1 y2 y3 y4
    have HB_16 := lhid (below_then HB_12.out HB_12.out.size hb)
    have OC_17 := lhid (Kd.C_below OC_13.out hb)
    have XB_18 := lhid (blk_below XB_14.out hb)
    have AZ_19 := lhid (blk_below AZ_15.out hb)
    clear HB_12 OC_13 XB_14 AZ_15 hb
    have hq := State_nil w331
    go_wp2_with fail
    try any_goals (exfalso; omega)
    with_reducible refine hq.mono ?_
    rintro e w' ⟨rfl, rfl⟩
    clear hq
    have hq := Missing_nil w331
    go_wp2_with fail
    try any_goals (exfalso; omega)
    with_reducible refine hq.mono ?_
    rintro e w' ⟨rfl, rfl⟩
    clear hq
    have hq := Copy_nil w331
    go_wp2_with fail
    try any_goals (exfalso; omega)
    with_reducible refine hq.mono ?_
    rintro e w' ⟨rfl, rfl⟩
    clear hq
    go_wp2_with fail
    with_reducible refine (alive_calls w331).mono ?_
    rintro e w900 ⟨rfl, hb⟩
    have HB_20 := lhid (below_then HB_16.out HB_16.out.size hb)
    have OC_21 := lhid (Kd.C_below OC_17.out hb)
    have XB_22 := lhid (blk_below XB_18.out hb)
    have AZ_23 := lhid (blk_below AZ_19.out hb)
    clear HB_16 OC_17 XB_18 AZ_19 hb
    go_wp2_with fail
    go_ret
    exact ⟨rfl, HB_20.out⟩
  · go_upto_region 4 with (fail)
    have hb := below_alloc (Below.refl w1.heap.size w1) (.cells #[.int .i64 0, .int .i64 0, .bool false, .bool false, .int .u64 0, .slice none 0 0, .bool false, .bool false, .int .u64 0, .slice none 0 0, .bool false, .bool false, .int .u64 0, .slice none 0 0, .bool false, .bool false, .int .u64 0, .slice none 0 0, .bool false, .bool false, .int .u64 0, .slice none 0 0, .bool false, .bool false, .int .u64 0, .slice none 0 0, .bool false, .bool false, .int .u64 0, .slice none 0 0, .bool false, .bool false, .int .u64 0, .slice none 0 0] 85)
    have hn := blk_new w1 (.cells #[.int .i64 0, .int .i64 0, .bool false, .bool false, .int .u64 0, .slice none 0 0, .bool false, .bool false, .int .u64 0, .slice none 0 0, .bool false, .bool false, .int .u64 0, .slice none 0 0, .bool false, .bool false, .int .u64 0, .slice none 0 0, .bool false, .bool false, .int .u64 0, .slice none 0 0, .bool false, .bool false, .int .u64 0, .slice none 0 0, .bool false, .bool false, .int .u64 0, .slice none 0 0, .bool false, .bool false, .int .u64 0, .slice none 0 0] 85)
    have HZ2 := lhid (show (World.alloc w1 (.cells #[.int .i64 0, .int .i64 0, .bool false, .bool false, .int .u64 0, .slice none 0 0, .bool false, .bool false, .int .u64 0, .slice none 0 0, .bool false, .bool false, .int .u64 0, .slice none 0 0, .bool false, .bool false, .int .u64 0, .slice none 0 0, .bool false, .bool false, .int .u64 0, .slice none 0 0, .bool false, .bool false, .int .u64 0, .slice none 0 0, .bool false, .bool false, .int .u64 0, .slice none 0 0, .bool false, .bool false, .int .u64 0, .slice none 0 0] 85)).heap.size = w1.heap.size + 1 from by simp)
    generalize hq : World.alloc w1 (.cells #[.int .i64 0, .int .i64 0, .bool false, .bool false, .int .u64 0, .slice none 0 0, .bool false, .bool false, .int .u64 0, .slice none 0 0, .bool false, .bool false, .int .u64 0, .slice none 0 0, .bool false, .bool false, .int .u64 0, .slice none 0 0, .bool false, .bool false, .int .u64 0, .slice none 0 0, .bool false, .bool false, .int .u64 0, .slice none 0 0, .bool false, .bool false, .int .u64 0, .slice none 0 0, .bool false, .bool false, .int .u64 0, .slice none 0 0] 85) = w2 at hb hn HZ2 ⊢
    clear hq
    have HB_24 := lhid (below_then HB_2.out HB_2.out.size hb)
    have OC_25 := lhid (Kd.C_below OC_3.out hb)
    have XB_26 := lhid (blk_below XB_4.out hb)
    clear HB_2 OC_3 XB_4 hb
    obtain ⟨g, hg⟩ : ∃ q, q = w1.heap.size := ⟨_, rfl⟩
    have HZB := lhid (show w2.heap[g]? = some ZT by rw [hg]; exact hn)
    clear hn
    have HGZ := lhid (show w.heap.size ≤ g by have h1 := HZ1.out; omega)
    have HXG := lhid (show xb ≠ g by have h1 := HZ1.out; have h2 := HXB.out; omega)
    rw [← hg]
    clear hg
    have hclose := Close_no 0 g (fun _ => False) w2 0 0 (List.replicate 8 hd0) (zt_tn HZB.out) (by decide)
    go_wp2_with fail
    with_reducible refine hclose.mono ?_
    rintro e w20 ⟨rfl, hb⟩
    clear hclose
    have HB_27 := lhid (below_then HB_24.out HB_24.out.size hb)
    have OC_28 := lhid (Kd.C_below OC_25.out hb)
    have XB_29 := lhid (blk_below XB_26.out hb)
    have ZB_30 := lhid (blk_below HZB.out hb)
    clear HB_24 OC_25 XB_26 HZB hb
    go_upto_region 5 with (fail)
    have hb := below_alloc (Below.refl w20.heap.size w20) (.cells #[.slice none 0 0, .slice none 0 0, .int .i64 0] 44)
    have hn := blk_new w20 (.cells #[.slice none 0 0, .slice none 0 0, .int .i64 0] 44)
    have HZ21 := lhid (show (World.alloc w20 (.cells #[.slice none 0 0, .slice none 0 0, .int .i64 0] 44)).heap.size = w20.heap.size + 1 from by simp)
    generalize hq : World.alloc w20 (.cells #[.slice none 0 0, .slice none 0 0, .int .i64 0] 44) = w21 at hb hn HZ21 ⊢
    clear hq
    have HB_31 := lhid (below_then HB_27.out HB_27.out.size hb)
    have OC_32 := lhid (Kd.C_below OC_28.out hb)
    have XB_33 := lhid (blk_below XB_29.out hb)
    have ZB_34 := lhid (blk_below ZB_30.out hb)
    clear HB_27 OC_28 XB_29 ZB_30 hb
    have AZ_35 := lhid (hn)
    clear hn
    obtain ⟨az, haz⟩ : ∃ q, q = w20.heap.size := ⟨_, rfl⟩
    rw [← haz] at AZ_35 ⊢
    clear haz
    obtain ⟨z0, z1, z2⟩ := three AZ_35.out
    go_wp2_with fail
    with_reducible refine (award_nil w21).mono ?_
    rintro e w30 ⟨rfl, hb⟩
    clear z0 z1 z2
    have HB_36 := lhid (below_then HB_31.out HB_31.out.size hb)
    have OC_37 := lhid (Kd.C_below OC_32.out hb)
    have XB_38 := lhid (blk_below XB_33.out hb)
    have ZB_39 := lhid (blk_below ZB_34.out hb)
    have AZ_40 := lhid (blk_below AZ_35.out hb)
    clear HB_31 OC_32 XB_33 ZB_34 AZ_35 hb
    have y0 := blk_cell XB_38.out 0
    have y1 := blk_cell XB_38.out 1
    have y2 := blk_cell XB_38.out 2
    have y3 := blk_cell XB_38.out 3
    have y4 := blk_cell XB_38.out 4
    simp only [List.getElem?_toArray, List.getElem?_cons_succ, List.getElem?_cons_zero] at y0 y1 y2 y3 y4
    have hq := Submit_t 0 g (fun _ => False) w30 0 0 (List.replicate 8 hd0) a0_1 a0_3 (zt_tn ZB_39.out)
    go_wp2_with fail
    try any_goals (exfalso; omega)
    with_reducible refine hq.mono ?_
    rintro e w331 ⟨rfl, ht, hch⟩
    clear hq
    clear y0 y1 y2 y3 y4
    have hzb : w331.heap[g]? = some ZT := chg_zt ht rfl
    clear ht
    have hbn := HB_36.out.trans (hch.below (B := w.heap.size) HB_36.out.size (fun k q => by rw [q]; exact HGZ.out))
    have HBn := lhid hbn
    have XBn := lhid (hch.blk XB_38.out (fun q => HXG.out q))
    have OCn := lhid (Kd.C_below HC00.out HBn.out)
    clear hbn hch HB_36 OC_37 XB_38 ZB_39 AZ_40
    have HB201 := lhid HBn.out
    have XB201 := lhid XBn.out
    have OC201 := lhid OCn.out
    have ZB201 := lhid hzb
    clear HBn XBn OCn hzb
    have y0 := blk_cell XB201.out 0
    have y1 := blk_cell XB201.out 1
    have y2 := blk_cell XB201.out 2
    have y3 := blk_cell XB201.out 3
    have y4 := blk_cell XB201.out 4
    simp only [List.getElem?_toArray, List.getElem?_cons_succ, List.getElem?_cons_zero] at y0 y1 y2 y3 y4
    have hq := Shut_t 0 g (fun _ => False) w331 0 0 (List.replicate 8 hd0) (zt_tn ZB201.out)
    go_wp2_with fail
    try any_goals (exfalso; omega)
    with_reducible refine hq.mono ?_
    rintro e w332 ⟨rfl, ht, hch⟩
    clear hq
    clear y0 y1 y2 y3 y4
    have hzb : w332.heap[g]? = some ZT := chg_zt ht rfl
    clear ht
    have hbn := HB201.out.trans (hch.below (B := w.heap.size) HB201.out.size (fun k q => by rw [q]; exact HGZ.out))
    have HBn := lhid hbn
    have XBn := lhid (hch.blk XB201.out (fun q => HXG.out q))
    have OCn := lhid (Kd.C_below HC00.out HBn.out)
    clear hbn hch HB201 XB201 OC201 ZB201
    have HB226 := lhid HBn.out
    have XB226 := lhid XBn.out
    have OC226 := lhid OCn.out
    have ZB226 := lhid hzb
    clear HBn XBn OCn hzb
    have y0 := blk_cell XB226.out 0
    have y1 := blk_cell XB226.out 1
    have y2 := blk_cell XB226.out 2
    have y3 := blk_cell XB226.out 3
    have y4 := blk_cell XB226.out 4
    simp only [List.getElem?_toArray, List.getElem?_cons_succ, List.getElem?_cons_zero] at y0 y1 y2 y3 y4
    have hq := Show_t 0 g (fun _ => False) w332 0 0 (List.replicate 8 hd0) a0_1 A0_2 c0_2 l0_2 a0_3 (zt_tn ZB226.out) zt_few (Nat.zero_le _) (Int.le_refl _) (by decide) OC226.out hc0_2 HS0.out
    go_wp2_with fail
    try any_goals (exfalso; omega)
    with_reducible refine hq.mono ?_
    rintro e w333 ⟨F', v, hF, rfl, ht, hch⟩
    clear hq
    clear y0 y1 y2 y3 y4
    have hzb : w333.heap[g]? = some ZT := by have h2 := ht.blk; rwa [showH_no (by unfold showC inC; simp)] at h2
    clear ht hF
    rw [show showC 0 0 (List.replicate 8 hd0) a0_1 l0_2 a0_3 = 1 by unfold showC inC; simp]
    have hbn := HB226.out.trans (hch.below (B := w.heap.size) HB226.out.size (fun k q => by rw [q]; exact HGZ.out))
    have HBn := lhid hbn
    have XBn := lhid (hch.blk XB226.out (fun q => HXG.out q))
    have OCn := lhid (Kd.C_below HC00.out HBn.out)
    clear hbn hch HB226 XB226 OC226 ZB226
    have HB252 := lhid HBn.out
    have XB252 := lhid XBn.out
    have OC252 := lhid OCn.out
    have ZB252 := lhid hzb
    clear HBn XBn OCn hzb
    have hq := State_t 0 g (fun _ => False) w333 0 0 (List.replicate 8 hd0) (zt_tn ZB252.out)
    go_wp2_with fail
    try any_goals (exfalso; omega)
    with_reducible refine hq.mono ?_
    rintro e w' ⟨rfl, rfl⟩
    clear hq
    have hq := Missing_t 0 g (fun _ => False) w333 0 0 (List.replicate 8 hd0) (zt_tn ZB252.out)
    go_wp2_with fail
    try any_goals (exfalso; omega)
    with_reducible refine hq.mono ?_
    rintro e w334 ⟨vm, rfl, hR, hb⟩
    clear hq
    obtain ⟨Am, cm, rfl⟩ := Kd.R_slice hR
    clear hR
    have HB_41 := lhid (below_then HB252.out HB252.out.size hb)
    have XB_42 := lhid (blk_below XB252.out hb)
    have OC_43 := lhid (Kd.C_below OC252.out hb)
    have ZB_44 := lhid (blk_below ZB252.out hb)
    clear HB252 XB252 OC252 ZB252 hb
    have hq := Copy_zero 0 g (fun _ => False) w334 0 0 (List.replicate 8 hd0) (zt_tn ZB_44.out) rfl
    go_wp2_with fail
    try any_goals (exfalso; omega)
    with_reducible refine hq.mono ?_
    rintro e w' ⟨rfl, rfl⟩
    clear hq
    go_wp2_with fail
    with_reducible refine (alive_calls w334).mono ?_
    rintro e w900 ⟨rfl, hb⟩
    have HB_45 := lhid (below_then HB_41.out HB_41.out.size hb)
    have XB_46 := lhid (blk_below XB_42.out hb)
    have OC_47 := lhid (Kd.C_below OC_43.out hb)
    have ZB_48 := lhid (blk_below ZB_44.out hb)
    clear HB_41 XB_42 OC_43 ZB_44 hb
    go_wp2_with fail
    go_ret
    exact ⟨rfl, HB_45.out⟩
theorem tenderNobody_pure : kimberlitelaw05_TenderNobody.Pure2 := fun _ _ _ _ _ _ h0 h1 => ⟨0, h0, h1, trivial⟩
end Go.Proofs.Ythfdjccdelbeeaa.PT
end
