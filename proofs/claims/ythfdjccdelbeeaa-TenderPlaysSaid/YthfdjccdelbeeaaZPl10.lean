/-
  The texts that the theorem in YthfdjccdelbeeaaZRowPl rests on, merged (part 11); only what it reaches.
-/
import Derived.Test.YthfdjccdelbeeaaZPl2
import Derived.Test.YthfdjccdelbeeaaZPl4
import Derived.Test.YthfdjccdelbeeaaZPl5
import Derived.Test.YthfdjccdelbeeaaZPl6
import Derived.Test.YthfdjccdelbeeaaZPl7
import Derived.Test.YthfdjccdelbeeaaZPl9
section
namespace Go.Proofs.Ythfdjccdelbeeaa.PT
open Go.RowKit Go.Proofs.YthfdjccdelbeeaaW.PrintWords Go.Proofs.YthfdjccdelbeeaaW.PrintLast Go.Proofs.YthfdjccdelbeeaaW.PrintMore
attribute [local go_sem] max2_int min2_int max_two min_two max_three min_three max_four min_four   -- for this text's walks alone
set_option linter.unusedVariables false
set_option linter.unusedSimpArgs false
def kimberliteref05_Decide.l0 : Nat → List (S50) → List Int → Int → Int → List Int → List Int → Int → Option (List Int × List Int × Int)
 | 0, _, _, _, _, _, _, _ => none
 | k + 1, x0, x3, x4, x6, x315000, x315001, x315002 => if x6 < (x3.length : Int) then (if 0 ≤ x6 then (if 0 ≤ (rd x3 x6) then (if (rd x3 x6) < (x0.length : Int) then ((kimberliteref05_Best.f k x0 ((rd_T50 x0 (rd x3 x6)).f0)).bind fun bt318 => (if x315001.length < 17592186044416 then (kimberliteref05_Decide.l0 k x0 x3 x4 (wrap64 (x6 + 1)) x315000 (x315001 ++ [wrap64 (bt318.2 - (wrap64 (x4 - ((rd_T50 x0 (rd x3 x6)).f2))))]) x315002) else (none))) else (none)) else (none)) else (none)) else (some (x315000, x315001, x315002))
def kimberliteref05_Decide.f (k : Nat) (l0 : List (S50)) : Option (List Int × List Int × Int) := (kimberliteref05_Best.f k l0 (-1)).bind fun bt310 => (kimberliteref05_Decide.l0 k l0 bt310.1 bt310.2 0 bt310.1 ([] : List Int) bt310.2)
theorem kimberliteref05_Decide.mono_l : ∀ k, (∀ y0 y1 y2 y3 y4 y5 y6, LeO (kimberliteref05_Decide.l0 k y0 y1 y2 y3 y4 y5 y6) (kimberliteref05_Decide.l0 (k + 1) y0 y1 y2 y3 y4 y5 y6))
 | 0 => fun _ _ _ _ _ _ _ r h => by simp [kimberliteref05_Decide.l0] at h
 | k + 1 => by
  have ih0 := kimberliteref05_Decide.mono_l k
  ·
   intro y0 y1 y2 y3 y4 y5 y6
   unfold kimberliteref05_Decide.l0
   repeat' first
   | (with_reducible exact ih0 _ _ _ _ _ _ _)
   | (with_reducible exact kimberliteref05_Best.mono _ _ _)
   | (with_reducible exact LeO.refl _)
   | (with_reducible exact LeO.none _)
   | (with_reducible refine LeO.ite ?_ ?_)
   | (with_reducible refine LeO.bind ?_ (fun _ => ?_))
   | exact ih0 _ _ _ _ _ _ _
   | exact kimberliteref05_Best.mono _ _ _
   | exact LeO.none _
   | refine LeO.ite ?_ ?_
   | refine LeO.bind ?_ (fun _ => ?_)
theorem kimberliteref05_Decide.mono : ∀ a0 k, LeO (kimberliteref05_Decide.f k a0) (kimberliteref05_Decide.f (k + 1) a0) := by
 intro a0 k
 have ih0 := kimberliteref05_Decide.mono_l k
 unfold kimberliteref05_Decide.f
 repeat' first
   | (with_reducible exact ih0 _ _ _ _ _ _ _)
   | (with_reducible exact kimberliteref05_Best.mono _ _ _)
   | (with_reducible exact LeO.refl _)
   | (with_reducible exact LeO.none _)
   | (with_reducible refine LeO.ite ?_ ?_)
   | (with_reducible refine LeO.bind ?_ (fun _ => ?_))
   | exact ih0 _ _ _ _ _ _ _
   | exact kimberliteref05_Best.mono _ _ _
   | exact LeO.none _
   | refine LeO.ite ?_ ?_
   | refine LeO.bind ?_ (fun _ => ?_)
set_option maxHeartbeats 8000000 in
set_option maxRecDepth 100000 in
theorem kimberliteref05_Decide.calls (k : Nat) (A0 : Option Addr) (c0 : Nat) (l0 : List (S50)) (r1 : List Int) (r2 : List Int) (r3 : Int) (w : World) (hr0 : Kd.C k50 w A0 l0.length l0) (hc0 : l0.length ≤ c0) (h : kimberliteref05_Decide.f k l0 = some (r1, r2, r3)) :
  Calls Try.prog 29 #[.slice A0 l0.length c0] w fun e w' => ∃ v0_ v1_ : Value, e = .returned (.agg #[v0_, v1_, .int .i64 r3]) ∧ Kd.R (Kd.int .i64) 3 w' w.heap.size (fun k_ => some k_ ≠ (v1_ : Value).ownBlock) v0_ r1 ∧ Kd.R (Kd.int .i64) 3 w' w.heap.size (fun k_ => some k_ ≠ (v0_ : Value).ownBlock) v1_ r2 ∧ Below w.heap.size w w' := by
 have hu44 := Try.underlying44
 have hu50 := Try.underlying50
 have HR0 := Aside0.mk hr0
 have HC0 := Aside0.mk hc0
 clear hr0 hc0
 have HB := Aside0.mk (Below.refl w.heap.size w)
 have H : ((kimberliteref05_Best.f k l0 (-1)).bind fun bt310 => (kimberliteref05_Decide.l0 k l0 bt310.1 bt310.2 0 bt310.1 ([] : List Int) bt310.2)) = some (r1, r2, r3) := h
 clear h
 replace H := Option.bind_eq_some_iff.mp H
 obtain ⟨⟨t310, t311⟩, A20, H⟩ := H
 replace H : (kimberliteref05_Decide.l0 k l0 t310 t311 0 t310 ([] : List Int) t311) = some (r1, r2, r3) := H
 have A2 := Aside0.mk A20
 clear A20
 have H' := Aside0.mk H
 clear H
 go_enter Try.func29, Try.ntmps29
 go_wp2_with (first | ((with_reducible refine gate_dst (N := 2) rfl ?_); refine box_event ?hg (N := 2) ?hd (cs := #[.slice none 0 0, .slice none 0 0, .int .i64 0]) (t := 44) ?hr ?_; (case hd => rfl); (case hg => rfl); (case hr => first | (go_simp; done) | (go_simp; rfl)); intro gb309 hg w3 hbox hb; have n0_ := Aside0.mk (below_step (by repeat (first | (with_reducible first | exact HB.out | apply Zba | apply Zbn | apply Zbd) | exact HB.out)) hb); have n1_ := Aside0.mk (hbox); have n2_ := Aside0.mk ((by rw [hg]; exact (below_size (by repeat (first | (with_reducible first | exact HB.out | apply Zba | apply Zbn | apply Zbd) | exact HB.out))) : w.heap.size ≤ gb309)); have n3_ := Aside0.mk ((by rw [hg]; exact (below_size (by repeat (first | (with_reducible first | exact HB.out | apply Zba | apply Zbn | apply Zbd) | exact HB.out))) : w.heap.size ≤ gb309)); clear HB; have HB := n0_; have BK309 := n1_; have GW309 := n2_; have GE309 := n3_; clear n0_ n1_ n2_ n3_; clear hb hbox hg) | ((with_reducible refine gate_callee (f := 21) rfl ?_); refine goesL_ (some 12) rfl rfl Try.func21 (by kernel_rfl) rfl #[.slice A0 l0.length c0, .int .i64 (-1)] rfl (by (try simp only [List.map_toArray, List.map_cons, List.map_nil]); first | done | rfl | (simp only [List.length_drop, List.length_take]; rfl)) ?_; (with_reducible refine (kimberliteref05_Best.calls k _ _ l0 (-1) t310 t311 _ ?side1 ?side2 A2.out).mono ?_); (case side1 => repeat (first | exact (Kd.C_below HR0.out HB.out) | (with_reducible refine Kd.C_alloc ?_ _) | (with_reducible refine Kd.C_drewN ?_ _) | (with_reducible refine Kd.C_drew ?_))); (case side2 => exact HC0.out); rintro e w4 ⟨v312, rfl, ho0, hb⟩; refine ⟨_, rfl, ?_⟩; have n0_ := Aside0.mk (Kd.R_lower ho0 (below_size (by repeat (first | (with_reducible first | exact HB.out | apply Zba | apply Zbn | apply Zbd | refine below_set ?_ GE309.out) | exact HB.out)))); have n1_ := Aside0.mk (blk_below (g := gb309) (o := .cells #[.slice none 0 0, .slice none 0 0, .int .i64 0] 44 (0, 0)) (by (with_reducible repeat (first | refine Zkn ?_ _ | refine Zkd ?_ | refine Zka ?_ _)); exact BK309.out) hb); have n2_ := Aside0.mk (below_step (by repeat (first | (with_reducible first | exact HB.out | apply Zba | apply Zbn | apply Zbd | refine below_set ?_ GE309.out) | exact HB.out)) hb); clear BK309; clear HB; have HO313 := n0_; have BK309 := n1_; have HB := n2_; clear n0_ n1_ n2_; (try clear hb); (try clear hb2); (try clear hk); (try clear hi); (try clear ho0); obtain ⟨Ao5, co5, eo5⟩ := Kd.R_slice HO313.out; subst eo5) | ((with_reducible refine gate_dst (N := 5) rfl ?_); refine box_event ?hg (N := 5) ?hd (cs := #[.slice none 0 0, .slice none 0 0, .int .i64 0]) (t := 44) ?hr ?_; (case hd => rfl); (case hg => rfl); (case hr => first | (go_simp; done) | (go_simp; rfl)); intro gb314 hg w6 hbox hb; have n0_ := Aside0.mk (Kd.R_below (by (with_reducible repeat (first | apply Zra | apply Zrn | apply Zrd)); exact HO313.out) hb); have n1_ := Aside0.mk (blk_below (g := gb309) (o := .cells #[.slice none 0 0, .slice none 0 0, .int .i64 0] 44 (0, 0)) (by (with_reducible repeat (first | refine Zkn ?_ _ | refine Zkd ?_ | refine Zka ?_ _)); exact BK309.out) hb); have n2_ := Aside0.mk (below_step (by repeat (first | (with_reducible first | exact HB.out | apply Zba | apply Zbn | apply Zbd | refine below_set ?_ GE309.out) | exact HB.out)) hb); have n3_ := Aside0.mk (hbox); have n4_ := Aside0.mk ((by rw [hg]; exact (below_size (by repeat (first | (with_reducible first | exact HB.out | apply Zba | apply Zbn | apply Zbd | refine below_set ?_ GE309.out) | exact HB.out))) : w.heap.size ≤ gb314)); have n5_ := Aside0.mk ((by rw [hg]; exact (below_size (by repeat (first | (with_reducible first | exact HB.out | apply Zba | apply Zbn | apply Zbd | refine below_set ?_ GE309.out) | exact HB.out))) : w.heap.size ≤ gb314)); have n6_ := Aside0.mk ((by rw [hg]; exact Nat.ne_of_lt (blk_lt (g := gb309) (o := .cells #[.slice none 0 0, .slice none 0 0, .int .i64 0] 44 (0, 0)) (by (with_reducible repeat (first | refine Zkn ?_ _ | refine Zkd ?_ | refine Zka ?_ _)); exact BK309.out)) : gb309 ≠ gb314)); have n7_ := Aside0.mk ((by rw [hg]; exact Nat.ne_of_gt (blk_lt (g := gb309) (o := .cells #[.slice none 0 0, .slice none 0 0, .int .i64 0] 44 (0, 0)) (by (with_reducible repeat (first | refine Zkn ?_ _ | refine Zkd ?_ | refine Zka ?_ _)); exact BK309.out)) : gb314 ≠ gb309)); clear HO313; clear BK309; clear HB; have HO313 := n0_; have BK309 := n1_; have HB := n2_; have BK314 := n3_; have GW314 := n4_; have GE314 := n5_; have NB309_314 := n6_; have NB314_309 := n7_; clear n0_ n1_ n2_ n3_ n4_ n5_ n6_ n7_; clear hb hbox hg; have hnb7 := NB314_309.out; have hnc7 := NB309_314.out; have hcz8_0 : w6.cell? ⟨gb314, 0, none⟩ = some (.slice none 0 0) := (blk_cell BK314.out 0).trans rfl; have hcz8_1 : w6.cell? ⟨gb314, 1, none⟩ = some (.slice none 0 0) := (blk_cell BK314.out 1).trans rfl; have hcz8_2 : w6.cell? ⟨gb314, 2, none⟩ = some (.int .i64 0) := (blk_cell BK314.out 2).trans rfl; have hfz8_0 := blk_frozen BK314.out 0; have hfz8_1 := blk_frozen BK314.out 1; have hfz8_2 := blk_frozen BK314.out 2))
 go_loopg [6] k (fun kq v6 w' => ∃ (x6_1 : Int) (x315001_1 : List Int) (u315001 : Value), v6 = .int .i64 x6_1 ∧ Aside0 (kimberliteref05_Decide.l0 kq l0 t310 t311 x6_1 t310 x315001_1 t311 = some (r1, r2, r3)) ∧ Aside0 (kq ≤ k) ∧ Aside0 (Kd.R (Kd.int .i64) 3 w' w.heap.size (fun k_ => some k_ ≠ (u315001 : Value).ownBlock) (.slice Ao5 t310.length co5) t310) ∧ Aside0 (Kd.R (Kd.int .i64) 3 w' w.heap.size (fun k_ => some k_ ≠ (u315001 : Value).ownBlock) (.slice Ao5 t310.length co5) t310) ∧ Aside0 (Kd.R (Kd.int .i64) 3 w' w.heap.size (fun k_ => some k_ ≠ ((.slice Ao5 t310.length co5) : Value).ownBlock ∧ some k_ ≠ ((.slice Ao5 t310.length co5) : Value).ownBlock) u315001 x315001_1) ∧ Aside0 (w'.heap[gb309]? = some (.cells #[(.slice none 0 0), (.slice none 0 0), .int .i64 0] 44 (0, 0))) ∧ Aside0 (w'.heap[gb314]? = some (.cells #[(.slice Ao5 t310.length co5), u315001, .int .i64 t311] 44 (0, 0))) ∧ Aside0 (Below w.heap.size w w'))
 case atStart => exact ⟨(0), (([] : List Int)), (.slice none 0 0), (by first | rfl | (simp; done) | (simp [*]; done)), H', ⟨Nat.le_refl _⟩, ⟨by (with_reducible repeat (first | apply Zra | apply Zrn | apply Zrd)); exact Kd.R_mono (Kd.R_far (p := ⟨gb314, 2, none⟩) (Kd.R_far (p := ⟨gb314, 1, none⟩) (Kd.R_far (p := ⟨gb314, 0, none⟩) (Kd.R_types HO313.out BK314.out (by decide)) (fun _ hk => hk.2) (.slice Ao5 t310.length co5)) (fun _ hk => hk.2) (.slice none 0 0)) (fun _ hk => hk.2) (.int .i64 t311)) (fun _ hk => (by simp [Value.ownBlock]))⟩, ⟨by (with_reducible repeat (first | apply Zra | apply Zrn | apply Zrd)); exact Kd.R_mono (Kd.R_far (p := ⟨gb314, 2, none⟩) (Kd.R_far (p := ⟨gb314, 1, none⟩) (Kd.R_far (p := ⟨gb314, 0, none⟩) (Kd.R_types HO313.out BK314.out (by decide)) (fun _ hk => hk.2) (.slice Ao5 t310.length co5)) (fun _ hk => hk.2) (.slice none 0 0)) (fun _ hk => hk.2) (.int .i64 t311)) (fun _ hk => (by simp [Value.ownBlock]))⟩, ⟨by first | exact Kd.R_nil _ _ _ _ _ | exact Kd.N_nil _ _ _ _ _ | exact Kd.V_nil _ _ _ _ _ | exact Kd.Q_nil _ _ _ _ _ | exact Kd.S_nil _ _ _ _ _⟩, ⟨by (with_reducible repeat (first | refine Zkn ?_ _ | refine Zkd ?_ | refine Zka ?_ _)); refine blk_far ?_ NB309_314.out _; (with_reducible repeat (first | refine Zkn ?_ _ | refine Zkd ?_ | refine Zka ?_ _)); refine blk_far ?_ NB309_314.out _; (with_reducible repeat (first | refine Zkn ?_ _ | refine Zkd ?_ | refine Zka ?_ _)); refine blk_far ?_ NB309_314.out _; (with_reducible repeat (first | refine Zkn ?_ _ | refine Zkd ?_ | refine Zka ?_ _)); exact BK309.out⟩, ⟨by (with_reducible repeat (first | refine Zkn ?_ _ | refine Zkd ?_ | refine Zka ?_ _)); refine blk_put (cs := #[.slice Ao5 t310.length co5, .slice none 0 0, .int .i64 0]) ?_ 2 _ rfl; (with_reducible repeat (first | refine Zkn ?_ _ | refine Zkd ?_ | refine Zka ?_ _)); refine blk_put (cs := #[.slice Ao5 t310.length co5, .slice none 0 0, .int .i64 0]) ?_ 1 _ rfl; (with_reducible repeat (first | refine Zkn ?_ _ | refine Zkd ?_ | refine Zka ?_ _)); refine blk_put (cs := #[.slice none 0 0, .slice none 0 0, .int .i64 0]) ?_ 0 _ rfl; (with_reducible repeat (first | refine Zkn ?_ _ | refine Zkd ?_ | refine Zka ?_ _)); exact BK314.out⟩, ⟨by repeat (first | (with_reducible first | exact HB.out | apply Zba | apply Zbn | apply Zbd | refine below_set ?_ GE309.out | refine below_set ?_ GE314.out) | exact HB.out)⟩⟩
 case round =>
  clear H'
  try clear c2
  try clear p2
  try clear c7
  try clear hcz8_0
  try clear hcz8_1
  try clear hcz8_2
  try clear hfz8_0
  try clear hfz8_1
  try clear hfz8_2
  obtain ⟨x6_1, x315001_1, u315001, rfl, HA, HK1, HO_3, HO_315000, HO_315001, BK309, BK314, HB⟩ := hrel
  cases gk with
  | zero => exact absurd HA.out (by simp [kimberliteref05_Decide.l0])
  | succ k1 =>
   have H := HA.out
   clear HA
   simp only [kimberliteref05_Decide.l0] at H
   by_cases c9 : x6_1 < (t310.length : Int)
   ·
    rw [if_pos c9] at H
    have c9b0 : decide (x6_1 < (t310.length : Int)) = true := decide_eq_true c9
    clear c9
    by_cases c10 : 0 ≤ x6_1
    ·
     rw [if_pos c10] at H
     have c10b0 : decide (0 ≤ x6_1) = true := decide_eq_true c10
     clear c10
     by_cases c11 : 0 ≤ (rd t310 x6_1)
     ·
      rw [if_pos c11] at H
      have c11b0 : decide (0 ≤ (rd t310 x6_1)) = true := decide_eq_true c11
      clear c11
      by_cases c12 : (rd t310 x6_1) < (l0.length : Int)
      ·
       rw [if_pos c12] at H
       have c12b0 : decide ((rd t310 x6_1) < (l0.length : Int)) = true := decide_eq_true c12
       clear c12
       replace H := Option.bind_eq_some_iff.mp H
       obtain ⟨⟨t318, t319⟩, A130, H⟩ := H
       replace H : (if x315001_1.length < 17592186044416 then (kimberliteref05_Decide.l0 k1 l0 t310 t311 (wrap64 (x6_1 + 1)) t310 (x315001_1 ++ [wrap64 (t319 - (wrap64 (t311 - ((rd_T50 l0 (rd t310 x6_1)).f2))))]) t311) else (none)) = some (r1, r2, r3) := H
       have A13 := Aside0.mk A130
       clear A130
       by_cases c14 : x315001_1.length < 17592186044416
       ·
        rw [if_pos c14] at H
        have LMc14 := Aside0.mk c14
        clear c14
        obtain ⟨y322, hy322⟩ : ∃ y_ : List Int, y_ = (x315001_1 ++ [wrap64 (t319 - (wrap64 (t311 - ((rd_T50 l0 (rd t310 x6_1)).f2))))]) := ⟨_, rfl⟩
        replace H : (kimberliteref05_Decide.l0 k1 l0 t310 t311 (wrap64 (x6_1 + 1)) t310 y322 t311) = some (r1, r2, r3) := by first | (rw [hy322]; with_reducible exact H) | (have H2_ := (Option.bind_some _ _).symm.trans H; rw [hy322]; with_reducible exact H2_) | (have H2_ := (Option.bind_some _ _).symm.trans H; with_reducible exact H2_) | with_reducible exact H | (rw [hy322]; exact H) | exact H
        have Ny322 := Aside0.mk hy322
        clear hy322
        have H' := Aside0.mk H
        clear H
        have p315 : 0 ≤ (x6_1 : Int) := of_decide_eq_true (by first | (with_reducible assumption) | assumption)
        have q315 : x6_1 < (t310.length : Int) := of_decide_eq_true (by first | (with_reducible assumption) | assumption)
        obtain ⟨ad315, e315, hx315_0⟩ := Kd.at_int (Kd.R_reads' HO_3.out).2.2 x6_1 p315 q315
        cases e315
        replace p315 := eq_true p315
        replace q315 := eq_true q315
        have p316 : 0 ≤ ((rd t310 x6_1) : Int) := of_decide_eq_true (by first | (with_reducible assumption) | assumption)
        have q316 : (rd t310 x6_1) < (l0.length : Int) := of_decide_eq_true (by first | (with_reducible assumption) | assumption)
        obtain ⟨ad316, e316, hx316_0, hx316_1, hx316_2⟩ := at_T50 HR0.out (rd t310 x6_1) p316 q316
        cases e316
        replace hx316_0 := (HB.out.cell (World.block_lt_of_cell? w _ hx316_0)).trans hx316_0
        replace hx316_1 := (HB.out.cell (World.block_lt_of_cell? w _ hx316_1)).trans hx316_1
        replace hx316_2 := (HB.out.cell (World.block_lt_of_cell? w _ hx316_2)).trans hx316_2
        replace p316 := eq_true p316
        replace q316 := eq_true q316
        go_wp2_with (first | ((with_reducible refine gate_dst (N := 7) rfl ?_); refine box_event ?hg (N := 7) ?hd (cs := #[.int .i64 0, .int .i64 0, .int .i64 0]) (t := 50) ?hr ?_; (case hd => rfl); (case hg => rfl); (case hr => first | (go_simp; done) | (go_simp; rfl)); intro gb317 hg w15 hbox hb; have n0_ := Aside0.mk (Kd.R_below (by (with_reducible repeat (first | apply Zra | apply Zrn | apply Zrd)); exact HO_3.out) hb); have n1_ := Aside0.mk (Kd.R_below (by (with_reducible repeat (first | apply Zra | apply Zrn | apply Zrd)); exact HO_315000.out) hb); have n2_ := Aside0.mk (Kd.R_below (by (with_reducible repeat (first | apply Zra | apply Zrn | apply Zrd)); exact HO_315001.out) hb); have n3_ := Aside0.mk (blk_below (g := gb309) (o := .cells #[.slice none 0 0, .slice none 0 0, .int .i64 0] 44 (0, 0)) (by (with_reducible repeat (first | refine Zkn ?_ _ | refine Zkd ?_ | refine Zka ?_ _)); exact BK309.out) hb); have n4_ := Aside0.mk (blk_below (g := gb314) (o := .cells #[.slice (some ad315) t310.length co5, u315001, .int .i64 t311] 44 (0, 0)) (by (with_reducible repeat (first | refine Zkn ?_ _ | refine Zkd ?_ | refine Zka ?_ _)); exact BK314.out) hb); have n5_ := Aside0.mk (below_step (by repeat (first | (with_reducible first | exact HB.out | apply Zba | apply Zbn | apply Zbd | refine below_set ?_ GE309.out | refine below_set ?_ GE314.out) | exact HB.out)) hb); have n6_ := Aside0.mk (hbox); have n7_ := Aside0.mk ((by rw [hg]; exact (below_size (by repeat (first | (with_reducible first | exact HB.out | apply Zba | apply Zbn | apply Zbd | refine below_set ?_ GE309.out | refine below_set ?_ GE314.out) | exact HB.out))) : w.heap.size ≤ gb317)); have n8_ := Aside0.mk ((by rw [hg]; exact (below_size (by repeat (first | (with_reducible first | exact HB.out | apply Zba | apply Zbn | apply Zbd | refine below_set ?_ GE309.out | refine below_set ?_ GE314.out) | exact HB.out))) : w.heap.size ≤ gb317)); have n9_ := Aside0.mk ((by rw [hg]; exact Nat.ne_of_lt (blk_lt (g := gb309) (o := .cells #[.slice none 0 0, .slice none 0 0, .int .i64 0] 44 (0, 0)) (by (with_reducible repeat (first | refine Zkn ?_ _ | refine Zkd ?_ | refine Zka ?_ _)); exact BK309.out)) : gb309 ≠ gb317)); have n10_ := Aside0.mk ((by rw [hg]; exact Nat.ne_of_gt (blk_lt (g := gb309) (o := .cells #[.slice none 0 0, .slice none 0 0, .int .i64 0] 44 (0, 0)) (by (with_reducible repeat (first | refine Zkn ?_ _ | refine Zkd ?_ | refine Zka ?_ _)); exact BK309.out)) : gb317 ≠ gb309)); have n11_ := Aside0.mk ((by rw [hg]; exact Nat.ne_of_lt (blk_lt (g := gb314) (o := .cells #[.slice (some ad315) t310.length co5, u315001, .int .i64 t311] 44 (0, 0)) (by (with_reducible repeat (first | refine Zkn ?_ _ | refine Zkd ?_ | refine Zka ?_ _)); exact BK314.out)) : gb314 ≠ gb317)); have n12_ := Aside0.mk ((by rw [hg]; exact Nat.ne_of_gt (blk_lt (g := gb314) (o := .cells #[.slice (some ad315) t310.length co5, u315001, .int .i64 t311] 44 (0, 0)) (by (with_reducible repeat (first | refine Zkn ?_ _ | refine Zkd ?_ | refine Zka ?_ _)); exact BK314.out)) : gb317 ≠ gb314)); clear HO_3; clear HO_315000; clear HO_315001; clear BK309; clear BK314; clear HB; have HO_3 := n0_; have HO_315000 := n1_; have HO_315001 := n2_; have BK309 := n3_; have BK314 := n4_; have HB := n5_; have BK317 := n6_; have GW317 := n7_; have GE317 := n8_; have NB309_317 := n9_; have NB317_309 := n10_; have NB314_317 := n11_; have NB317_314 := n12_; clear n0_ n1_ n2_ n3_ n4_ n5_ n6_ n7_ n8_ n9_ n10_ n11_ n12_; clear hb hbox hg; have hnb16 := NB317_309.out; have hnc16 := NB309_317.out; have hnb17 := NB317_314.out; have hnc17 := NB314_317.out; have hcz18_0 : w15.cell? ⟨gb317, 0, none⟩ = some (.int .i64 0) := (blk_cell BK317.out 0).trans rfl; have hcz18_1 : w15.cell? ⟨gb317, 1, none⟩ = some (.int .i64 0) := (blk_cell BK317.out 1).trans rfl; have hcz18_2 : w15.cell? ⟨gb317, 2, none⟩ = some (.int .i64 0) := (blk_cell BK317.out 2).trans rfl; have hfz18_0 := blk_frozen BK317.out 0; have hfz18_1 := blk_frozen BK317.out 1; have hfz18_2 := blk_frozen BK317.out 2) | ((with_reducible refine gate_callee (f := 21) rfl ?_); refine goesL_ (some 35) rfl rfl Try.func21 (by kernel_rfl) rfl #[.slice (some ad316) l0.length c0, .int .i64 ((rd_T50 l0 (rd t310 x6_1)).f0)] rfl (by (try simp only [List.map_toArray, List.map_cons, List.map_nil]); first | done | rfl | (simp only [List.length_drop, List.length_take]; rfl)) ?_; (with_reducible refine (kimberliteref05_Best.calls k1 _ _ l0 ((rd_T50 l0 (rd t310 x6_1)).f0) t318 t319 _ ?side1 ?side2 A13.out).mono ?_); (case side1 => exact Kd.C_below HR0.out (by repeat (first | (with_reducible first | exact HB.out | apply Zba | apply Zbn | apply Zbd | refine below_set ?_ GE309.out | refine below_set ?_ GE314.out | refine below_set ?_ GE317.out) | exact HB.out))); (case side2 => exact HC0.out); rintro e w19 ⟨v320, rfl, ho0, hb⟩; refine ⟨_, rfl, ?_⟩; have n0_ := Aside0.mk (Kd.R_elder' (by (with_reducible repeat (first | apply Zra | apply Zrn | apply Zrd)); exact (Kd.R_mono (Kd.R_far (p := ⟨gb317, 2, none⟩) (Kd.R_far (p := ⟨gb317, 1, none⟩) (Kd.R_far (p := ⟨gb317, 0, none⟩) (Kd.R_types HO_3.out BK317.out (by decide)) (fun _ hk => hk.2) (.int .i64 ((rd_T50 l0 (rd t310 x6_1)).f0))) (fun _ hk => hk.2) (.int .i64 ((rd_T50 l0 (rd t310 x6_1)).f1))) (fun _ hk => hk.2) (.int .i64 ((rd_T50 l0 (rd t310 x6_1)).f2))) (fun _ h_ => h_.1))) (Kd.R_base ho0) hb); have n1_ := Aside0.mk (Kd.R_elder' (by (with_reducible repeat (first | apply Zra | apply Zrn | apply Zrd)); exact (Kd.R_mono (Kd.R_far (p := ⟨gb317, 2, none⟩) (Kd.R_far (p := ⟨gb317, 1, none⟩) (Kd.R_far (p := ⟨gb317, 0, none⟩) (Kd.R_types HO_315000.out BK317.out (by decide)) (fun _ hk => hk.2) (.int .i64 ((rd_T50 l0 (rd t310 x6_1)).f0))) (fun _ hk => hk.2) (.int .i64 ((rd_T50 l0 (rd t310 x6_1)).f1))) (fun _ hk => hk.2) (.int .i64 ((rd_T50 l0 (rd t310 x6_1)).f2))) (fun _ h_ => h_.1))) (Kd.R_base ho0) hb); have n2_ := Aside0.mk (Kd.R_elder' (by (with_reducible repeat (first | apply Zra | apply Zrn | apply Zrd)); exact (Kd.R_mono (Kd.R_far (p := ⟨gb317, 2, none⟩) (Kd.R_far (p := ⟨gb317, 1, none⟩) (Kd.R_far (p := ⟨gb317, 0, none⟩) (Kd.R_types HO_315001.out BK317.out (by decide)) (fun _ hk => hk.2) (.int .i64 ((rd_T50 l0 (rd t310 x6_1)).f0))) (fun _ hk => hk.2) (.int .i64 ((rd_T50 l0 (rd t310 x6_1)).f1))) (fun _ hk => hk.2) (.int .i64 ((rd_T50 l0 (rd t310 x6_1)).f2))) (fun _ h_ => h_.1))) (Kd.R_base ho0) hb); have n3_ := Aside0.mk (Kd.R_lower (Kd.R_new' (Kd.R_new' (Kd.R_new' ho0 (Kd.R_lt (by (with_reducible repeat (first | apply Zra | apply Zrn | apply Zrd)); exact (Kd.R_mono (Kd.R_far (p := ⟨gb317, 2, none⟩) (Kd.R_far (p := ⟨gb317, 1, none⟩) (Kd.R_far (p := ⟨gb317, 0, none⟩) (Kd.R_types HO_3.out BK317.out (by decide)) (fun _ hk => hk.2) (.int .i64 ((rd_T50 l0 (rd t310 x6_1)).f0))) (fun _ hk => hk.2) (.int .i64 ((rd_T50 l0 (rd t310 x6_1)).f1))) (fun _ hk => hk.2) (.int .i64 ((rd_T50 l0 (rd t310 x6_1)).f2))) (fun _ h_ => h_.1))))) (Kd.R_lt (by (with_reducible repeat (first | apply Zra | apply Zrn | apply Zrd)); exact (Kd.R_mono (Kd.R_far (p := ⟨gb317, 2, none⟩) (Kd.R_far (p := ⟨gb317, 1, none⟩) (Kd.R_far (p := ⟨gb317, 0, none⟩) (Kd.R_types HO_315000.out BK317.out (by decide)) (fun _ hk => hk.2) (.int .i64 ((rd_T50 l0 (rd t310 x6_1)).f0))) (fun _ hk => hk.2) (.int .i64 ((rd_T50 l0 (rd t310 x6_1)).f1))) (fun _ hk => hk.2) (.int .i64 ((rd_T50 l0 (rd t310 x6_1)).f2))) (fun _ h_ => h_.1))))) (Kd.R_lt (by (with_reducible repeat (first | apply Zra | apply Zrn | apply Zrd)); exact (Kd.R_mono (Kd.R_far (p := ⟨gb317, 2, none⟩) (Kd.R_far (p := ⟨gb317, 1, none⟩) (Kd.R_far (p := ⟨gb317, 0, none⟩) (Kd.R_types HO_315001.out BK317.out (by decide)) (fun _ hk => hk.2) (.int .i64 ((rd_T50 l0 (rd t310 x6_1)).f0))) (fun _ hk => hk.2) (.int .i64 ((rd_T50 l0 (rd t310 x6_1)).f1))) (fun _ hk => hk.2) (.int .i64 ((rd_T50 l0 (rd t310 x6_1)).f2))) (fun _ h_ => h_.1))))) (below_size (by repeat (first | (with_reducible first | exact HB.out | apply Zba | apply Zbn | apply Zbd | refine below_set ?_ GE309.out | refine below_set ?_ GE314.out | refine below_set ?_ GE317.out) | exact HB.out)))); have n4_ := Aside0.mk (blk_below (g := gb309) (o := .cells #[.slice none 0 0, .slice none 0 0, .int .i64 0] 44 (0, 0)) (by (with_reducible repeat (first | refine Zkn ?_ _ | refine Zkd ?_ | refine Zka ?_ _)); refine blk_far ?_ NB309_317.out _; (with_reducible repeat (first | refine Zkn ?_ _ | refine Zkd ?_ | refine Zka ?_ _)); refine blk_far ?_ NB309_317.out _; (with_reducible repeat (first | refine Zkn ?_ _ | refine Zkd ?_ | refine Zka ?_ _)); refine blk_far ?_ NB309_317.out _; (with_reducible repeat (first | refine Zkn ?_ _ | refine Zkd ?_ | refine Zka ?_ _)); exact BK309.out) hb); have n5_ := Aside0.mk (blk_below (g := gb314) (o := .cells #[.slice (some ad315) t310.length co5, u315001, .int .i64 t311] 44 (0, 0)) (by (with_reducible repeat (first | refine Zkn ?_ _ | refine Zkd ?_ | refine Zka ?_ _)); refine blk_far ?_ NB314_317.out _; (with_reducible repeat (first | refine Zkn ?_ _ | refine Zkd ?_ | refine Zka ?_ _)); refine blk_far ?_ NB314_317.out _; (with_reducible repeat (first | refine Zkn ?_ _ | refine Zkd ?_ | refine Zka ?_ _)); refine blk_far ?_ NB314_317.out _; (with_reducible repeat (first | refine Zkn ?_ _ | refine Zkd ?_ | refine Zka ?_ _)); exact BK314.out) hb); have n6_ := Aside0.mk (blk_below (g := gb317) (o := .cells #[.int .i64 ((rd_T50 l0 (rd t310 x6_1)).f0), .int .i64 ((rd_T50 l0 (rd t310 x6_1)).f1), .int .i64 ((rd_T50 l0 (rd t310 x6_1)).f2)] 50 (0, 0)) (by (with_reducible repeat (first | refine Zkn ?_ _ | refine Zkd ?_ | refine Zka ?_ _)); refine blk_put (cs := #[.int .i64 ((rd_T50 l0 (rd t310 x6_1)).f0), .int .i64 ((rd_T50 l0 (rd t310 x6_1)).f1), .int .i64 0]) ?_ 2 _ rfl; (with_reducible repeat (first | refine Zkn ?_ _ | refine Zkd ?_ | refine Zka ?_ _)); refine blk_put (cs := #[.int .i64 ((rd_T50 l0 (rd t310 x6_1)).f0), .int .i64 0, .int .i64 0]) ?_ 1 _ rfl; (with_reducible repeat (first | refine Zkn ?_ _ | refine Zkd ?_ | refine Zka ?_ _)); refine blk_put (cs := #[.int .i64 0, .int .i64 0, .int .i64 0]) ?_ 0 _ rfl; (with_reducible repeat (first | refine Zkn ?_ _ | refine Zkd ?_ | refine Zka ?_ _)); exact BK317.out) hb); have n7_ := Aside0.mk (below_step (by repeat (first | (with_reducible first | exact HB.out | apply Zba | apply Zbn | apply Zbd | refine below_set ?_ GE309.out | refine below_set ?_ GE314.out | refine below_set ?_ GE317.out) | exact HB.out)) hb); clear HO_3; clear HO_315000; clear HO_315001; clear BK309; clear BK314; clear BK317; clear HB; have HO_3 := n0_; have HO_315000 := n1_; have HO_315001 := n2_; have HO321 := n3_; have BK309 := n4_; have BK314 := n5_; have BK317 := n6_; have HB := n7_; clear n0_ n1_ n2_ n3_ n4_ n5_ n6_ n7_; (try clear hb); (try clear hb2); (try clear hk); (try clear hi); (try clear ho0); have hnb20 := NB314_309.out; have hnc20 := NB309_314.out; have hcz21_0 : w19.cell? ⟨gb314, 0, none⟩ = some (.slice (some ad315) t310.length co5) := (blk_cell BK314.out 0).trans rfl; have hcz21_1 : w19.cell? ⟨gb314, 1, none⟩ = some (u315001) := (blk_cell BK314.out 1).trans rfl; have hcz21_2 : w19.cell? ⟨gb314, 2, none⟩ = some (.int .i64 t311) := (blk_cell BK314.out 2).trans rfl; have hfz21_0 := blk_frozen BK314.out 0; have hfz21_1 := blk_frozen BK314.out 1; have hfz21_2 := blk_frozen BK314.out 2; have hcz22_0 : w19.cell? ⟨gb317, 0, none⟩ = some (.int .i64 ((rd_T50 l0 (rd t310 x6_1)).f0)) := (blk_cell BK317.out 0).trans rfl; have hcz22_1 : w19.cell? ⟨gb317, 1, none⟩ = some (.int .i64 ((rd_T50 l0 (rd t310 x6_1)).f1)) := (blk_cell BK317.out 1).trans rfl; have hcz22_2 : w19.cell? ⟨gb317, 2, none⟩ = some (.int .i64 ((rd_T50 l0 (rd t310 x6_1)).f2)) := (blk_cell BK317.out 2).trans rfl; have hfz22_0 := blk_frozen BK317.out 0; have hfz22_1 := blk_frozen BK317.out 1; have hfz22_2 := blk_frozen BK317.out 2) | ((with_reducible refine gate_builtin (b := .append) (xs := #[.tmp 39, .tmp 46]) rfl ?_); at_builtin; refine Kd.R_append (Kd.int .i64) (w0 := w) w.heap.size rfl (.tmp 39) (.tmp 46) 26 3 (.int .i64 0) 8 rfl Try.underlying26 info3 rfl (by decide) (by omega) u315001 x315001_1 (wrap64 (t319 - (wrap64 (t311 - ((rd_T50 l0 (rd t310 x6_1)).f2))))) [.int .i64 (wrap64 (t319 - (wrap64 (t311 - ((rd_T50 l0 (rd t310 x6_1)).f2)))))] (fun k_ => some k_ ≠ (.slice (some ad315) t310.length co5 : Value).ownBlock ∧ some k_ ≠ (.slice (some ad315) t310.length co5 : Value).ownBlock ∧ some k_ ≠ (v320 : Value).ownBlock) (fun _ => False) rfl rfl ?aP (fun _ hk => hk.elim) ?aF ?aO ?aB ?aS ?aL ?_; (case aP => exact rfl); (case aB => exact (by repeat (first | (with_reducible first | exact HB.out | apply Zba | apply Zbn | apply Zbd | refine below_set ?_ GE309.out | refine below_set ?_ GE314.out | refine below_set ?_ GE317.out) | exact HB.out))); (case aF => exact (fun k_ hk => ⟨Kd.fresh' (Kd.R_lt (by (with_reducible repeat (first | apply Zra | apply Zrn | apply Zrd)); exact HO_3.out)) k_ hk, Kd.fresh' (Kd.R_lt (by (with_reducible repeat (first | apply Zra | apply Zrn | apply Zrd)); exact HO_315000.out)) k_ hk, Kd.fresh' (Kd.R_lt (by (with_reducible repeat (first | apply Zra | apply Zrn | apply Zrd)); exact HO321.out)) k_ hk⟩)); (case aO => exact (by (with_reducible repeat (first | apply Zra | apply Zrn | apply Zrd)); exact Kd.R_mono HO_315001.out (fun _ hk => ⟨hk.1.1, ⟨hk.1.2, hk.2⟩⟩))); (case aS => exact (below_size (by repeat (first | (with_reducible first | exact HB.out | apply Zba | apply Zbn | apply Zbd | refine below_set ?_ GE309.out | refine below_set ?_ GE314.out | refine below_set ?_ GE317.out) | exact HB.out)))); (case aL => have := LMc14.out; omega); intro v323 w23 ho hb hg hat; rw [← Ny322.out] at ho; have n0_ := Aside0.mk (Kd.R_after (ok := (fun k_ => some k_ ≠ (v320 : Value).ownBlock)) (by (with_reducible repeat (first | apply Zra | apply Zrn | apply Zrd)); exact Kd.R_mono HO_3.out (fun _ hk => ⟨hk.2, hk.1⟩)) hg hat); have n1_ := Aside0.mk (Kd.R_after (ok := (fun k_ => some k_ ≠ (v320 : Value).ownBlock)) (by (with_reducible repeat (first | apply Zra | apply Zrn | apply Zrd)); exact Kd.R_mono HO_315000.out (fun _ hk => ⟨hk.2, hk.1⟩)) hg hat); have n2_ := Aside0.mk (blk_grown (g := gb309) (o := .cells #[.slice none 0 0, .slice none 0 0, .int .i64 0] 44 (0, 0)) (by (with_reducible repeat (first | refine Zkn ?_ _ | refine Zkd ?_ | refine Zka ?_ _)); exact BK309.out) hg (Kd.R_ne HO_315001.out BK309.out (by decide))); have n3_ := Aside0.mk (blk_grown (g := gb314) (o := .cells #[.slice (some ad315) t310.length co5, u315001, .int .i64 t311] 44 (0, 0)) (by (with_reducible repeat (first | refine Zkn ?_ _ | refine Zkd ?_ | refine Zka ?_ _)); exact BK314.out) hg (Kd.R_ne HO_315001.out BK314.out (by decide))); have n4_ := Aside0.mk (blk_grown (g := gb317) (o := .cells #[.int .i64 ((rd_T50 l0 (rd t310 x6_1)).f0), .int .i64 ((rd_T50 l0 (rd t310 x6_1)).f1), .int .i64 ((rd_T50 l0 (rd t310 x6_1)).f2)] 50 (0, 0)) (by (with_reducible repeat (first | refine Zkn ?_ _ | refine Zkd ?_ | refine Zka ?_ _)); exact BK317.out) hg (Kd.R_ne HO_315001.out BK317.out (by decide))); have n5_ := Aside0.mk (Kd.R_after (ok := (fun k_ => some k_ ≠ (.slice (some ad315) t310.length co5 : Value).ownBlock ∧ some k_ ≠ (.slice (some ad315) t310.length co5 : Value).ownBlock)) (by (with_reducible repeat (first | apply Zra | apply Zrn | apply Zrd)); exact Kd.R_mono HO321.out (fun _ hk => ⟨⟨hk.1.1.2, hk.1.2⟩, hk.2⟩)) hg hat); have n6_ := Aside0.mk (hb); have n7_ := Aside0.mk (ho); clear HO_3; clear HO_315000; clear BK309; clear BK314; clear BK317; clear HO321; clear HB; clear HO_315001; have HO_3 := n0_; have HO_315000 := n1_; have BK309 := n2_; have BK314 := n3_; have BK317 := n4_; have HO321 := n5_; have HB := n6_; have HO324 := n7_; clear n0_ n1_ n2_ n3_ n4_ n5_ n6_ n7_; clear ho hb hg hat; obtain ⟨Ao24, co24, eo24⟩ := Kd.R_slice HO324.out; subst eo24; have hcz25_0 : w23.cell? ⟨gb314, 0, none⟩ = some (.slice (some ad315) t310.length co5) := (blk_cell BK314.out 0).trans rfl; have hcz25_1 : w23.cell? ⟨gb314, 1, none⟩ = some (u315001) := (blk_cell BK314.out 1).trans rfl; have hcz25_2 : w23.cell? ⟨gb314, 2, none⟩ = some (.int .i64 t311) := (blk_cell BK314.out 2).trans rfl; have hfz25_0 := blk_frozen BK314.out 0; have hfz25_1 := blk_frozen BK314.out 1; have hfz25_2 := blk_frozen BK314.out 2))
        go_roundg k1
        case measure => have := HK1.out; omega
        case rel => exact ⟨(wrap64 (x6_1 + 1)), (y322), (.slice Ao24 y322.length co24), (by first | rfl | (simp; done) | (simp [*]; done)), H', ⟨by have := HK1.out; omega⟩, ⟨by (with_reducible repeat (first | apply Zra | apply Zrn | apply Zrd)); exact Kd.R_mono (Kd.R_far (p := ⟨gb314, 1, none⟩) (Kd.R_types HO_3.out BK314.out (by decide)) (fun _ hk => hk.2) (.slice Ao24 y322.length co24)) (fun _ hk => hk.1.2)⟩, ⟨by (with_reducible repeat (first | apply Zra | apply Zrn | apply Zrd)); exact Kd.R_mono (Kd.R_far (p := ⟨gb314, 1, none⟩) (Kd.R_types HO_315000.out BK314.out (by decide)) (fun _ hk => hk.2) (.slice Ao24 y322.length co24)) (fun _ hk => hk.1.2)⟩, ⟨by (with_reducible repeat (first | apply Zra | apply Zrn | apply Zrd)); exact Kd.R_mono (Kd.R_far (p := ⟨gb314, 1, none⟩) (Kd.R_types HO324.out BK314.out (by decide)) (fun _ hk => hk.2) (.slice Ao24 y322.length co24)) (fun _ hk => ⟨hk.1.1, hk.1.2.1⟩)⟩, ⟨by (with_reducible repeat (first | refine Zkn ?_ _ | refine Zkd ?_ | refine Zka ?_ _)); refine blk_far ?_ NB309_314.out _; (with_reducible repeat (first | refine Zkn ?_ _ | refine Zkd ?_ | refine Zka ?_ _)); exact BK309.out⟩, ⟨by (with_reducible repeat (first | refine Zkn ?_ _ | refine Zkd ?_ | refine Zka ?_ _)); refine blk_put (cs := #[.slice (some ad315) t310.length co5, u315001, .int .i64 t311]) ?_ 1 _ rfl; (with_reducible repeat (first | refine Zkn ?_ _ | refine Zkd ?_ | refine Zka ?_ _)); exact BK314.out⟩, ⟨by repeat (first | (with_reducible first | exact HB.out | apply Zba | apply Zbn | apply Zbd | refine below_set ?_ GE309.out | refine below_set ?_ GE314.out | refine below_set ?_ GE317.out) | exact HB.out)⟩⟩
       ·
        rw [if_neg c14] at H
        exact absurd H (by simp)
      ·
       rw [if_neg c12] at H
       exact absurd H (by simp)
     ·
      rw [if_neg c11] at H
      exact absurd H (by simp)
    ·
     rw [if_neg c10] at H
     exact absurd H (by simp)
   ·
    rw [if_neg c9] at H
    have c9b0 : decide (x6_1 < (t310.length : Int)) = false := decide_eq_false c9
    clear c9
    simp only [Option.some.injEq, Prod.mk.injEq] at H
    obtain ⟨rfl, rfl, rfl⟩ := H
    have hnb26 := NB314_309.out
    have hnc26 := NB309_314.out
    have hcz27_0 : wr.cell? ⟨gb314, 0, none⟩ = some (.slice Ao5 t310.length co5) := (blk_cell BK314.out 0).trans rfl
    have hcz27_1 : wr.cell? ⟨gb314, 1, none⟩ = some (u315001) := (blk_cell BK314.out 1).trans rfl
    have hcz27_2 : wr.cell? ⟨gb314, 2, none⟩ = some (.int .i64 t311) := (blk_cell BK314.out 2).trans rfl
    have hfz27_0 := blk_frozen BK314.out 0
    have hfz27_1 := blk_frozen BK314.out 1
    have hfz27_2 := blk_frozen BK314.out 2
    have hcz28_0 : wr.cell? ⟨gb309, 0, none⟩ = some (.slice none 0 0) := (blk_cell BK309.out 0).trans rfl
    have hcz28_1 : wr.cell? ⟨gb309, 1, none⟩ = some (.slice none 0 0) := (blk_cell BK309.out 1).trans rfl
    have hcz28_2 : wr.cell? ⟨gb309, 2, none⟩ = some (.int .i64 0) := (blk_cell BK309.out 2).trans rfl
    have hfz28_0 := blk_frozen BK309.out 0
    have hfz28_1 := blk_frozen BK309.out 1
    have hfz28_2 := blk_frozen BK309.out 2
    obtain ⟨Ao29, co29, eo29⟩ := Kd.R_slice HO_315001.out
    subst eo29
    go_wp2
    refine bodyPost_ret (results_cell_row rfl _ _ gb309 44 #[.slice Ao5 t310.length co5, .slice Ao29 x315001_1.length co29, .int .i64 t311] (0, 0) _ rfl (by (with_reducible repeat (first | refine Zkn ?_ _ | refine Zkd ?_ | refine Zka ?_ _)); refine blk_put (cs := #[.slice Ao5 t310.length co5, .slice Ao29 x315001_1.length co29, .int .i64 0]) ?_ 2 _ rfl; (with_reducible repeat (first | refine Zkn ?_ _ | refine Zkd ?_ | refine Zka ?_ _)); refine blk_put (cs := #[.slice Ao5 t310.length co5, .slice none 0 0, .int .i64 0]) ?_ 1 _ rfl; (with_reducible repeat (first | refine Zkn ?_ _ | refine Zkd ?_ | refine Zka ?_ _)); refine blk_put (cs := #[.slice none 0 0, .slice none 0 0, .int .i64 0]) ?_ 0 _ rfl; (with_reducible repeat (first | refine Zkn ?_ _ | refine Zkd ?_ | refine Zka ?_ _)); exact BK309.out) Try.underlying44 rfl (by kernel_rfl)) rfl ?_
    exact ⟨_, _, by first | rfl | (simp [errW_none, errW_some] <;> rfl) | (simp [*, errW_none, errW_some] <;> rfl), by (with_reducible repeat (first | apply Zra | apply Zrn | apply Zrd)); exact Kd.R_mono (Kd.R_far (p := ⟨gb309, 2, none⟩) (Kd.R_far (p := ⟨gb309, 1, none⟩) (Kd.R_far (p := ⟨gb309, 0, none⟩) (Kd.R_types HO_315000.out BK309.out (by decide)) (fun _ hk => hk.2) (.slice Ao5 t310.length co5)) (fun _ hk => hk.2) (.slice Ao29 x315001_1.length co29)) (fun _ hk => hk.2) (.int .i64 t311)) (fun _ hk => hk.1), by (with_reducible repeat (first | apply Zra | apply Zrn | apply Zrd)); exact Kd.R_mono (Kd.R_far (p := ⟨gb309, 2, none⟩) (Kd.R_far (p := ⟨gb309, 1, none⟩) (Kd.R_far (p := ⟨gb309, 0, none⟩) (Kd.R_types HO_315001.out BK309.out (by decide)) (fun _ hk => hk.2) (.slice Ao5 t310.length co5)) (fun _ hk => hk.2) (.slice Ao29 x315001_1.length co29)) (fun _ hk => hk.2) (.int .i64 t311)) (fun _ hk => hk.1.2), by repeat (first | (with_reducible first | exact HB.out | apply Zba | apply Zbn | apply Zbd | refine below_set ?_ GE309.out | refine below_set ?_ GE314.out) | exact HB.out)⟩
end Go.Proofs.Ythfdjccdelbeeaa.PT
end
section
namespace Go.Proofs.Ythfdjccdelbeeaa.PT
open Go.RowKit Go.Proofs.YthfdjccdelbeeaaW.PrintWords Go.Proofs.YthfdjccdelbeeaaW.PrintLast Go.Proofs.YthfdjccdelbeeaaW.PrintMore
set_option linter.unusedVariables false
set_option linter.unusedSimpArgs false
theorem results_cctt {P : Program} {fn : Func} {p p' u v : Tmp} {ty ty' : TypeId} (h : fn.results = #[.cell p ty, .cell p' ty', .tmp u, .tmp v]) (tmps : Array Value) (w : World) (g g' : Nat) (t t' : TypeId) (cs cs' : Array Value) (fr fr' : Nat × Nat) (d d' : TypeDesc)
  (hp : tmps.getD p undef = .pointer (some ⟨g, 0, none⟩)) (hg : w.heap[g]? = some (.cells cs t fr))
  (hu : P.underlying ty = some d) (hd : (match d with | .struct _ | .array _ _ => true | _ => false) = true) (hi : (P.info? ty).map (·.size) = some cs.size)
  (hp' : tmps.getD p' undef = .pointer (some ⟨g', 0, none⟩)) (hg' : w.heap[g']? = some (.cells cs' t' fr'))
  (hu' : P.underlying ty' = some d') (hd' : (match d' with | .struct _ | .array _ _ => true | _ => false) = true) (hi' : (P.info? ty').map (·.size) = some cs'.size) :
  (results fn tmps).run P w = .ok (.tuple #[.agg cs, .agg cs', tmps.getD u undef, tmps.getD v undef]) w := by
 have h1 : tmps[p]?.getD undef = .pointer (some ⟨g, 0, none⟩) := by simpa using hp
 have h2 : tmps[p']?.getD undef = .pointer (some ⟨g', 0, none⟩) := by simpa using hp'
 simp [results, h, h1, h2, asAddr, run_loadVar_row w g t ty cs fr d hg hu hd hi, run_loadVar_row w g' t' ty' cs' fr' d' hg' hu' hd' hi']
theorem put3 {W : World} {b : Nat} {v0 v1 v2 : Value} {ty : Nat} (h : W.heap[b]? = some (.cells #[v0, v1, v2] ty)) (u0 u1 u2 : Value) :
  (World.setCell (World.setCell (World.setCell W ⟨b, 0, none⟩ u0) ⟨b, 1, none⟩ u1) ⟨b, 2, none⟩ u2).heap[b]? = some (.cells #[u0, u1, u2] ty) ∧ Chg (fun k => k = b) W (World.setCell (World.setCell (World.setCell W ⟨b, 0, none⟩ u0) ⟨b, 1, none⟩ u1) ⟨b, 2, none⟩ u2) := by
 refine ⟨blk_put (blk_put (blk_put h 0 u0 rfl) 1 u1 rfl) 2 u2 rfl, ?_⟩
 exact (((Chg.refl (fun k => k = b) W).set (p := ⟨b, 0, none⟩) (Or.inr rfl) u0).set (p := ⟨b, 1, none⟩) (Or.inr rfl) u1).set (p := ⟨b, 2, none⟩) (Or.inr rfl) u2
theorem row_chg {α : Type} {d : Kd α} {e : Nat} {W W1 : World} {base : Nat} {ok : Nat → Prop} {v : Value} {xs : List α} {g t : Nat} {cs : Array Value} (h : d.R e W base ok v xs) (hg : W.heap[g]? = some (.cells cs t)) (ht : ∀ q, q ∈ e :: d.E → q ≠ t) (hc : Chg (fun k => k = g) W W1) : d.R e W1 base ok v xs :=
 Kd.R_mono (Kd.R_step (Kd.R_types h hg ht) (fun k q hk => hc.block k hk q.2)) (fun k q => q.1)
theorem All_l {w : World} {ok : Nat → Prop} {v : Value} {lots st : Int} {H : List Hd} {L : List S50} (h : SV w ok v lots st H) (hH : H.length = 8) (hf : Few H) (hL : L = H.flatMap (·.off)) : Calls Try.prog 46 #[v] w fun e w' => ∃ v0, e = .returned v0 ∧ Kd.R k50 50 w' w.heap.size (fun _ => True) v0 L ∧ Below w.heap.size w w' := by
 subst hL
 exact All_s h hH hf
theorem CR.far44 {W W1 : World} {base b2 d2 b3 d3 b4 d4 b5 d5 : Nat} {x2 : List Bool} {x3 : List Int} {x4 : List Bool} {x5 : List (List S50)} (h : CR W base b2 d2 b3 d3 b4 d4 b5 d5 x2 x3 x4 x5) {g : Nat} {cs : Array Value} (hg : W.heap[g]? = some (.cells cs 44)) (hc : Chg (fun k => k = g) W W1) : CR W1 base b2 d2 b3 d3 b4 d4 b5 d5 x2 x3 x4 x5 :=
 ⟨Kd.R_mono (Kd.R_step (Kd.R_types h.g2 hg (by decide)) (fun k q hk => hc.block k hk q.2)) (fun k q => q.1), Kd.R_mono (Kd.R_step (Kd.R_types h.g3 hg (by decide)) (fun k q hk => hc.block k hk q.2)) (fun k q => q.1),
  Kd.R_mono (Kd.R_step (Kd.R_types h.g4 hg (by decide)) (fun k q hk => hc.block k hk q.2)) (fun k q => q.1), Kd.S_mono (Kd.S_step (Kd.S_types h.g5 hg (by decide)) (fun k q hk => hc.block k hk q.2)) (fun k q => q.1)⟩
set_option maxHeartbeats 12800000 in
set_option maxRecDepth 100000 in
theorem Close_s {w : World} {ok : Nat → Prop} {v : Value} {lots st : Int} {H : List Hd} {k : Nat} {r1 r2 : List Int} {r3 : Int} (h : SV w ok v lots st H) (hH : H.length = 8) (hf : Few H) (hl1 : 1 ≤ lots) (hl2 : lots ≤ 12) (hs1 : st = 1) (hd : kimberliteref05_Decide.f k (H.flatMap (·.off)) = some (r1, r2, r3)) : Calls Try.prog 63 #[v] w fun e w' => ∃ v' vo v0 v1 : Value, e = .returned (.tuple #[v', .agg #[v0, v1, .int .i64 r3], vo, .int .i64 0]) ∧ SV w' (fun k => ok k ∨ w.heap.size ≤ k) v' lots 2 H ∧ Kd.R k50 50 w' w.heap.size (fun _ => True) vo (H.flatMap (·.off)) ∧ Kd.R (Kd.int .i64) 3 w' w.heap.size (fun _ => True) v0 r1 ∧ Kd.R (Kd.int .i64) 3 w' w.heap.size (fun _ => True) v1 r2 ∧ Below w.heap.size w w' := by
 have hu93 := Try.underlying93
 have hu44 := Try.underlying44
 have HS0 := lhid h
 obtain ⟨L, hL⟩ : ∃ L, L = H.flatMap (·.off) := ⟨_, rfl⟩
 rw [← hL] at hd ⊢
 have HLL := lhid hL
 clear hL
 have HD := lhid hd
 have HA := lhid hs1
 clear hd hs1
 have HFE := lhid hf
 have HH := lhid hH
 have HL1 := lhid hl1
 have HL2 := lhid hl2
 clear hf hH hl1 hl2
 obtain ⟨A2, A3, A4, A5, c2, c3, c4, c5, rfl, hq⟩ := h
 clear hq
 go_enter Try.func63, Try.ntmps63
 have HB_1 := lhid (Below.refl w.heap.size w)
 go_upto_region 1 with (fail)
 have hb := Zba (Below.refl w.heap.size w) (.cells #[.int .i64 lots, .int .i64 st, .slice A2 8 c2, .slice A3 8 c3, .slice A4 8 c4, .slice A5 8 c5] 93)
 have hn := blk_new w (.cells #[.int .i64 lots, .int .i64 st, .slice A2 8 c2, .slice A3 8 c3, .slice A4 8 c4, .slice A5 8 c5] 93)
 have HZ1 := lhid (show (World.alloc w (.cells #[.int .i64 lots, .int .i64 st, .slice A2 8 c2, .slice A3 8 c3, .slice A4 8 c4, .slice A5 8 c5] 93)).heap.size = w.heap.size + 1 from by simp)
 generalize hq : World.alloc w (.cells #[.int .i64 lots, .int .i64 st, .slice A2 8 c2, .slice A3 8 c3, .slice A4 8 c4, .slice A5 8 c5] 93) = w1 at hb hn HZ1 ⊢
 clear hq
 have HB_2 := lhid (below_then HB_1.out HB_1.out.size hb)
 clear HB_1 hb
 have TB_3 := lhid (hn)
 clear hn
 obtain ⟨tb, htb⟩ : ∃ q, q = w.heap.size := ⟨_, rfl⟩
 rw [← htb] at TB_3 ⊢
 have HStb := lhid (show w.heap.size ≤ tb ∧ w1.heap.size = tb + 1 from ⟨by rw [htb]; exact Nat.le_refl _, by rw [htb]; exact HZ1.out⟩)
 clear htb
 have hb := Zba (Below.refl w1.heap.size w1) (.cells #[.int .i64 0, .int .i64 0, .slice none 0 0, .slice none 0 0, .slice none 0 0, .slice none 0 0] 93)
 have hn := blk_new w1 (.cells #[.int .i64 0, .int .i64 0, .slice none 0 0, .slice none 0 0, .slice none 0 0, .slice none 0 0] 93)
 have HZ2 := lhid (show (World.alloc w1 (.cells #[.int .i64 0, .int .i64 0, .slice none 0 0, .slice none 0 0, .slice none 0 0, .slice none 0 0] 93)).heap.size = w1.heap.size + 1 from by simp)
 generalize hq : World.alloc w1 (.cells #[.int .i64 0, .int .i64 0, .slice none 0 0, .slice none 0 0, .slice none 0 0, .slice none 0 0] 93) = w2 at hb hn HZ2 ⊢
 clear hq
 have HB_4 := lhid (below_then HB_2.out HB_2.out.size hb)
 have TB_5 := lhid (blk_below TB_3.out hb)
 clear HB_2 TB_3 hb
 have RB_6 := lhid (hn)
 clear hn
 obtain ⟨rb, hrb⟩ : ∃ q, q = tb + 1 := ⟨_, rfl⟩
 rw [show w1.heap.size = rb by have h1 := HStb.out; omega] at RB_6
 rw [← hrb]
 have HSrb := lhid (show w.heap.size ≤ rb ∧ w2.heap.size = rb + 1 ∧ tb < rb from by have h1 := HStb.out; have h2 := HZ2.out; omega)
 clear hrb
 have hb := Zba (Below.refl w2.heap.size w2) (.cells #[.slice none 0 0, .slice none 0 0, .int .i64 0] 44)
 have hn := blk_new w2 (.cells #[.slice none 0 0, .slice none 0 0, .int .i64 0] 44)
 have HZ3 := lhid (show (World.alloc w2 (.cells #[.slice none 0 0, .slice none 0 0, .int .i64 0] 44)).heap.size = w2.heap.size + 1 from by simp)
 generalize hq : World.alloc w2 (.cells #[.slice none 0 0, .slice none 0 0, .int .i64 0] 44) = w3 at hb hn HZ3 ⊢
 clear hq
 have HB_7 := lhid (below_then HB_4.out HB_4.out.size hb)
 have TB_8 := lhid (blk_below TB_5.out hb)
 have RB_9 := lhid (blk_below RB_6.out hb)
 clear HB_4 TB_5 RB_6 hb
 have CB_10 := lhid (hn)
 clear hn
 obtain ⟨cb, hcb⟩ : ∃ q, q = rb + 1 := ⟨_, rfl⟩
 rw [show w2.heap.size = cb by have h1 := HSrb.out; omega] at CB_10
 rw [← hcb]
 have HScb := lhid (show w.heap.size ≤ cb ∧ w3.heap.size = cb + 1 ∧ rb < cb from by have h1 := HSrb.out; have h2 := HZ3.out; omega)
 clear hcb
 have t1 := (blk_cell TB_8.out 1).trans rfl
 have d : (st != 1) = false := bne_eq_false_iff_eq.2 HA.out
 go_upto_region 3 with (fail)
 try any_goals (exfalso; omega)
 have HSNOW := lhid (show rb + 1 ≤ w3.heap.size from by have h1 := HScb.out; omega)
 obtain ⟨n0, n1, n2, n3, n4, n5⟩ := six TB_8.out
 go_wp2_with fail
 try any_goals (exfalso; omega)
 with_reducible refine (Copy_r w3 ok _ lots st H (HS0.out.next HB_7.out) HH.out HFE.out HL1.out HL2.out).mono ?_
 clear n0 n1 n2 n3 n4 n5
 rintro e w15 ⟨b2, d2, b3, d3, b4, d4, b5, d5, rfl, hcr, hb⟩
 have HCR := lhid (hcr.lower (show w.heap.size ≤ w3.heap.size from HB_7.out.size))
 have HLOW := lhid (show rb < b2 ∧ rb < b3 ∧ rb < b4 ∧ rb < b5 from by have h1 := hcr.lt.1; have h2 := HSrb.out; have h3 := HSNOW.out; omega)
 have HLOW2 := lhid (show w3.heap.size ≤ w15.heap.size from hb.size)
 clear hcr
 have HB_11 := lhid (below_then HB_7.out HB_7.out.size hb)
 have TB_12 := lhid (blk_below TB_8.out hb)
 have RB_13 := lhid (blk_below RB_9.out hb)
 have CBX_14 := lhid (blk_below CB_10.out hb)
 clear HB_7 TB_8 RB_9 CB_10 hb
 have CROLD := lhid HCR.out
 go_upto_region 4 with (fail)
 have hb := Zba (Below.refl w15.heap.size w15) (.cells #[.int .i64 lots, .int .i64 st, .slice (some ⟨b2, 0, none⟩) 8 d2, .slice (some ⟨b3, 0, none⟩) 8 d3, .slice (some ⟨b4, 0, none⟩) 8 d4, .slice (some ⟨b5, 0, none⟩) 8 d5] 93)
 have hn := blk_new w15 (.cells #[.int .i64 lots, .int .i64 st, .slice (some ⟨b2, 0, none⟩) 8 d2, .slice (some ⟨b3, 0, none⟩) 8 d3, .slice (some ⟨b4, 0, none⟩) 8 d4, .slice (some ⟨b5, 0, none⟩) 8 d5] 93)
 have HZ16 := lhid (show (World.alloc w15 (.cells #[.int .i64 lots, .int .i64 st, .slice (some ⟨b2, 0, none⟩) 8 d2, .slice (some ⟨b3, 0, none⟩) 8 d3, .slice (some ⟨b4, 0, none⟩) 8 d4, .slice (some ⟨b5, 0, none⟩) 8 d5] 93)).heap.size = w15.heap.size + 1 from by simp)
 generalize hq : World.alloc w15 (.cells #[.int .i64 lots, .int .i64 st, .slice (some ⟨b2, 0, none⟩) 8 d2, .slice (some ⟨b3, 0, none⟩) 8 d3, .slice (some ⟨b4, 0, none⟩) 8 d4, .slice (some ⟨b5, 0, none⟩) 8 d5] 93) = w16 at hb hn HZ16 ⊢
 clear hq
 have HB_15 := lhid (below_then HB_11.out HB_11.out.size hb)
 have TB_16 := lhid (blk_below TB_12.out hb)
 have RB_17 := lhid (blk_below RB_13.out hb)
 have CBX_18 := lhid (blk_below CBX_14.out hb)
 have CR_19 := lhid (HCR.out.next hb)
 clear HB_11 TB_12 RB_13 CBX_14 HCR hb
 have NB_20 := lhid (hn)
 clear hn
 obtain ⟨nb, hnb⟩ : ∃ q, q = w15.heap.size := ⟨_, rfl⟩
 rw [← hnb] at NB_20 ⊢
 have HSnb := lhid (show w.heap.size ≤ nb ∧ rb < nb ∧ b2 < nb ∧ b3 < nb ∧ b4 < nb ∧ b5 < nb from by have h1 := (CROLD.out).lt; have h2 := HSrb.out; have h3 := HLOW.out; have h4 := h1.2; rw [hnb]; omega)
 have HSNB := lhid (show w3.heap.size ≤ nb from by rw [hnb]; exact HLOW2.out)
 clear hnb CROLD HLOW2
 have n1 := (blk_cell NB_20.out 1).trans rfl
 have hfz := fun o => blk_frozen NB_20.out o
 go_upto_region 5 with (fail)
 try any_goals (exfalso; omega)
 clear n1 hfz
 have HSC := lhid (show cb < nb ∧ rb < cb from by have h1 := HScb.out; have h2 := HSNB.out; omega)
 have CBa := lhid (blk_far CBX_18.out (p := ⟨nb, 1, none⟩) (by have h1 := HSC.out; show cb ≠ nb; omega) (.int .i64 2))
 clear CBX_18
 have TBa := lhid (blk_far TB_16.out (p := ⟨nb, 1, none⟩) (by have h1 := HSrb.out; have h2 := HSnb.out; have h3 := HLOW.out; show tb ≠ nb; omega) (.int .i64 2))
 have RBa := lhid (blk_far RB_17.out (p := ⟨nb, 1, none⟩) (by have h1 := HSrb.out; have h2 := HSnb.out; have h3 := HLOW.out; show rb ≠ nb; omega) (.int .i64 2))
 have NBa := lhid (show _ = some (Obj.cells #[.int .i64 lots, .int .i64 2, .slice (some ⟨b2, 0, none⟩) 8 d2, .slice (some ⟨b3, 0, none⟩) 8 d3, .slice (some ⟨b4, 0, none⟩) 8 d4, .slice (some ⟨b5, 0, none⟩) 8 d5] 93) from blk_put NB_20.out 1 _ rfl)
 have CRa := lhid (CR_19.out.set93 NB_20.out 1 (.int .i64 2))
 have HBa := lhid (HB_15.out.setCell (p := ⟨nb, 1, none⟩) (by have h1 := HSrb.out; have h2 := HSnb.out; have h3 := HLOW.out; show w.heap.size ≤ nb; omega) (.int .i64 2))
 clear TB_16 RB_17 NB_20 CR_19 HB_15
 generalize World.setCell w16 ⟨nb, 1, none⟩ (.int .i64 2) = wza at CBa TBa RBa NBa CRa HBa ⊢
 have hb := Zbd (Below.refl wza.heap.size wza)
 have HB_21 := lhid (below_then HBa.out HBa.out.size hb)
 have TB_22 := lhid (blk_below TBa.out hb)
 have RB_23 := lhid (blk_below RBa.out hb)
 have CR_24 := lhid (CRa.out.next hb)
 have NB_25 := lhid (blk_below NBa.out hb)
 have CB_26 := lhid (blk_below CBa.out hb)
 clear HBa TBa RBa CRa NBa CBa hb
 refine start_ (n := 10) (S := fun w' => w'.cell? ⟨tb, 0, none⟩ = some (.int .i64 lots) ∧ w'.cell? ⟨tb, 1, none⟩ = some (.int .i64 st) ∧ w'.cell? ⟨tb, 2, none⟩ = some (.slice A2 8 c2) ∧ w'.cell? ⟨tb, 3, none⟩ = some (.slice A3 8 c3) ∧ w'.cell? ⟨tb, 4, none⟩ = some (.slice A4 8 c4) ∧ w'.cell? ⟨tb, 5, none⟩ = some (.slice A5 8 c5) ∧ w'.cell? ⟨nb, 0, none⟩ = some (.int .i64 lots) ∧ w'.cell? ⟨nb, 1, none⟩ = some (.int .i64 2) ∧ w'.cell? ⟨nb, 2, none⟩ = some (.slice (some ⟨b2, 0, none⟩) 8 d2) ∧ w'.cell? ⟨nb, 3, none⟩ = some (.slice (some ⟨b3, 0, none⟩) 8 d3) ∧ w'.cell? ⟨nb, 4, none⟩ = some (.slice (some ⟨b4, 0, none⟩) 8 d4) ∧ w'.cell? ⟨nb, 5, none⟩ = some (.slice (some ⟨b5, 0, none⟩) 8 d5)) (ds := [6, 7]) (lsb 10 0) (by kernel_rfl) rfl (by kernel_rfl) ⟨(six TB_22.out).1, (six TB_22.out).2.1, (six TB_22.out).2.2.1, (six TB_22.out).2.2.2.1, (six TB_22.out).2.2.2.2.1, (six TB_22.out).2.2.2.2.2, (six NB_25.out).1, (six NB_25.out).2.1, (six NB_25.out).2.2.1, (six NB_25.out).2.2.2.1, (six NB_25.out).2.2.2.2.1, (six NB_25.out).2.2.2.2.2⟩ (fun hHeld => ?_)
 generalize wza.drew = w17 at HB_21 TB_22 RB_23 CR_24 NB_25 CB_26 hHeld ⊢
 refine tk 0 (some 15) 10 1 rfl rfl hHeld (v := ?_) (a' := ?_) ?_ ?_ ?_; rotate_left; (rintro w' ⟨s0, s1, s2, s3, s4, s5, s6, s7, s8, s9, s10, s11⟩; go_simp; with_reducible rfl); rotate_left; (simp only [Act.put, pS]; rfl)
 refine tk 1 (some 16) 10 3 rfl rfl hHeld (v := ?_) (a' := ?_) ?_ ?_ ?_; rotate_left; (rintro w' ⟨s0, s1, s2, s3, s4, s5, s6, s7, s8, s9, s10, s11⟩; go_simp; with_reducible rfl); rotate_left; (simp only [Act.put, pS]; rfl)
 refine tk 4 (some 19) 10 19 rfl rfl hHeld (v := ?_) (a' := ?_) ?_ ?_ ?_; rotate_left; (rintro w' ⟨s0, s1, s2, s3, s4, s5, s6, s7, s8, s9, s10, s11⟩; go_simp; with_reducible rfl); rotate_left; (simp only [Act.put, pS]; rfl)
 refine one_ (i := 2) (N := some 17) (lsb 10 23) rfl rfl (by kernel_rfl) (by decide) (fun K hK => ?_)
 refine goes_ Try.func46 (by kernel_rfl) rfl #[.agg #[.int .i64 lots, .int .i64 st, .slice A2 8 c2, .slice A3 8 c3, .slice A4 8 c4, .slice A5 8 c5]] (by rfl) rfl rfl (by (try simp only [List.map_toArray, List.map_cons, List.map_nil]); first | done | rfl) ?_
 with_reducible refine (All_l (HS0.out.next HB_21.out) HH.out HFE.out HLL.out).mono ?_
 rintro e w18 ⟨v0, rfl, hO, hb⟩
 refine ⟨_, rfl, ?_⟩
 have HO := lhid (Kd.R_lower hO (show w.heap.size ≤ w17.heap.size from HB_21.out.size))
 obtain ⟨A0, c0, rfl⟩ := Kd.R_slice hO
 clear hO
 have HB_27 := lhid (below_then HB_21.out HB_21.out.size hb)
 have TB_28 := lhid (blk_below TB_22.out hb)
 have RB_29 := lhid (blk_below RB_23.out hb)
 have CR_30 := lhid (CR_24.out.next hb)
 have NB_31 := lhid (blk_below NB_25.out hb)
 have CB_32 := lhid (blk_below CB_26.out hb)
 clear HB_21 TB_22 RB_23 CR_24 NB_25 CB_26 hb
 refine hK.out _ _ ⟨(six TB_28.out).1, (six TB_28.out).2.1, (six TB_28.out).2.2.1, (six TB_28.out).2.2.2.1, (six TB_28.out).2.2.2.2.1, (six TB_28.out).2.2.2.2.2, (six NB_31.out).1, (six NB_31.out).2.1, (six NB_31.out).2.2.1, (six NB_31.out).2.2.2.1, (six NB_31.out).2.2.2.2.1, (six NB_31.out).2.2.2.2.2⟩ (fun hHeld => ?_)
 clear hK K
 refine norm_ (a' := ?_) ?_ ?_
 rotate_left
 ·
  show Act.put _ (some 17) _ = _
  simp only [Act.put, pS]
  rfl
 refine one_ (i := 3) (N := some 18) (lsb 10 31) rfl rfl (by kernel_rfl) (by decide) (fun K hK => ?_)
 refine goes_ Try.func29 (by kernel_rfl) rfl #[.slice A0 L.length c0] (by rfl) rfl rfl (by (try simp only [List.map_toArray, List.map_cons, List.map_nil]); first | done | rfl) ?_
 with_reducible refine (kimberliteref05_Decide.calls k A0 c0 L r1 r2 r3 w18 (R_C HO.out) (Kd.R_reads' HO.out).2.1 HD.out).mono ?_
 rintro e w19 ⟨v1, v2, rfl, hX, hY, hb⟩
 refine ⟨_, rfl, ?_⟩
 have HX := lhid (Kd.R_lower hX (show w.heap.size ≤ w18.heap.size from HB_27.out.size))
 have HY := lhid (Kd.R_lower hY (show w.heap.size ≤ w18.heap.size from HB_27.out.size))
 obtain ⟨X0, x0, rfl⟩ := Kd.R_slice hX
 obtain ⟨Y0, y0, rfl⟩ := Kd.R_slice hY
 clear hX hY
 have HB_33 := lhid (below_then HB_27.out HB_27.out.size hb)
 have TB_34 := lhid (blk_below TB_28.out hb)
 have RB_35 := lhid (blk_below RB_29.out hb)
 have CR_36 := lhid (CR_30.out.next hb)
 have NB_37 := lhid (blk_below NB_31.out hb)
 have CB_38 := lhid (blk_below CB_32.out hb)
 have O_39 := lhid (Kd.R_below HO.out hb)
 clear HB_27 TB_28 RB_29 CR_30 NB_31 CB_32 HO hb
 refine hK.out _ _ ⟨(six TB_34.out).1, (six TB_34.out).2.1, (six TB_34.out).2.2.1, (six TB_34.out).2.2.2.1, (six TB_34.out).2.2.2.2.1, (six TB_34.out).2.2.2.2.2, (six NB_37.out).1, (six NB_37.out).2.1, (six NB_37.out).2.2.1, (six NB_37.out).2.2.2.1, (six NB_37.out).2.2.2.2.1, (six NB_37.out).2.2.2.2.2⟩ (fun hHeld => ?_)
 clear hK K
 refine norm_ (a' := ?_) ?_ ?_
 rotate_left
 ·
  show Act.put _ (some 18) _ = _
  simp only [Act.put, pS]
  rfl
 refine one_ (i := 5) (N := some 20) (lsb 10 63) rfl rfl (by kernel_rfl) (by decide) (fun K hK => ?_)
 refine goes_ Try.func46 (by kernel_rfl) rfl #[.agg #[.int .i64 lots, .int .i64 st, .slice A2 8 c2, .slice A3 8 c3, .slice A4 8 c4, .slice A5 8 c5]] (by rfl) rfl rfl (by (try simp only [List.map_toArray, List.map_cons, List.map_nil]); first | done | rfl) ?_
 with_reducible refine (All_l (HS0.out.next HB_33.out) HH.out HFE.out HLL.out).mono ?_
 rintro e w20 ⟨v0, rfl, hO, hb⟩
 refine ⟨_, rfl, ?_⟩
 have HO2 := lhid (Kd.R_lower hO (show w.heap.size ≤ w19.heap.size from HB_33.out.size))
 obtain ⟨Z0, z0, rfl⟩ := Kd.R_slice hO
 clear hO
 have HB_40 := lhid (below_then HB_33.out HB_33.out.size hb)
 have TB_41 := lhid (blk_below TB_34.out hb)
 have RB_42 := lhid (blk_below RB_35.out hb)
 have CR_43 := lhid (CR_36.out.next hb)
 have NB_44 := lhid (blk_below NB_37.out hb)
 have CB_45 := lhid (blk_below CB_38.out hb)
 have O_46 := lhid (Kd.R_below O_39.out hb)
 have X_47 := lhid (Kd.R_below HX.out hb)
 have Y_48 := lhid (Kd.R_below HY.out hb)
 clear HB_33 TB_34 RB_35 CR_36 NB_37 CB_38 O_39 HX HY hb
 refine hK.out _ _ ⟨(six TB_41.out).1, (six TB_41.out).2.1, (six TB_41.out).2.2.1, (six TB_41.out).2.2.2.1, (six TB_41.out).2.2.2.2.1, (six TB_41.out).2.2.2.2.2, (six NB_44.out).1, (six NB_44.out).2.1, (six NB_44.out).2.2.1, (six NB_44.out).2.2.2.1, (six NB_44.out).2.2.2.2.1, (six NB_44.out).2.2.2.2.2⟩ (fun hHeld => ?_)
 clear hK K
 refine norm_ (a' := ?_) ?_ ?_
 rotate_left
 ·
  show Act.put _ (some 20) _ = _
  simp only [Act.put, pS]
  rfl
 refine last_ (i := 6) (N := none) (lsb 10 127) rfl rfl (by kernel_rfl) (by decide) (fun K hK => ?_)
 obtain ⟨q0, q1, q2, q3, q4, q5⟩ := six RB_42.out
 have hfz := fun o => blk_frozen RB_42.out o
 refine skip_ (w1 := ?_) (by rfl) rfl ?_ ?_
 rotate_left
 ·
  go_simp
  rfl
 clear q0 q1 q2 q3 q4 q5 hfz
 have hp := put6 RB_42.out (.int .i64 lots) (.int .i64 2) (.slice (some ⟨b2, 0, none⟩) 8 d2) (.slice (some ⟨b3, 0, none⟩) 8 d3) (.slice (some ⟨b4, 0, none⟩) 8 d4) (.slice (some ⟨b5, 0, none⟩) 8 d5)
 generalize World.setCell (World.setCell (World.setCell (World.setCell (World.setCell (World.setCell (w20) ⟨rb, 0, none⟩ (.int .i64 lots)) ⟨rb, 1, none⟩ (.int .i64 2)) ⟨rb, 2, none⟩ (.slice (some ⟨b2, 0, none⟩) 8 d2)) ⟨rb, 3, none⟩ (.slice (some ⟨b3, 0, none⟩) 8 d3)) ⟨rb, 4, none⟩ (.slice (some ⟨b4, 0, none⟩) 8 d4)) ⟨rb, 5, none⟩ (.slice (some ⟨b5, 0, none⟩) 8 d5) = w60 at hp ⊢
 obtain ⟨hp1, hp2⟩ := hp
 have HCB6 := lhid (hp2.blk CB_45.out (fun q => by have h1 := HSC.out; have h2 : cb = rb := q; omega))
 have HRB6 := lhid hp1
 clear hp1
 have HP2 := lhid hp2
 clear hp2
 refine hK.out _ _ ?_
 clear hK K
 refine last_ (i := 7) (N := none) (lsb 10 255) rfl rfl (by kernel_rfl) (by decide) (fun K hK => ?_)
 obtain ⟨q0, q1, q2⟩ := three HCB6.out
 have hfz := fun o => blk_frozen HCB6.out o
 refine skip_ (w1 := ?_) (by rfl) rfl ?_ ?_
 rotate_left
 ·
  go_simp
  rfl
 clear q0 q1 q2 hfz
 have hp := put3 HCB6.out (.slice X0 r1.length x0) (.slice Y0 r2.length y0) (.int .i64 r3)
 generalize World.setCell (World.setCell (World.setCell (w60) ⟨cb, 0, none⟩ (.slice X0 r1.length x0)) ⟨cb, 1, none⟩ (.slice Y0 r2.length y0)) ⟨cb, 2, none⟩ (.int .i64 r3) = w70 at hp ⊢
 obtain ⟨hp1, hp3⟩ := hp
 refine hK.out _ _ ?_
 clear hK K
 refine pu 8 (some 4) 10 511 rfl rfl (v := ?_) (a' := ?_) ?_ ?_ ?_; rotate_left; (intro w'; go_simp; with_reducible rfl); rotate_left; (simp only [Act.put, pS]; rfl)
 refine pu 9 (some 5) 10 1023 rfl rfl (v := ?_) (a' := ?_) ?_ ?_ ?_; rotate_left; (intro w'; go_simp; with_reducible rfl); rotate_left; (simp only [Act.put, pS]; rfl)
 refine done_ (by kernel_rfl) ?_
 
 go_wp2_with fail
 have hrb := hp3.blk HRB6.out (fun q => by have h1 := HSC.out; have h2 : rb = cb := q; omega)
 refine bodyPost_ret (results_cctt rfl _ _ rb cb 93 44 #[.int .i64 lots, .int .i64 2, .slice (some ⟨b2, 0, none⟩) 8 d2, .slice (some ⟨b3, 0, none⟩) 8 d3, .slice (some ⟨b4, 0, none⟩) 8 d4, .slice (some ⟨b5, 0, none⟩) 8 d5] #[(.slice X0 r1.length x0), (.slice Y0 r2.length y0), (.int .i64 r3)] (0, 0) (0, 0) _ _ rfl hrb Try.underlying93 rfl (by kernel_rfl) rfl hp1 Try.underlying44 rfl (by kernel_rfl)) rfl ?_
 exact ⟨_, _, _, _, rfl, (((CR_43.out.far RB_42.out HP2.out).far44 HCB6.out hp3).SV rfl rfl rfl rfl).mono (fun k q => Or.inr q), row_chg (row_chg HO2.out RB_42.out (by decide) HP2.out) HCB6.out (by decide) hp3, Kd.R_mono (row_chg (row_chg X_47.out RB_42.out (by decide) HP2.out) HCB6.out (by decide) hp3) (fun _ _ => trivial), Kd.R_mono (row_chg (row_chg Y_48.out RB_42.out (by decide) HP2.out) HCB6.out (by decide) hp3) (fun _ _ => trivial), (HB_40.out.trans (HP2.out.below HB_40.out.size (fun k q => by have h1 := HSrb.out; have h2 : k = rb := q; omega))).trans (hp3.below (Nat.le_trans HB_40.out.size HP2.out.size) (fun k q => by have h1 := HScb.out; have h2 : k = cb := q; omega))⟩
set_option maxHeartbeats 12800000 in
set_option maxRecDepth 100000 in
theorem Close_n {w : World} {ok : Nat → Prop} {v : Value} {lots st : Int} {H : List Hd} (h : SV w ok v lots st H) (hH : H.length = 8) (hf : Few H) (hl1 : 1 ≤ lots) (hl2 : lots ≤ 12) (hs1 : st ≠ 1) : Calls Try.prog 63 #[v] w fun e w' => ∃ v' : Value, e = .returned (.tuple #[v', .agg #[.slice none 0 0, .slice none 0 0, .int .i64 0], .slice none 0 0, .int .i64 9]) ∧ SV w' (fun k => ok k ∨ w.heap.size ≤ k) v' lots st H ∧ Below w.heap.size w w' := by
 have hu93 := Try.underlying93
 have hu44 := Try.underlying44
 have HS0 := lhid h
 have HA := lhid hs1
 clear hs1
 have HFE := lhid hf
 have HH := lhid hH
 have HL1 := lhid hl1
 have HL2 := lhid hl2
 clear hf hH hl1 hl2
 obtain ⟨A2, A3, A4, A5, c2, c3, c4, c5, rfl, hq⟩ := h
 clear hq
 go_enter Try.func63, Try.ntmps63
 have HB_1 := lhid (Below.refl w.heap.size w)
 go_upto_region 1 with (fail)
 have hb := Zba (Below.refl w.heap.size w) (.cells #[.int .i64 lots, .int .i64 st, .slice A2 8 c2, .slice A3 8 c3, .slice A4 8 c4, .slice A5 8 c5] 93)
 have hn := blk_new w (.cells #[.int .i64 lots, .int .i64 st, .slice A2 8 c2, .slice A3 8 c3, .slice A4 8 c4, .slice A5 8 c5] 93)
 have HZ1 := lhid (show (World.alloc w (.cells #[.int .i64 lots, .int .i64 st, .slice A2 8 c2, .slice A3 8 c3, .slice A4 8 c4, .slice A5 8 c5] 93)).heap.size = w.heap.size + 1 from by simp)
 generalize hq : World.alloc w (.cells #[.int .i64 lots, .int .i64 st, .slice A2 8 c2, .slice A3 8 c3, .slice A4 8 c4, .slice A5 8 c5] 93) = w1 at hb hn HZ1 ⊢
 clear hq
 have HB_2 := lhid (below_then HB_1.out HB_1.out.size hb)
 clear HB_1 hb
 have TB_3 := lhid (hn)
 clear hn
 obtain ⟨tb, htb⟩ : ∃ q, q = w.heap.size := ⟨_, rfl⟩
 rw [← htb] at TB_3 ⊢
 have HStb := lhid (show w.heap.size ≤ tb ∧ w1.heap.size = tb + 1 from ⟨by rw [htb]; exact Nat.le_refl _, by rw [htb]; exact HZ1.out⟩)
 clear htb
 have hb := Zba (Below.refl w1.heap.size w1) (.cells #[.int .i64 0, .int .i64 0, .slice none 0 0, .slice none 0 0, .slice none 0 0, .slice none 0 0] 93)
 have hn := blk_new w1 (.cells #[.int .i64 0, .int .i64 0, .slice none 0 0, .slice none 0 0, .slice none 0 0, .slice none 0 0] 93)
 have HZ2 := lhid (show (World.alloc w1 (.cells #[.int .i64 0, .int .i64 0, .slice none 0 0, .slice none 0 0, .slice none 0 0, .slice none 0 0] 93)).heap.size = w1.heap.size + 1 from by simp)
 generalize hq : World.alloc w1 (.cells #[.int .i64 0, .int .i64 0, .slice none 0 0, .slice none 0 0, .slice none 0 0, .slice none 0 0] 93) = w2 at hb hn HZ2 ⊢
 clear hq
 have HB_4 := lhid (below_then HB_2.out HB_2.out.size hb)
 have TB_5 := lhid (blk_below TB_3.out hb)
 clear HB_2 TB_3 hb
 have RB_6 := lhid (hn)
 clear hn
 obtain ⟨rb, hrb⟩ : ∃ q, q = tb + 1 := ⟨_, rfl⟩
 rw [show w1.heap.size = rb by have h1 := HStb.out; omega] at RB_6
 rw [← hrb]
 have HSrb := lhid (show w.heap.size ≤ rb ∧ w2.heap.size = rb + 1 ∧ tb < rb from by have h1 := HStb.out; have h2 := HZ2.out; omega)
 clear hrb
 have hb := Zba (Below.refl w2.heap.size w2) (.cells #[.slice none 0 0, .slice none 0 0, .int .i64 0] 44)
 have hn := blk_new w2 (.cells #[.slice none 0 0, .slice none 0 0, .int .i64 0] 44)
 have HZ3 := lhid (show (World.alloc w2 (.cells #[.slice none 0 0, .slice none 0 0, .int .i64 0] 44)).heap.size = w2.heap.size + 1 from by simp)
 generalize hq : World.alloc w2 (.cells #[.slice none 0 0, .slice none 0 0, .int .i64 0] 44) = w3 at hb hn HZ3 ⊢
 clear hq
 have HB_7 := lhid (below_then HB_4.out HB_4.out.size hb)
 have TB_8 := lhid (blk_below TB_5.out hb)
 have RB_9 := lhid (blk_below RB_6.out hb)
 clear HB_4 TB_5 RB_6 hb
 have CB_10 := lhid (hn)
 clear hn
 obtain ⟨cb, hcb⟩ : ∃ q, q = rb + 1 := ⟨_, rfl⟩
 rw [show w2.heap.size = cb by have h1 := HSrb.out; omega] at CB_10
 rw [← hcb]
 have HScb := lhid (show w.heap.size ≤ cb ∧ w3.heap.size = cb + 1 ∧ rb < cb from by have h1 := HSrb.out; have h2 := HZ3.out; omega)
 clear hcb
 have t1 := (blk_cell TB_8.out 1).trans rfl
 have d : (st != 1) = true := bne_iff_ne.2 HA.out
 obtain ⟨n0, n1, n2, n3, n4, n5⟩ := six TB_8.out
 obtain ⟨r0, r1, r2, r3, r4, r5⟩ := six RB_9.out
 obtain ⟨q0, q1, q2⟩ := three CB_10.out
 have hfz := fun o => blk_frozen RB_9.out o
 have hfy := fun o => blk_frozen CB_10.out o
 have hne1 : rb ≠ cb := by have h1 := HScb.out; omega
 have hne2 : cb ≠ rb := by have h1 := HScb.out; omega
 go_wp2_with fail
 try any_goals (exfalso; omega)
 have hp := put6 RB_9.out (.int .i64 lots) (.int .i64 st) (.slice A2 8 c2) (.slice A3 8 c3) (.slice A4 8 c4) (.slice A5 8 c5)
 obtain ⟨W6, hw6⟩ : ∃ W : World, W = World.setCell (World.setCell (World.setCell (World.setCell (World.setCell (World.setCell (w3) ⟨rb, 0, none⟩ (.int .i64 lots)) ⟨rb, 1, none⟩ (.int .i64 st)) ⟨rb, 2, none⟩ (.slice A2 8 c2)) ⟨rb, 3, none⟩ (.slice A3 8 c3)) ⟨rb, 4, none⟩ (.slice A4 8 c4)) ⟨rb, 5, none⟩ (.slice A5 8 c5) := ⟨_, rfl⟩
 rw [← hw6] at hp ⊢
 clear hw6
 obtain ⟨hp1, hp2⟩ := hp
 have hcb := hp2.blk CB_10.out (fun q => by have h1 := HScb.out; have h2 : cb = rb := q; omega)
 have hp := put3 hcb (.slice none 0 0) (.slice none 0 0) (.int .i64 0)
 generalize World.setCell (World.setCell (World.setCell (W6) ⟨cb, 0, none⟩ (.slice none 0 0)) ⟨cb, 1, none⟩ (.slice none 0 0)) ⟨cb, 2, none⟩ (.int .i64 0) = wf at hp ⊢
 obtain ⟨hp3, hp4⟩ := hp
 have hrb := hp4.blk hp1 (fun q => by have h1 := HScb.out; have h2 : rb = cb := q; omega)
 have HBF := lhid ((HB_7.out.trans (hp2.below HB_7.out.size (fun k q => by have h1 := HSrb.out; have h2 : k = rb := q; omega))).trans (hp4.below (Nat.le_trans HB_7.out.size hp2.size) (fun k q => by have h1 := HScb.out; have h2 : k = cb := q; omega)))
 refine bodyPost_ret (results_cctt rfl _ _ rb cb 93 44 #[(.int .i64 lots), (.int .i64 st), (.slice A2 8 c2), (.slice A3 8 c3), (.slice A4 8 c4), (.slice A5 8 c5)] #[(.slice none 0 0), (.slice none 0 0), (.int .i64 0)] (0, 0) (0, 0) _ _ rfl hrb Try.underlying93 rfl (by kernel_rfl) rfl hp3 Try.underlying44 rfl (by kernel_rfl)) rfl ?_
 exact ⟨_, rfl, (HS0.out.next HBF.out).mono (fun k q => Or.inl q), HBF.out⟩
end Go.Proofs.Ythfdjccdelbeeaa.PT
end
section
namespace Go.Proofs.Ythfdjccdelbeeaa.PT
open Go.RowKit Go.Proofs.YthfdjccdelbeeaaW.PrintWords Go.Proofs.YthfdjccdelbeeaaW.PrintLast Go.Proofs.YthfdjccdelbeeaaW.PrintMore
attribute [local go_sem] max2_int min2_int max_two min_two max_three min_three max_four min_four   -- for this text's walks alone
set_option linter.unusedVariables false
set_option linter.unusedSimpArgs false
def kimberliteref05_mixed.l0 : Nat → Int → Int → Int → Option (Int)
 | 0, _, _, _ => none
 | k + 1, x0, x1, x5 => if x5 < 8 then (kimberliteref05_mixed.l0 k (IntKind.u64.wrap ((Go.bits .xor .u64 x0 (Int.tmod x1 256)) * 1099511628211)) (IntKind.u64.wrap (Int.tdiv x1 256)) (wrap64 (x5 + 1))) else (some x0)
def kimberliteref05_mixed.f (k : Nat) (a0 : Int) (a1 : Int) : Option (Int) := kimberliteref05_mixed.l0 k a0 a1 0
theorem kimberliteref05_mixed.mono_l : ∀ k, (∀ y0 y1 y2, LeO (kimberliteref05_mixed.l0 k y0 y1 y2) (kimberliteref05_mixed.l0 (k + 1) y0 y1 y2))
 | 0 => fun _ _ _ r h => by simp [kimberliteref05_mixed.l0] at h
 | k + 1 => by
  have ih0 := kimberliteref05_mixed.mono_l k
  ·
   intro y0 y1 y2
   unfold kimberliteref05_mixed.l0
   repeat' first
   | (with_reducible exact ih0 _ _ _)
   | (with_reducible exact LeO.refl _)
   | (with_reducible exact LeO.none _)
   | (with_reducible refine LeO.ite ?_ ?_)
   | (with_reducible refine LeO.bind ?_ (fun _ => ?_))
   | exact ih0 _ _ _
   | exact LeO.none _
   | refine LeO.ite ?_ ?_
   | refine LeO.bind ?_ (fun _ => ?_)
theorem kimberliteref05_mixed.mono : ∀ a0 a1 k, LeO (kimberliteref05_mixed.f k a0 a1) (kimberliteref05_mixed.f (k + 1) a0 a1) := by
 intro a0 a1 k
 have ih0 := kimberliteref05_mixed.mono_l k
 unfold kimberliteref05_mixed.f
 repeat' first
   | (with_reducible exact ih0 _ _ _)
   | (with_reducible exact LeO.refl _)
   | (with_reducible exact LeO.none _)
   | (with_reducible refine LeO.ite ?_ ?_)
   | (with_reducible refine LeO.bind ?_ (fun _ => ?_))
   | exact ih0 _ _ _
   | exact LeO.none _
   | refine LeO.ite ?_ ?_
   | refine LeO.bind ?_ (fun _ => ?_)
set_option maxHeartbeats 8000000 in
set_option maxRecDepth 100000 in
theorem kimberliteref05_mixed.calls (k : Nat) (a0 : Int) (a1 : Int) (r : Int) (w : World) (h : kimberliteref05_mixed.f k a0 a1 = some r) :
  Calls Try.prog 52 #[.int .u64 a0, .int .u64 a1] w fun e w' => e = .returned (.int .u64 r) ∧ Drawn0 w w' := by
 have H : (kimberliteref05_mixed.l0 k a0 a1 0) = some r := h
 clear h
 have H' := Aside0.mk H
 clear H
 go_enter Try.func52, Try.ntmps52
 go_wp2
 go_loopg [0, 1, 5] k (fun kq v0 v1 v5 w' => ∃ (x0_1 : Int) (x1_1 : Int) (x5_1 : Int), v0 = .int .u64 x0_1 ∧ v1 = .int .u64 x1_1 ∧ v5 = .int .i64 x5_1 ∧ Aside0 (kimberliteref05_mixed.l0 kq x0_1 x1_1 x5_1 = some r) ∧ Aside0 (kq ≤ k) ∧ Drawn0 w w')
 case atStart => exact ⟨(a0), (a1), (0), (by first | rfl | (simp; done) | (simp [*]; done)), (by first | rfl | (simp; done) | (simp [*]; done)), (by first | rfl | (simp; done) | (simp [*]; done)), H', ⟨Nat.le_refl _⟩, by repeat (first | exact Drawn0.refl _ | apply Drawn0.step)⟩
 case round =>
  clear H'
  try clear p2
  obtain ⟨x0_1, x1_1, x5_1, rfl, rfl, rfl, HA, HK1, ⟨m1, rfl⟩⟩ := hrel
  cases gk with
  | zero => exact absurd HA.out (by simp [kimberliteref05_mixed.l0])
  | succ k1 =>
   have H := HA.out
   clear HA
   simp only [kimberliteref05_mixed.l0] at H
   by_cases c3 : x5_1 < 8
   ·
    rw [if_pos c3] at H
    have c3b0 : decide (x5_1 < 8) = true := decide_eq_true c3
    clear c3
    have H' := Aside0.mk H
    clear H
    go_wp2
    go_roundg k1
    case measure => have := HK1.out; omega
    case rel => exact ⟨(IntKind.u64.wrap ((Go.bits .xor .u64 x0_1 (Int.tmod x1_1 256)) * 1099511628211)), (IntKind.u64.wrap (Int.tdiv x1_1 256)), (wrap64 (x5_1 + 1)), (by first | rfl | (simp; done) | (simp [*]; done)), (by first | rfl | (simp; done) | (simp [*]; done)), (by first | rfl | (simp; done) | (simp [*]; done)), H', ⟨by have := HK1.out; omega⟩, by repeat (first | exact Drawn0.refl _ | apply Drawn0.step)⟩
   ·
    rw [if_neg c3] at H
    have c3b0 : decide (x5_1 < 8) = false := decide_eq_false c3
    clear c3
    obtain rfl := Option.some.inj H
    go_wp2
    go_ret
    exact ⟨by first | rfl | (simp; done) | (simp [*]; done), by repeat (first | exact Drawn0.refl _ | apply Drawn0.step)⟩
def kimberliteref05_Seal.l0 : Nat → List (S50) → Int → Int → Option (Int)
 | 0, _, _, _ => none
 | k + 1, x0, x5, x6 => if x6 < (x0.length : Int) then (if 0 ≤ x6 then ((kimberliteref05_mixed.f k x5 (IntKind.u64.wrap ((rd_T50 x0 x6).f0))).bind fun t209 => ((kimberliteref05_mixed.f k t209 (IntKind.u64.wrap ((rd_T50 x0 x6).f1))).bind fun t211 => ((kimberliteref05_mixed.f k t211 (IntKind.u64.wrap ((rd_T50 x0 x6).f2))).bind fun t213 => (kimberliteref05_Seal.l0 k x0 t213 (wrap64 (x6 + 1)))))) else (none)) else (some x5)
def kimberliteref05_Seal.f (k : Nat) (l0 : List (S50)) (a1 : Int) : Option (Int) := (kimberliteref05_mixed.f k 14695981039346656037 a1).bind fun t207 => (kimberliteref05_Seal.l0 k l0 t207 0)
theorem kimberliteref05_Seal.mono_l : ∀ k, (∀ y0 y1 y2, LeO (kimberliteref05_Seal.l0 k y0 y1 y2) (kimberliteref05_Seal.l0 (k + 1) y0 y1 y2))
 | 0 => fun _ _ _ r h => by simp [kimberliteref05_Seal.l0] at h
 | k + 1 => by
  have ih0 := kimberliteref05_Seal.mono_l k
  ·
   intro y0 y1 y2
   unfold kimberliteref05_Seal.l0
   repeat' first
   | (with_reducible exact ih0 _ _ _)
   | (with_reducible exact kimberliteref05_mixed.mono _ _ _)
   | (with_reducible exact LeO.refl _)
   | (with_reducible exact LeO.none _)
   | (with_reducible refine LeO.ite ?_ ?_)
   | (with_reducible refine LeO.bind ?_ (fun _ => ?_))
   | exact ih0 _ _ _
   | exact kimberliteref05_mixed.mono _ _ _
   | exact LeO.none _
   | refine LeO.ite ?_ ?_
   | refine LeO.bind ?_ (fun _ => ?_)
theorem kimberliteref05_Seal.mono : ∀ a0 a1 k, LeO (kimberliteref05_Seal.f k a0 a1) (kimberliteref05_Seal.f (k + 1) a0 a1) := by
 intro a0 a1 k
 have ih0 := kimberliteref05_Seal.mono_l k
 unfold kimberliteref05_Seal.f
 repeat' first
   | (with_reducible exact ih0 _ _ _)
   | (with_reducible exact kimberliteref05_mixed.mono _ _ _)
   | (with_reducible exact LeO.refl _)
   | (with_reducible exact LeO.none _)
   | (with_reducible refine LeO.ite ?_ ?_)
   | (with_reducible refine LeO.bind ?_ (fun _ => ?_))
   | exact ih0 _ _ _
   | exact kimberliteref05_mixed.mono _ _ _
   | exact LeO.none _
   | refine LeO.ite ?_ ?_
   | refine LeO.bind ?_ (fun _ => ?_)
set_option maxHeartbeats 8000000 in
set_option maxRecDepth 100000 in
theorem kimberliteref05_Seal.calls (k : Nat) (A0 : Option Addr) (c0 : Nat) (l0 : List (S50)) (a1 : Int) (r : Int) (w : World) (hr0 : Kd.C k50 w A0 l0.length l0) (hc0 : l0.length ≤ c0) (h : kimberliteref05_Seal.f k l0 a1 = some r) :
  Calls Try.prog 24 #[.slice A0 l0.length c0, .int .u64 a1] w fun e w' => e = .returned (.int .u64 r) ∧ Drawn0 w w' := by
 have HR0 := Aside0.mk hr0
 have HC0 := Aside0.mk hc0
 clear hr0 hc0
 have H : ((kimberliteref05_mixed.f k 14695981039346656037 a1).bind fun t207 => (kimberliteref05_Seal.l0 k l0 t207 0)) = some r := h
 clear h
 replace H := Option.bind_eq_some_iff.mp H
 obtain ⟨t207, A30, H⟩ := H
 replace H : (kimberliteref05_Seal.l0 k l0 t207 0) = some r := H
 have A3 := Aside0.mk A30
 clear A30
 have H' := Aside0.mk H
 clear H
 go_enter Try.func24, Try.ntmps24
 go_wp2_with (first | (go_at_call 52; (with_reducible refine (kimberliteref05_mixed.calls k 14695981039346656037 a1 t207 _ A3.out).mono ?_); rintro e w' ⟨rfl, ⟨nd, rfl⟩⟩; (try first | exact ⟨rfl, _, World.drewN_drewN _ _ _⟩ | exact ⟨rfl, _, Eq.trans (World.drewN_drewN _ _ _) (congrArg (World.drewN _) (Nat.add_assoc _ _ _))⟩)))
 repeat (go_quiet (first | (go_at_call 52; (with_reducible refine (kimberliteref05_mixed.calls k 14695981039346656037 a1 t207 _ A3.out).mono ?_); rintro e w' ⟨rfl, ⟨nd, rfl⟩⟩; (try first | exact ⟨rfl, _, World.drewN_drewN _ _ _⟩ | exact ⟨rfl, _, Eq.trans (World.drewN_drewN _ _ _) (congrArg (World.drewN _) (Nat.add_assoc _ _ _))⟩))); try go_wp2_with (first | (go_at_call 52; (with_reducible refine (kimberliteref05_mixed.calls k 14695981039346656037 a1 t207 _ A3.out).mono ?_); rintro e w' ⟨rfl, ⟨nd, rfl⟩⟩; (try first | exact ⟨rfl, _, World.drewN_drewN _ _ _⟩ | exact ⟨rfl, _, Eq.trans (World.drewN_drewN _ _ _) (congrArg (World.drewN _) (Nat.add_assoc _ _ _))⟩))))
 go_loopg [5, 6] k (fun kq v5 v6 w' => ∃ (x5_1 : Int) (x6_1 : Int), v5 = .int .u64 x5_1 ∧ v6 = .int .i64 x6_1 ∧ Aside0 (kimberliteref05_Seal.l0 kq l0 x5_1 x6_1 = some r) ∧ Aside0 (kq ≤ k) ∧ Drawn0 w w')
 case atStart => exact ⟨(t207), (0), (by first | rfl | (simp; done) | (simp [*]; done)), (by first | rfl | (simp; done) | (simp [*]; done)), H', ⟨Nat.le_refl _⟩, by repeat (first | exact Drawn0.refl _ | apply Drawn0.step)⟩
 case round =>
  clear H'
  try clear c2
  try clear p2
  obtain ⟨x5_1, x6_1, rfl, rfl, HA, HK1, ⟨m1, rfl⟩⟩ := hrel
  cases gk with
  | zero => exact absurd HA.out (by simp [kimberliteref05_Seal.l0])
  | succ k1 =>
   have H := HA.out
   clear HA
   simp only [kimberliteref05_Seal.l0] at H
   by_cases c4 : x6_1 < (l0.length : Int)
   ·
    rw [if_pos c4] at H
    have c4b0 : decide (x6_1 < (l0.length : Int)) = true := decide_eq_true c4
    clear c4
    by_cases c5 : 0 ≤ x6_1
    ·
     rw [if_pos c5] at H
     have c5b0 : decide (0 ≤ x6_1) = true := decide_eq_true c5
     clear c5
     replace H := Option.bind_eq_some_iff.mp H
     obtain ⟨t209, A60, H⟩ := H
     replace H : ((kimberliteref05_mixed.f k1 t209 (IntKind.u64.wrap ((rd_T50 l0 x6_1).f1))).bind fun t211 => ((kimberliteref05_mixed.f k1 t211 (IntKind.u64.wrap ((rd_T50 l0 x6_1).f2))).bind fun t213 => (kimberliteref05_Seal.l0 k1 l0 t213 (wrap64 (x6_1 + 1))))) = some r := H
     have A6 := Aside0.mk A60
     clear A60
     replace H := Option.bind_eq_some_iff.mp H
     obtain ⟨t211, A70, H⟩ := H
     replace H : ((kimberliteref05_mixed.f k1 t211 (IntKind.u64.wrap ((rd_T50 l0 x6_1).f2))).bind fun t213 => (kimberliteref05_Seal.l0 k1 l0 t213 (wrap64 (x6_1 + 1)))) = some r := H
     have A7 := Aside0.mk A70
     clear A70
     replace H := Option.bind_eq_some_iff.mp H
     obtain ⟨t213, A80, H⟩ := H
     replace H : (kimberliteref05_Seal.l0 k1 l0 t213 (wrap64 (x6_1 + 1))) = some r := H
     have A8 := Aside0.mk A80
     clear A80
     have H' := Aside0.mk H
     clear H
     have p208 : 0 ≤ (x6_1 : Int) := of_decide_eq_true (by first | (with_reducible assumption) | assumption)
     have q208 : x6_1 < (l0.length : Int) := of_decide_eq_true (by first | (with_reducible assumption) | assumption)
     obtain ⟨ad208, e208, hx208_0, hx208_1, hx208_2⟩ := at_T50 HR0.out x6_1 p208 q208
     cases e208
     replace p208 := eq_true p208
     replace q208 := eq_true q208
     go_wp2_with (first | (go_at_call 52; (with_reducible refine (kimberliteref05_mixed.calls k1 x5_1 (IntKind.u64.wrap ((rd_T50 l0 x6_1).f0)) t209 _ A6.out).mono ?_); rintro e w' ⟨rfl, ⟨nd, rfl⟩⟩; (try first | exact ⟨rfl, _, World.drewN_drewN _ _ _⟩ | exact ⟨rfl, _, Eq.trans (World.drewN_drewN _ _ _) (congrArg (World.drewN _) (Nat.add_assoc _ _ _))⟩); have p210 : 0 ≤ (x6_1 : Int) := of_decide_eq_true (by first | (with_reducible assumption) | assumption); have q210 : x6_1 < (l0.length : Int) := of_decide_eq_true (by first | (with_reducible assumption) | assumption); obtain ⟨ad210, e210, hx210_0, hx210_1, hx210_2⟩ := at_T50 HR0.out x6_1 p210 q210; obtain rfl : ad208 = ad210 := (by injection e210); replace p210 := eq_true p210; replace q210 := eq_true q210) | (go_at_call 52; (with_reducible refine (kimberliteref05_mixed.calls k1 t209 (IntKind.u64.wrap ((rd_T50 l0 x6_1).f1)) t211 _ A7.out).mono ?_); rintro e w' ⟨rfl, ⟨nd, rfl⟩⟩; (try first | exact ⟨rfl, _, World.drewN_drewN _ _ _⟩ | exact ⟨rfl, _, Eq.trans (World.drewN_drewN _ _ _) (congrArg (World.drewN _) (Nat.add_assoc _ _ _))⟩); have p212 : 0 ≤ (x6_1 : Int) := of_decide_eq_true (by first | (with_reducible assumption) | assumption); have q212 : x6_1 < (l0.length : Int) := of_decide_eq_true (by first | (with_reducible assumption) | assumption); obtain ⟨ad212, e212, hx212_0, hx212_1, hx212_2⟩ := at_T50 HR0.out x6_1 p212 q212; obtain rfl : ad208 = ad212 := (by injection e212); replace p212 := eq_true p212; replace q212 := eq_true q212) | (go_at_call 52; (with_reducible refine (kimberliteref05_mixed.calls k1 t211 (IntKind.u64.wrap ((rd_T50 l0 x6_1).f2)) t213 _ A8.out).mono ?_); rintro e w' ⟨rfl, ⟨nd, rfl⟩⟩; (try first | exact ⟨rfl, _, World.drewN_drewN _ _ _⟩ | exact ⟨rfl, _, Eq.trans (World.drewN_drewN _ _ _) (congrArg (World.drewN _) (Nat.add_assoc _ _ _))⟩)))
     repeat (go_quiet (first | (go_at_call 52; (with_reducible refine (kimberliteref05_mixed.calls k1 x5_1 (IntKind.u64.wrap ((rd_T50 l0 x6_1).f0)) t209 _ A6.out).mono ?_); rintro e w' ⟨rfl, ⟨nd, rfl⟩⟩; (try first | exact ⟨rfl, _, World.drewN_drewN _ _ _⟩ | exact ⟨rfl, _, Eq.trans (World.drewN_drewN _ _ _) (congrArg (World.drewN _) (Nat.add_assoc _ _ _))⟩); have p210 : 0 ≤ (x6_1 : Int) := of_decide_eq_true (by first | (with_reducible assumption) | assumption); have q210 : x6_1 < (l0.length : Int) := of_decide_eq_true (by first | (with_reducible assumption) | assumption); obtain ⟨ad210, e210, hx210_0, hx210_1, hx210_2⟩ := at_T50 HR0.out x6_1 p210 q210; obtain rfl : ad208 = ad210 := (by injection e210); replace p210 := eq_true p210; replace q210 := eq_true q210) | (go_at_call 52; (with_reducible refine (kimberliteref05_mixed.calls k1 t209 (IntKind.u64.wrap ((rd_T50 l0 x6_1).f1)) t211 _ A7.out).mono ?_); rintro e w' ⟨rfl, ⟨nd, rfl⟩⟩; (try first | exact ⟨rfl, _, World.drewN_drewN _ _ _⟩ | exact ⟨rfl, _, Eq.trans (World.drewN_drewN _ _ _) (congrArg (World.drewN _) (Nat.add_assoc _ _ _))⟩); have p212 : 0 ≤ (x6_1 : Int) := of_decide_eq_true (by first | (with_reducible assumption) | assumption); have q212 : x6_1 < (l0.length : Int) := of_decide_eq_true (by first | (with_reducible assumption) | assumption); obtain ⟨ad212, e212, hx212_0, hx212_1, hx212_2⟩ := at_T50 HR0.out x6_1 p212 q212; obtain rfl : ad208 = ad212 := (by injection e212); replace p212 := eq_true p212; replace q212 := eq_true q212) | (go_at_call 52; (with_reducible refine (kimberliteref05_mixed.calls k1 t211 (IntKind.u64.wrap ((rd_T50 l0 x6_1).f2)) t213 _ A8.out).mono ?_); rintro e w' ⟨rfl, ⟨nd, rfl⟩⟩; (try first | exact ⟨rfl, _, World.drewN_drewN _ _ _⟩ | exact ⟨rfl, _, Eq.trans (World.drewN_drewN _ _ _) (congrArg (World.drewN _) (Nat.add_assoc _ _ _))⟩))); try go_wp2_with (first | (go_at_call 52; (with_reducible refine (kimberliteref05_mixed.calls k1 x5_1 (IntKind.u64.wrap ((rd_T50 l0 x6_1).f0)) t209 _ A6.out).mono ?_); rintro e w' ⟨rfl, ⟨nd, rfl⟩⟩; (try first | exact ⟨rfl, _, World.drewN_drewN _ _ _⟩ | exact ⟨rfl, _, Eq.trans (World.drewN_drewN _ _ _) (congrArg (World.drewN _) (Nat.add_assoc _ _ _))⟩); have p210 : 0 ≤ (x6_1 : Int) := of_decide_eq_true (by first | (with_reducible assumption) | assumption); have q210 : x6_1 < (l0.length : Int) := of_decide_eq_true (by first | (with_reducible assumption) | assumption); obtain ⟨ad210, e210, hx210_0, hx210_1, hx210_2⟩ := at_T50 HR0.out x6_1 p210 q210; obtain rfl : ad208 = ad210 := (by injection e210); replace p210 := eq_true p210; replace q210 := eq_true q210) | (go_at_call 52; (with_reducible refine (kimberliteref05_mixed.calls k1 t209 (IntKind.u64.wrap ((rd_T50 l0 x6_1).f1)) t211 _ A7.out).mono ?_); rintro e w' ⟨rfl, ⟨nd, rfl⟩⟩; (try first | exact ⟨rfl, _, World.drewN_drewN _ _ _⟩ | exact ⟨rfl, _, Eq.trans (World.drewN_drewN _ _ _) (congrArg (World.drewN _) (Nat.add_assoc _ _ _))⟩); have p212 : 0 ≤ (x6_1 : Int) := of_decide_eq_true (by first | (with_reducible assumption) | assumption); have q212 : x6_1 < (l0.length : Int) := of_decide_eq_true (by first | (with_reducible assumption) | assumption); obtain ⟨ad212, e212, hx212_0, hx212_1, hx212_2⟩ := at_T50 HR0.out x6_1 p212 q212; obtain rfl : ad208 = ad212 := (by injection e212); replace p212 := eq_true p212; replace q212 := eq_true q212) | (go_at_call 52; (with_reducible refine (kimberliteref05_mixed.calls k1 t211 (IntKind.u64.wrap ((rd_T50 l0 x6_1).f2)) t213 _ A8.out).mono ?_); rintro e w' ⟨rfl, ⟨nd, rfl⟩⟩; (try first | exact ⟨rfl, _, World.drewN_drewN _ _ _⟩ | exact ⟨rfl, _, Eq.trans (World.drewN_drewN _ _ _) (congrArg (World.drewN _) (Nat.add_assoc _ _ _))⟩))))
     go_roundg k1
     case measure => have := HK1.out; omega
     case rel => exact ⟨(t213), (wrap64 (x6_1 + 1)), (by first | rfl | (simp; done) | (simp [*]; done)), (by first | rfl | (simp; done) | (simp [*]; done)), H', ⟨by have := HK1.out; omega⟩, by repeat (first | exact Drawn0.refl _ | apply Drawn0.step)⟩
    ·
     rw [if_neg c5] at H
     exact absurd H (by simp)
   ·
    rw [if_neg c4] at H
    have c4b0 : decide (x6_1 < (l0.length : Int)) = false := decide_eq_false c4
    clear c4
    obtain rfl := Option.some.inj H
    go_wp2
    repeat (go_quiet (fail); try go_wp2)
    go_ret
    exact ⟨by first | rfl | (simp; done) | (simp [*]; done), by repeat (first | exact Drawn0.refl _ | apply Drawn0.step)⟩
end Go.Proofs.Ythfdjccdelbeeaa.PT
end
section
namespace Go.Proofs.Ythfdjccdelbeeaa.PT
open Go.RowKit Go.Proofs.YthfdjccdelbeeaaW.PrintWords Go.Proofs.Ythfdjccdelbeeaa.Opn
set_option linter.unusedVariables false
theorem ev_mixed_l : ∀ (d i : Nat) (h n : Int), i + d = 8 → 0 ≤ n → n < 18446744073709551616 → Ev (fun k => kimberliteref05_mixed.l0 k h n (i : Int)) (sealMix d h n)
 | 0, i, h, n, hi, h0, h1 => Ev.here fun k => by
   simp only [kimberliteref05_mixed.l0]
   rw [if_neg (by omega)]; rfl
 | d + 1, i, h, n, hi, h0, h1 => by
   have ih := ev_mixed_l d (i + 1) (IntKind.u64.wrap (bits .xor .u64 h (n % 256) * 1099511628211)) (n / 256) (by omega) (by omega) (by omega)
   refine Ev.step (fun k => ?_) ih
   simp only [kimberliteref05_mixed.l0]
   rw [if_pos (by omega), w64 i (by omega), Int.tmod_eq_emod_of_nonneg h0, Int.tdiv_eq_ediv_of_nonneg h0, IntKind.wrap_u64 (n / 256), Int.emod_eq_of_lt (a := n / 256) (b := 18446744073709551616) (by omega) (by omega)]
theorem ev_mixed (h n : Int) (h0 : 0 ≤ n) (h1 : n < 18446744073709551616) : Ev (fun k => kimberliteref05_mixed.f k h n) (sealMix 8 h n) := ev_mixed_l 8 0 h n rfl h0 h1
theorem ev_Seal_l (l : List S50) (hl : l.length ≤ 300) : ∀ (d i : Nat) (h : Int), i + d = l.length → Ev (fun k => kimberliteref05_Seal.l0 k l h (i : Int)) ((l.drop i).foldl sealOne h)
 | 0, i, h, hi => Ev.here fun k => by
   simp only [kimberliteref05_Seal.l0]
   rw [if_neg (by omega), List.drop_of_length_le (by omega)]; rfl
 | d + 1, i, h, hi => by
   have hlt : i < l.length := by omega
   have ih := ev_Seal_l l hl d (i + 1) (sealOne h l[i]) (by omega)
   rw [List.drop_eq_getElem_cons hlt, List.foldl_cons]
   have r0 := u64_range l[i].f0
   have r1 := u64_range l[i].f1
   have r2 := u64_range l[i].f2
   refine Ev.step (f := fun k => (kimberliteref05_mixed.f k h (IntKind.u64.wrap l[i].f0)).bind fun t209 => ((kimberliteref05_mixed.f k t209 (IntKind.u64.wrap l[i].f1)).bind fun t211 => ((kimberliteref05_mixed.f k t211 (IntKind.u64.wrap l[i].f2)).bind fun t213 => (kimberliteref05_Seal.l0 k l t213 ((i + 1 : Nat) : Int))))) (fun k => ?_) ?_
   ·
    simp only [kimberliteref05_Seal.l0]
    rw [if_pos (by omega), if_pos (by omega), rd_get l i hlt, w64 i (by omega)]
   ·
    exact Ev.bind (ev_mixed _ _ r0.1 r0.2) (Ev.bind (ev_mixed _ _ r1.1 r1.2) (Ev.bind (ev_mixed _ _ r2.1 r2.2) ih))
theorem ev_Seal (l : List S50) (a : Int) (hl : l.length ≤ 300) (h0 : 0 ≤ a) (h1 : a < 18446744073709551616) : Ev (fun k => kimberliteref05_Seal.f k l a) (sealAll l a) :=
 Ev.bind (ev_mixed _ a h0 h1) (by simpa [sealAll] using ev_Seal_l l hl l.length 0 (sealMix 8 14695981039346656037 a) (by omega))
end Go.Proofs.Ythfdjccdelbeeaa.PT
end
