/-
  The texts that the theorem in YthfdjccdelbeeaaZRowPl rests on, merged (part 10); only what it reaches.
-/
import Derived.Test.YthfdjccdelbeeaaZPl2
import Derived.Test.YthfdjccdelbeeaaZPl7
import Derived.Test.YthfdjccdelbeeaaZPl8
section
namespace Go.Proofs.Ythfdjccdelbeeaa.PT
open Go.RowKit Go.Proofs.YthfdjccdelbeeaaW.PrintWords Go.Proofs.YthfdjccdelbeeaaW.PrintLast Go.Proofs.YthfdjccdelbeeaaW.PrintMore
attribute [local go_sem] max2_int min2_int max_two min_two max_three min_three max_four min_four   -- for this text's walks alone
set_option linter.unusedVariables false
set_option linter.unusedSimpArgs false
def kimberliteref05_Tender_All.l0 : Nat → List (S50) → Int → Int → Int → List Bool → List Int → List Bool → List (List (S50)) → Option ((List (S50)))
 | 0, _, _, _, _, _, _, _, _ => none
 | k + 1, x3, x4, x510000, x510001, x510002, x510003, x510004, x510005 => if x4 < (x510005.length : Int) then (if 0 ≤ x4 then (if x3.length + (rd_L3 x510005 x4).length < 5864062014805 then (kimberliteref05_Tender_All.l0 k (x3 ++ (rd_L3 x510005 x4)) (wrap64 (x4 + 1)) x510000 x510001 x510002 x510003 x510004 x510005) else (none)) else (none)) else (some x3)
def kimberliteref05_Tender_All.f (k : Nat) (a0_0 : Int) (a0_1 : Int) (l0_2 : List Bool) (l0_3 : List Int) (l0_4 : List Bool) (l0_5 : List (List (S50))) : Option ((List (S50))) := kimberliteref05_Tender_All.l0 k ([] : List (S50)) 0 a0_0 a0_1 l0_2 l0_3 l0_4 l0_5
theorem kimberliteref05_Tender_All.mono_l : ∀ k, (∀ y0 y1 y2 y3 y4 y5 y6 y7, LeO (kimberliteref05_Tender_All.l0 k y0 y1 y2 y3 y4 y5 y6 y7) (kimberliteref05_Tender_All.l0 (k + 1) y0 y1 y2 y3 y4 y5 y6 y7))
 | 0 => fun _ _ _ _ _ _ _ _ r h => by simp [kimberliteref05_Tender_All.l0] at h
 | k + 1 => by
  have ih0 := kimberliteref05_Tender_All.mono_l k
  ·
   intro y0 y1 y2 y3 y4 y5 y6 y7
   unfold kimberliteref05_Tender_All.l0
   repeat' first
   | (with_reducible exact ih0 _ _ _ _ _ _ _ _)
   | (with_reducible exact LeO.refl _)
   | (with_reducible exact LeO.none _)
   | (with_reducible refine LeO.ite ?_ ?_)
   | (with_reducible refine LeO.bind ?_ (fun _ => ?_))
   | exact ih0 _ _ _ _ _ _ _ _
   | exact LeO.none _
   | refine LeO.ite ?_ ?_
   | refine LeO.bind ?_ (fun _ => ?_)
theorem kimberliteref05_Tender_All.mono : ∀ a0 a1 a2 a3 a4 a5 k, LeO (kimberliteref05_Tender_All.f k a0 a1 a2 a3 a4 a5) (kimberliteref05_Tender_All.f (k + 1) a0 a1 a2 a3 a4 a5) := by
 intro a0 a1 a2 a3 a4 a5 k
 have ih0 := kimberliteref05_Tender_All.mono_l k
 unfold kimberliteref05_Tender_All.f
 repeat' first
   | (with_reducible exact ih0 _ _ _ _ _ _ _ _)
   | (with_reducible exact LeO.refl _)
   | (with_reducible exact LeO.none _)
   | (with_reducible refine LeO.ite ?_ ?_)
   | (with_reducible refine LeO.bind ?_ (fun _ => ?_))
   | exact ih0 _ _ _ _ _ _ _ _
   | exact LeO.none _
   | refine LeO.ite ?_ ?_
   | refine LeO.bind ?_ (fun _ => ?_)
set_option maxHeartbeats 8000000 in
set_option maxRecDepth 100000 in
theorem kimberliteref05_Tender_All.calls (k : Nat) (a0_0 : Int) (a0_1 : Int) (A0_2 : Option Addr) (c0_2 : Nat) (l0_2 : List Bool) (A0_3 : Option Addr) (c0_3 : Nat) (l0_3 : List Int) (A0_4 : Option Addr) (c0_4 : Nat) (l0_4 : List Bool) (A0_5 : Option Addr) (c0_5 : Nat) (l0_5 : List (List (S50))) (r : List (S50)) (w : World) (hr0_2 : Kd.C Kd.bool w A0_2 l0_2.length l0_2) (hc0_2 : l0_2.length ≤ c0_2) (hr0_3 : Kd.C (Kd.int .u64) w A0_3 l0_3.length l0_3) (hc0_3 : l0_3.length ≤ c0_3) (hr0_4 : Kd.C Kd.bool w A0_4 l0_4.length l0_4) (hc0_4 : l0_4.length ≤ c0_4) (hr0_5 : Kd.C (Kd.slice 50 k50) w A0_5 l0_5.length l0_5) (hc0_5 : l0_5.length ≤ c0_5) (h : kimberliteref05_Tender_All.f k a0_0 a0_1 l0_2 l0_3 l0_4 l0_5 = some r) :
  Calls Try.prog 46 #[.agg #[.int .i64 a0_0, .int .i64 a0_1, .slice A0_2 l0_2.length c0_2, .slice A0_3 l0_3.length c0_3, .slice A0_4 l0_4.length c0_4, .slice A0_5 l0_5.length c0_5]] w fun e w' => ∃ v0_ : Value, e = .returned (v0_) ∧ Kd.R k50 50 w' w.heap.size (fun _ => True) v0_ r ∧ Below w.heap.size w w' := by
 have hu93 := Try.underlying93
 have HR0_2 := Aside0.mk hr0_2
 have HC0_2 := Aside0.mk hc0_2
 clear hr0_2 hc0_2
 have HR0_3 := Aside0.mk hr0_3
 have HC0_3 := Aside0.mk hc0_3
 clear hr0_3 hc0_3
 have HR0_4 := Aside0.mk hr0_4
 have HC0_4 := Aside0.mk hc0_4
 clear hr0_4 hc0_4
 have HR0_5 := Aside0.mk hr0_5
 have HC0_5 := Aside0.mk hc0_5
 clear hr0_5 hc0_5
 have HB := Aside0.mk (Below.refl w.heap.size w)
 have H : (kimberliteref05_Tender_All.l0 k ([] : List (S50)) 0 a0_0 a0_1 l0_2 l0_3 l0_4 l0_5) = some r := h
 clear h
 have H' := Aside0.mk H
 clear H
 go_enter Try.func46, Try.ntmps46
 go_wp2_with (first | ((with_reducible refine gate_dst (N := 1) rfl ?_); refine box_event ?hg (N := 1) ?hd (cs := #[.int .i64 a0_0, .int .i64 a0_1, .slice A0_2 l0_2.length c0_2, .slice A0_3 l0_3.length c0_3, .slice A0_4 l0_4.length c0_4, .slice A0_5 l0_5.length c0_5]) (t := 93) ?hr ?_; (case hd => rfl); (case hg => rfl); (case hr => first | (go_simp; done) | (go_simp; rfl)); intro gb509 hg w2 hbox hb; have n0_ := Aside0.mk (below_step (by repeat (first | (with_reducible first | exact HB.out | apply Zba | apply Zbn | apply Zbd) | exact HB.out)) hb); have n1_ := Aside0.mk (hbox); have n2_ := Aside0.mk ((by rw [hg]; exact (below_size (by repeat (first | (with_reducible first | exact HB.out | apply Zba | apply Zbn | apply Zbd) | exact HB.out))) : w.heap.size ≤ gb509)); have n3_ := Aside0.mk ((by rw [hg]; exact (below_size (by repeat (first | (with_reducible first | exact HB.out | apply Zba | apply Zbn | apply Zbd) | exact HB.out))) : w.heap.size ≤ gb509)); clear HB; have HB := n0_; have BK509 := n1_; have GW509 := n2_; have GE509 := n3_; clear n0_ n1_ n2_ n3_; clear hb hbox hg))
 go_loopg [3, 4] k (fun kq v3 v4 w' => ∃ (x3_1 : List (S50)) (x4_1 : Int), v4 = .int .i64 x4_1 ∧ Aside0 (kimberliteref05_Tender_All.l0 kq x3_1 x4_1 a0_0 a0_1 l0_2 l0_3 l0_4 l0_5 = some r) ∧ Aside0 (kq ≤ k) ∧ Aside0 (Kd.R k50 50 w' w.heap.size (fun _ => True) v3 x3_1) ∧ Aside0 (w'.heap[gb509]? = some (.cells #[.int .i64 a0_0, .int .i64 a0_1, (.slice A0_2 l0_2.length c0_2), (.slice A0_3 l0_3.length c0_3), (.slice A0_4 l0_4.length c0_4), (.slice A0_5 l0_5.length c0_5)] 93 (0, 0))) ∧ Aside0 (Below w.heap.size w w'))
 case atStart => exact ⟨(([] : List (S50))), (0), (by first | rfl | (simp; done) | (simp [*]; done)), H', ⟨Nat.le_refl _⟩, ⟨by first | exact Kd.R_nil _ _ _ _ _ | exact Kd.N_nil _ _ _ _ _ | exact Kd.V_nil _ _ _ _ _ | exact Kd.Q_nil _ _ _ _ _ | exact Kd.S_nil _ _ _ _ _⟩, ⟨by (with_reducible repeat (first | refine Zkn ?_ _ | refine Zkd ?_ | refine Zka ?_ _)); exact BK509.out⟩, ⟨by repeat (first | (with_reducible first | exact HB.out | apply Zba | apply Zbn | apply Zbd | refine below_set ?_ GE509.out) | exact HB.out)⟩⟩
 case round =>
  clear H'
  try clear p2
  obtain ⟨x3_1, x4_1, rfl, HA, HK1, HO_3, BK509, HB⟩ := hrel
  cases gk with
  | zero => exact absurd HA.out (by simp [kimberliteref05_Tender_All.l0])
  | succ k1 =>
   have H := HA.out
   clear HA
   simp only [kimberliteref05_Tender_All.l0] at H
   by_cases c3 : x4_1 < (l0_5.length : Int)
   ·
    rw [if_pos c3] at H
    have c3b0 : decide (x4_1 < (l0_5.length : Int)) = true := decide_eq_true c3
    clear c3
    by_cases c4 : 0 ≤ x4_1
    ·
     rw [if_pos c4] at H
     have c4b0 : decide (0 ≤ x4_1) = true := decide_eq_true c4
     clear c4
     by_cases c5 : x3_1.length + (rd_L3 l0_5 x4_1).length < 5864062014805
     ·
      rw [if_pos c5] at H
      have LMc5 := Aside0.mk c5
      clear c5
      obtain ⟨y511, hy511⟩ : ∃ y_ : List (S50), y_ = (x3_1 ++ (rd_L3 l0_5 x4_1)) := ⟨_, rfl⟩
      replace H : (kimberliteref05_Tender_All.l0 k1 y511 (wrap64 (x4_1 + 1)) a0_0 a0_1 l0_2 l0_3 l0_4 l0_5) = some r := by first | (rw [hy511]; with_reducible exact H) | (have H2_ := (Option.bind_some _ _).symm.trans H; rw [hy511]; with_reducible exact H2_) | (have H2_ := (Option.bind_some _ _).symm.trans H; with_reducible exact H2_) | with_reducible exact H | (rw [hy511]; exact H) | exact H
      have Ny511 := Aside0.mk hy511
      clear hy511
      have H' := Aside0.mk H
      clear H
      have hcz6_0 : wr.cell? ⟨gb509, 0, none⟩ = some (.int .i64 a0_0) := (blk_cell BK509.out 0).trans rfl
      have hcz6_1 : wr.cell? ⟨gb509, 1, none⟩ = some (.int .i64 a0_1) := (blk_cell BK509.out 1).trans rfl
      have hcz6_2 : wr.cell? ⟨gb509, 2, none⟩ = some (.slice A0_2 l0_2.length c0_2) := (blk_cell BK509.out 2).trans rfl
      have hcz6_3 : wr.cell? ⟨gb509, 3, none⟩ = some (.slice A0_3 l0_3.length c0_3) := (blk_cell BK509.out 3).trans rfl
      have hcz6_4 : wr.cell? ⟨gb509, 4, none⟩ = some (.slice A0_4 l0_4.length c0_4) := (blk_cell BK509.out 4).trans rfl
      have hcz6_5 : wr.cell? ⟨gb509, 5, none⟩ = some (.slice A0_5 l0_5.length c0_5) := (blk_cell BK509.out 5).trans rfl
      have hfz6_0 := blk_frozen BK509.out 0
      have hfz6_1 := blk_frozen BK509.out 1
      have hfz6_2 := blk_frozen BK509.out 2
      have hfz6_3 := blk_frozen BK509.out 3
      have hfz6_4 := blk_frozen BK509.out 4
      have hfz6_5 := blk_frozen BK509.out 5
      have p510 : 0 ≤ (x4_1 : Int) := of_decide_eq_true (by first | (with_reducible assumption) | assumption)
      have q510 : x4_1 < (l0_5.length : Int) := of_decide_eq_true (by first | (with_reducible assumption) | assumption)
      obtain ⟨ad510, A510_0, c510_0, e510, hx510_0, hl510_0, hi510_0⟩ := at_L3 HR0_5.out x4_1 p510 q510
      cases e510
      replace hx510_0 := (HB.out.cell (World.block_lt_of_cell? w _ hx510_0)).trans hx510_0
      have HR510_0 := Aside0.mk hi510_0
      have HC510_0 := Aside0.mk hl510_0
      clear hi510_0 hl510_0
      replace p510 := eq_true p510
      replace q510 := eq_true q510
      go_wp2_with (first | ((with_reducible refine gate_builtin (b := .append) (xs := #[.tmp 12, .tmp 17]) rfl ?_); at_builtin; refine Kd.R_append_rows k50 (w0 := w) w.heap.size rfl (.tmp 12) (.tmp 17) 22 50 (.agg #[(.int .i64 0), (.int .i64 0), (.int .i64 0)]) 24 rfl Try.underlying22 info50 rfl (by decide) (by omega) u3 x3_1 (rd_L3 l0_5 x4_1) _ _ _ (fun _ => True) (fun _ => False) rfl rfl ?aO ?aR (fun _ _ h => h) (fun _ h => h.elim) ?aF ?aB ?aS ?aL ?_; (case aR => repeat (first | exact (Kd.C_below HR510_0.out HB.out) | (with_reducible refine Kd.C_alloc ?_ _) | (with_reducible refine Kd.C_drewN ?_ _) | (with_reducible refine Kd.C_drew ?_))); (case aB => exact (by repeat (first | (with_reducible first | exact HB.out | apply Zba | apply Zbn | apply Zbd | refine below_set ?_ GE509.out) | exact HB.out))); (case aF => exact (fun _ _ => trivial)); (case aO => exact (by (with_reducible repeat (first | apply Zra | apply Zrn | apply Zrd)); exact HO_3.out)); (case aS => exact (below_size (by repeat (first | (with_reducible first | exact HB.out | apply Zba | apply Zbn | apply Zbd | refine below_set ?_ GE509.out) | exact HB.out)))); (case aL => have := LMc5.out; omega); intro v512 w7 ho hb hg hat; rw [← Ny511.out] at ho; have n0_ := Aside0.mk (blk_grown (g := gb509) (o := .cells #[.int .i64 a0_0, .int .i64 a0_1, .slice A0_2 l0_2.length c0_2, .slice A0_3 l0_3.length c0_3, .slice A0_4 l0_4.length c0_4, .slice (some ad510) l0_5.length c0_5] 93 (0, 0)) (by (with_reducible repeat (first | refine Zkn ?_ _ | refine Zkd ?_ | refine Zka ?_ _)); exact BK509.out) hg (Kd.R_ne HO_3.out BK509.out (by decide))); have n1_ := Aside0.mk (hb); have n2_ := Aside0.mk (ho); clear BK509; clear HB; clear HO_3; have BK509 := n0_; have HB := n1_; have HO513 := n2_; clear n0_ n1_ n2_; clear ho hb hg hat))
      go_roundg k1
      case measure => have := HK1.out; omega
      case rel => exact ⟨(y511), (wrap64 (x4_1 + 1)), (by first | rfl | (simp; done) | (simp [*]; done)), H', ⟨by have := HK1.out; omega⟩, ⟨by (with_reducible repeat (first | apply Zra | apply Zrn | apply Zrd)); exact HO513.out⟩, ⟨by (with_reducible repeat (first | refine Zkn ?_ _ | refine Zkd ?_ | refine Zka ?_ _)); exact BK509.out⟩, ⟨by repeat (first | (with_reducible first | exact HB.out | apply Zba | apply Zbn | apply Zbd | refine below_set ?_ GE509.out) | exact HB.out)⟩⟩
     ·
      rw [if_neg c5] at H
      exact absurd H (by simp)
    ·
     rw [if_neg c4] at H
     exact absurd H (by simp)
   ·
    rw [if_neg c3] at H
    have c3b0 : decide (x4_1 < (l0_5.length : Int)) = false := decide_eq_false c3
    clear c3
    obtain rfl := Option.some.inj H
    have hcz8_0 : wr.cell? ⟨gb509, 0, none⟩ = some (.int .i64 a0_0) := (blk_cell BK509.out 0).trans rfl
    have hcz8_1 : wr.cell? ⟨gb509, 1, none⟩ = some (.int .i64 a0_1) := (blk_cell BK509.out 1).trans rfl
    have hcz8_2 : wr.cell? ⟨gb509, 2, none⟩ = some (.slice A0_2 l0_2.length c0_2) := (blk_cell BK509.out 2).trans rfl
    have hcz8_3 : wr.cell? ⟨gb509, 3, none⟩ = some (.slice A0_3 l0_3.length c0_3) := (blk_cell BK509.out 3).trans rfl
    have hcz8_4 : wr.cell? ⟨gb509, 4, none⟩ = some (.slice A0_4 l0_4.length c0_4) := (blk_cell BK509.out 4).trans rfl
    have hcz8_5 : wr.cell? ⟨gb509, 5, none⟩ = some (.slice A0_5 l0_5.length c0_5) := (blk_cell BK509.out 5).trans rfl
    have hfz8_0 := blk_frozen BK509.out 0
    have hfz8_1 := blk_frozen BK509.out 1
    have hfz8_2 := blk_frozen BK509.out 2
    have hfz8_3 := blk_frozen BK509.out 3
    have hfz8_4 := blk_frozen BK509.out 4
    have hfz8_5 := blk_frozen BK509.out 5
    go_wp2
    go_ret
    exact ⟨_, by first | rfl | (simp [errW_none, errW_some] <;> rfl) | (simp [*, errW_none, errW_some] <;> rfl), by (with_reducible repeat (first | apply Zra | apply Zrn | apply Zrd)); exact HO_3.out, by repeat (first | (with_reducible first | exact HB.out | apply Zba | apply Zbn | apply Zbd | refine below_set ?_ GE509.out) | exact HB.out)⟩
end Go.Proofs.Ythfdjccdelbeeaa.PT
end
section
namespace Go.Proofs.Ythfdjccdelbeeaa.PT
open Go.RowKit Go.Proofs.YthfdjccdelbeeaaW.PrintWords Go.Proofs.YthfdjccdelbeeaaW.PrintLast Go.Proofs.YthfdjccdelbeeaaW.PrintMore
attribute [local go_sem] max2_int min2_int max_two min_two max_three min_three max_four min_four   -- for this text's walks alone
set_option linter.unusedVariables false
set_option linter.unusedSimpArgs false
def kimberliteref05_Tender_Missing.l0 : Nat → List Int → Int → Int → Int → List Bool → List Int → List Bool → List (List (S50)) → Option (List Int)
 | 0, _, _, _, _, _, _, _, _ => none
 | k + 1, x3, x4, x575000, x575001, x575002, x575003, x575004, x575005 => if x4 < (x575002.length : Int) then (if 0 ≤ x4 then (if rdOf false x575002 x4 = true then (if x4 < (x575004.length : Int) then (if rdOf false x575004 x4 = true then (kimberliteref05_Tender_Missing.l0 k x3 (wrap64 (x4 + 1)) x575000 x575001 x575002 x575003 x575004 x575005) else (if x3.length < 17592186044416 then (kimberliteref05_Tender_Missing.l0 k (x3 ++ [x4]) (wrap64 (x4 + 1)) x575000 x575001 x575002 x575003 x575004 x575005) else (none))) else (none)) else (kimberliteref05_Tender_Missing.l0 k x3 (wrap64 (x4 + 1)) x575000 x575001 x575002 x575003 x575004 x575005)) else (none)) else (some x3)
def kimberliteref05_Tender_Missing.f (k : Nat) (a0_0 : Int) (a0_1 : Int) (l0_2 : List Bool) (l0_3 : List Int) (l0_4 : List Bool) (l0_5 : List (List (S50))) : Option (List Int) := kimberliteref05_Tender_Missing.l0 k ([] : List Int) 0 a0_0 a0_1 l0_2 l0_3 l0_4 l0_5
theorem kimberliteref05_Tender_Missing.mono_l : ∀ k, (∀ y0 y1 y2 y3 y4 y5 y6 y7, LeO (kimberliteref05_Tender_Missing.l0 k y0 y1 y2 y3 y4 y5 y6 y7) (kimberliteref05_Tender_Missing.l0 (k + 1) y0 y1 y2 y3 y4 y5 y6 y7))
 | 0 => fun _ _ _ _ _ _ _ _ r h => by simp [kimberliteref05_Tender_Missing.l0] at h
 | k + 1 => by
  have ih0 := kimberliteref05_Tender_Missing.mono_l k
  ·
   intro y0 y1 y2 y3 y4 y5 y6 y7
   unfold kimberliteref05_Tender_Missing.l0
   repeat' first
   | (with_reducible exact ih0 _ _ _ _ _ _ _ _)
   | (with_reducible exact LeO.refl _)
   | (with_reducible exact LeO.none _)
   | (with_reducible refine LeO.ite ?_ ?_)
   | (with_reducible refine LeO.bind ?_ (fun _ => ?_))
   | exact ih0 _ _ _ _ _ _ _ _
   | exact LeO.none _
   | refine LeO.ite ?_ ?_
   | refine LeO.bind ?_ (fun _ => ?_)
theorem kimberliteref05_Tender_Missing.mono : ∀ a0 a1 a2 a3 a4 a5 k, LeO (kimberliteref05_Tender_Missing.f k a0 a1 a2 a3 a4 a5) (kimberliteref05_Tender_Missing.f (k + 1) a0 a1 a2 a3 a4 a5) := by
 intro a0 a1 a2 a3 a4 a5 k
 have ih0 := kimberliteref05_Tender_Missing.mono_l k
 unfold kimberliteref05_Tender_Missing.f
 repeat' first
   | (with_reducible exact ih0 _ _ _ _ _ _ _ _)
   | (with_reducible exact LeO.refl _)
   | (with_reducible exact LeO.none _)
   | (with_reducible refine LeO.ite ?_ ?_)
   | (with_reducible refine LeO.bind ?_ (fun _ => ?_))
   | exact ih0 _ _ _ _ _ _ _ _
   | exact LeO.none _
   | refine LeO.ite ?_ ?_
   | refine LeO.bind ?_ (fun _ => ?_)
set_option maxHeartbeats 8000000 in
set_option maxRecDepth 100000 in
theorem kimberliteref05_Tender_Missing.calls (k : Nat) (a0_0 : Int) (a0_1 : Int) (A0_2 : Option Addr) (c0_2 : Nat) (l0_2 : List Bool) (A0_3 : Option Addr) (c0_3 : Nat) (l0_3 : List Int) (A0_4 : Option Addr) (c0_4 : Nat) (l0_4 : List Bool) (A0_5 : Option Addr) (c0_5 : Nat) (l0_5 : List (List (S50))) (r : List Int) (w : World) (hr0_2 : Kd.C Kd.bool w A0_2 l0_2.length l0_2) (hc0_2 : l0_2.length ≤ c0_2) (hr0_3 : Kd.C (Kd.int .u64) w A0_3 l0_3.length l0_3) (hc0_3 : l0_3.length ≤ c0_3) (hr0_4 : Kd.C Kd.bool w A0_4 l0_4.length l0_4) (hc0_4 : l0_4.length ≤ c0_4) (hr0_5 : Kd.C (Kd.slice 50 k50) w A0_5 l0_5.length l0_5) (hc0_5 : l0_5.length ≤ c0_5) (h : kimberliteref05_Tender_Missing.f k a0_0 a0_1 l0_2 l0_3 l0_4 l0_5 = some r) :
  Calls Try.prog 45 #[.agg #[.int .i64 a0_0, .int .i64 a0_1, .slice A0_2 l0_2.length c0_2, .slice A0_3 l0_3.length c0_3, .slice A0_4 l0_4.length c0_4, .slice A0_5 l0_5.length c0_5]] w fun e w' => ∃ v0_ : Value, e = .returned (v0_) ∧ Kd.R (Kd.int .i64) 3 w' w.heap.size (fun _ => True) v0_ r ∧ Below w.heap.size w w' := by
 have hu93 := Try.underlying93
 have HR0_2 := Aside0.mk hr0_2
 have HC0_2 := Aside0.mk hc0_2
 clear hr0_2 hc0_2
 have HR0_3 := Aside0.mk hr0_3
 have HC0_3 := Aside0.mk hc0_3
 clear hr0_3 hc0_3
 have HR0_4 := Aside0.mk hr0_4
 have HC0_4 := Aside0.mk hc0_4
 clear hr0_4 hc0_4
 have HR0_5 := Aside0.mk hr0_5
 have HC0_5 := Aside0.mk hc0_5
 clear hr0_5 hc0_5
 have HB := Aside0.mk (Below.refl w.heap.size w)
 have H : (kimberliteref05_Tender_Missing.l0 k ([] : List Int) 0 a0_0 a0_1 l0_2 l0_3 l0_4 l0_5) = some r := h
 clear h
 have H' := Aside0.mk H
 clear H
 go_enter Try.func45, Try.ntmps45
 go_wp2_with (first | ((with_reducible refine gate_dst (N := 1) rfl ?_); refine box_event ?hg (N := 1) ?hd (cs := #[.int .i64 a0_0, .int .i64 a0_1, .slice A0_2 l0_2.length c0_2, .slice A0_3 l0_3.length c0_3, .slice A0_4 l0_4.length c0_4, .slice A0_5 l0_5.length c0_5]) (t := 93) ?hr ?_; (case hd => rfl); (case hg => rfl); (case hr => first | (go_simp; done) | (go_simp; rfl)); intro gb574 hg w2 hbox hb; have n0_ := Aside0.mk (below_step (by repeat (first | (with_reducible first | exact HB.out | apply Zba | apply Zbn | apply Zbd) | exact HB.out)) hb); have n1_ := Aside0.mk (hbox); have n2_ := Aside0.mk ((by rw [hg]; exact (below_size (by repeat (first | (with_reducible first | exact HB.out | apply Zba | apply Zbn | apply Zbd) | exact HB.out))) : w.heap.size ≤ gb574)); have n3_ := Aside0.mk ((by rw [hg]; exact (below_size (by repeat (first | (with_reducible first | exact HB.out | apply Zba | apply Zbn | apply Zbd) | exact HB.out))) : w.heap.size ≤ gb574)); clear HB; have HB := n0_; have BK574 := n1_; have GW574 := n2_; have GE574 := n3_; clear n0_ n1_ n2_ n3_; clear hb hbox hg))
 go_loopg [3, 4] k (fun kq v3 v4 w' => ∃ (x3_1 : List Int) (x4_1 : Int), v4 = .int .i64 x4_1 ∧ Aside0 (kimberliteref05_Tender_Missing.l0 kq x3_1 x4_1 a0_0 a0_1 l0_2 l0_3 l0_4 l0_5 = some r) ∧ Aside0 (kq ≤ k) ∧ Aside0 (Kd.R (Kd.int .i64) 3 w' w.heap.size (fun _ => True) v3 x3_1) ∧ Aside0 (w'.heap[gb574]? = some (.cells #[.int .i64 a0_0, .int .i64 a0_1, (.slice A0_2 l0_2.length c0_2), (.slice A0_3 l0_3.length c0_3), (.slice A0_4 l0_4.length c0_4), (.slice A0_5 l0_5.length c0_5)] 93 (0, 0))) ∧ Aside0 (Below w.heap.size w w'))
 case atStart => exact ⟨(([] : List Int)), (0), (by first | rfl | (simp; done) | (simp [*]; done)), H', ⟨Nat.le_refl _⟩, ⟨by first | exact Kd.R_nil _ _ _ _ _ | exact Kd.N_nil _ _ _ _ _ | exact Kd.V_nil _ _ _ _ _ | exact Kd.Q_nil _ _ _ _ _ | exact Kd.S_nil _ _ _ _ _⟩, ⟨by (with_reducible repeat (first | refine Zkn ?_ _ | refine Zkd ?_ | refine Zka ?_ _)); exact BK574.out⟩, ⟨by repeat (first | (with_reducible first | exact HB.out | apply Zba | apply Zbn | apply Zbd | refine below_set ?_ GE574.out) | exact HB.out)⟩⟩
 case round =>
  clear H'
  try clear p2
  obtain ⟨x3_1, x4_1, rfl, HA, HK1, HO_3, BK574, HB⟩ := hrel
  cases gk with
  | zero => exact absurd HA.out (by simp [kimberliteref05_Tender_Missing.l0])
  | succ k1 =>
   have H := HA.out
   clear HA
   simp only [kimberliteref05_Tender_Missing.l0] at H
   by_cases c3 : x4_1 < (l0_2.length : Int)
   ·
    rw [if_pos c3] at H
    have c3b0 : decide (x4_1 < (l0_2.length : Int)) = true := decide_eq_true c3
    clear c3
    by_cases c4 : 0 ≤ x4_1
    ·
     rw [if_pos c4] at H
     have c4b0 : decide (0 ≤ x4_1) = true := decide_eq_true c4
     clear c4
     obtain ⟨bq5, hbq5⟩ : ∃ b_ : Bool, b_ = (rdOf false l0_2 x4_1) := ⟨_, rfl⟩
     replace H : (if bq5 = true then (if x4_1 < (l0_4.length : Int) then (if rdOf false l0_4 x4_1 = true then (kimberliteref05_Tender_Missing.l0 k1 x3_1 (wrap64 (x4_1 + 1)) a0_0 a0_1 l0_2 l0_3 l0_4 l0_5) else (if x3_1.length < 17592186044416 then (kimberliteref05_Tender_Missing.l0 k1 (x3_1 ++ [x4_1]) (wrap64 (x4_1 + 1)) a0_0 a0_1 l0_2 l0_3 l0_4 l0_5) else (none))) else (none)) else (kimberliteref05_Tender_Missing.l0 k1 x3_1 (wrap64 (x4_1 + 1)) a0_0 a0_1 l0_2 l0_3 l0_4 l0_5)) = some r := by rw [← hbq5] at H; exact H
     have Nbq5 := Aside0.mk hbq5
     clear hbq5
     by_cases c6 : bq5 = true
     ·
      subst c6
      have H1 : (if x4_1 < (l0_4.length : Int) then (if rdOf false l0_4 x4_1 = true then (kimberliteref05_Tender_Missing.l0 k1 x3_1 (wrap64 (x4_1 + 1)) a0_0 a0_1 l0_2 l0_3 l0_4 l0_5) else (if x3_1.length < 17592186044416 then (kimberliteref05_Tender_Missing.l0 k1 (x3_1 ++ [x4_1]) (wrap64 (x4_1 + 1)) a0_0 a0_1 l0_2 l0_3 l0_4 l0_5) else (none))) else (none)) = some r := by rw [if_pos rfl] at H; exact H
      clear H
      have H := H1
      clear H1
      by_cases c7 : x4_1 < (l0_4.length : Int)
      ·
       rw [if_pos c7] at H
       have c7b0 : decide (x4_1 < (l0_4.length : Int)) = true := decide_eq_true c7
       clear c7
       obtain ⟨bq8, hbq8⟩ : ∃ b_ : Bool, b_ = (rdOf false l0_4 x4_1) := ⟨_, rfl⟩
       replace H : (if bq8 = true then (kimberliteref05_Tender_Missing.l0 k1 x3_1 (wrap64 (x4_1 + 1)) a0_0 a0_1 l0_2 l0_3 l0_4 l0_5) else (if x3_1.length < 17592186044416 then (kimberliteref05_Tender_Missing.l0 k1 (x3_1 ++ [x4_1]) (wrap64 (x4_1 + 1)) a0_0 a0_1 l0_2 l0_3 l0_4 l0_5) else (none))) = some r := by rw [← hbq8] at H; exact H
       have Nbq8 := Aside0.mk hbq8
       clear hbq8
       by_cases c9 : bq8 = true
       ·
        subst c9
        have H1 : (kimberliteref05_Tender_Missing.l0 k1 x3_1 (wrap64 (x4_1 + 1)) a0_0 a0_1 l0_2 l0_3 l0_4 l0_5) = some r := by rw [if_pos rfl] at H; exact H
        clear H
        have H := H1
        clear H1
        have H' := Aside0.mk H
        clear H
        have hcz10_0 : wr.cell? ⟨gb574, 0, none⟩ = some (.int .i64 a0_0) := (blk_cell BK574.out 0).trans rfl
        have hcz10_1 : wr.cell? ⟨gb574, 1, none⟩ = some (.int .i64 a0_1) := (blk_cell BK574.out 1).trans rfl
        have hcz10_2 : wr.cell? ⟨gb574, 2, none⟩ = some (.slice A0_2 l0_2.length c0_2) := (blk_cell BK574.out 2).trans rfl
        have hcz10_3 : wr.cell? ⟨gb574, 3, none⟩ = some (.slice A0_3 l0_3.length c0_3) := (blk_cell BK574.out 3).trans rfl
        have hcz10_4 : wr.cell? ⟨gb574, 4, none⟩ = some (.slice A0_4 l0_4.length c0_4) := (blk_cell BK574.out 4).trans rfl
        have hcz10_5 : wr.cell? ⟨gb574, 5, none⟩ = some (.slice A0_5 l0_5.length c0_5) := (blk_cell BK574.out 5).trans rfl
        have hfz10_0 := blk_frozen BK574.out 0
        have hfz10_1 := blk_frozen BK574.out 1
        have hfz10_2 := blk_frozen BK574.out 2
        have hfz10_3 := blk_frozen BK574.out 3
        have hfz10_4 := blk_frozen BK574.out 4
        have hfz10_5 := blk_frozen BK574.out 5
        have p575 : 0 ≤ (x4_1 : Int) := of_decide_eq_true (by first | (with_reducible assumption) | assumption)
        have q575 : x4_1 < (l0_2.length : Int) := of_decide_eq_true (by first | (with_reducible assumption) | assumption)
        obtain ⟨ad575, e575, hx575_0⟩ := Kd.at_bool HR0_2.out x4_1 p575 q575
        (try rw [← Nbq5.out] at hx575_0)
        (try rw [← Nbq8.out] at hx575_0)
        cases e575
        replace hx575_0 := (HB.out.cell (World.block_lt_of_cell? w _ hx575_0)).trans hx575_0
        replace p575 := eq_true p575
        replace q575 := eq_true q575
        have p576 : 0 ≤ (x4_1 : Int) := of_decide_eq_true (by first | (with_reducible assumption) | assumption)
        have q576 : x4_1 < (l0_4.length : Int) := of_decide_eq_true (by first | (with_reducible assumption) | assumption)
        obtain ⟨ad576, e576, hx576_0⟩ := Kd.at_bool HR0_4.out x4_1 p576 q576
        (try rw [← Nbq5.out] at hx576_0)
        (try rw [← Nbq8.out] at hx576_0)
        cases e576
        replace hx576_0 := (HB.out.cell (World.block_lt_of_cell? w _ hx576_0)).trans hx576_0
        replace p576 := eq_true p576
        replace q576 := eq_true q576
        go_wp2
        go_roundg k1
        case measure => have := HK1.out; omega
        case rel => exact ⟨(x3_1), (wrap64 (x4_1 + 1)), (by first | rfl | (simp; done) | (simp [*]; done)), H', ⟨by have := HK1.out; omega⟩, ⟨by (with_reducible repeat (first | apply Zra | apply Zrn | apply Zrd)); exact HO_3.out⟩, ⟨by (with_reducible repeat (first | refine Zkn ?_ _ | refine Zkd ?_ | refine Zka ?_ _)); exact BK574.out⟩, ⟨by repeat (first | (with_reducible first | exact HB.out | apply Zba | apply Zbn | apply Zbd | refine below_set ?_ GE574.out) | exact HB.out)⟩⟩
       ·
        replace c9 := Bool.eq_false_iff.mpr c9
        subst c9
        have H1 : (if x3_1.length < 17592186044416 then (kimberliteref05_Tender_Missing.l0 k1 (x3_1 ++ [x4_1]) (wrap64 (x4_1 + 1)) a0_0 a0_1 l0_2 l0_3 l0_4 l0_5) else (none)) = some r := by rw [if_neg (show ¬ (false = true) by decide)] at H; exact H
        clear H
        have H := H1
        clear H1
        by_cases c11 : x3_1.length < 17592186044416
        ·
         rw [if_pos c11] at H
         have LMc11 := Aside0.mk c11
         clear c11
         obtain ⟨y577, hy577⟩ : ∃ y_ : List Int, y_ = (x3_1 ++ [x4_1]) := ⟨_, rfl⟩
         replace H : (kimberliteref05_Tender_Missing.l0 k1 y577 (wrap64 (x4_1 + 1)) a0_0 a0_1 l0_2 l0_3 l0_4 l0_5) = some r := by first | (rw [hy577]; with_reducible exact H) | (have H2_ := (Option.bind_some _ _).symm.trans H; rw [hy577]; with_reducible exact H2_) | (have H2_ := (Option.bind_some _ _).symm.trans H; with_reducible exact H2_) | with_reducible exact H | (rw [hy577]; exact H) | exact H
         have Ny577 := Aside0.mk hy577
         clear hy577
         have H' := Aside0.mk H
         clear H
         have hcz12_0 : wr.cell? ⟨gb574, 0, none⟩ = some (.int .i64 a0_0) := (blk_cell BK574.out 0).trans rfl
         have hcz12_1 : wr.cell? ⟨gb574, 1, none⟩ = some (.int .i64 a0_1) := (blk_cell BK574.out 1).trans rfl
         have hcz12_2 : wr.cell? ⟨gb574, 2, none⟩ = some (.slice A0_2 l0_2.length c0_2) := (blk_cell BK574.out 2).trans rfl
         have hcz12_3 : wr.cell? ⟨gb574, 3, none⟩ = some (.slice A0_3 l0_3.length c0_3) := (blk_cell BK574.out 3).trans rfl
         have hcz12_4 : wr.cell? ⟨gb574, 4, none⟩ = some (.slice A0_4 l0_4.length c0_4) := (blk_cell BK574.out 4).trans rfl
         have hcz12_5 : wr.cell? ⟨gb574, 5, none⟩ = some (.slice A0_5 l0_5.length c0_5) := (blk_cell BK574.out 5).trans rfl
         have hfz12_0 := blk_frozen BK574.out 0
         have hfz12_1 := blk_frozen BK574.out 1
         have hfz12_2 := blk_frozen BK574.out 2
         have hfz12_3 := blk_frozen BK574.out 3
         have hfz12_4 := blk_frozen BK574.out 4
         have hfz12_5 := blk_frozen BK574.out 5
         have p575 : 0 ≤ (x4_1 : Int) := of_decide_eq_true (by first | (with_reducible assumption) | assumption)
         have q575 : x4_1 < (l0_2.length : Int) := of_decide_eq_true (by first | (with_reducible assumption) | assumption)
         obtain ⟨ad575, e575, hx575_0⟩ := Kd.at_bool HR0_2.out x4_1 p575 q575
         (try rw [← Nbq5.out] at hx575_0)
         (try rw [← Nbq8.out] at hx575_0)
         cases e575
         replace hx575_0 := (HB.out.cell (World.block_lt_of_cell? w _ hx575_0)).trans hx575_0
         replace p575 := eq_true p575
         replace q575 := eq_true q575
         have p576 : 0 ≤ (x4_1 : Int) := of_decide_eq_true (by first | (with_reducible assumption) | assumption)
         have q576 : x4_1 < (l0_4.length : Int) := of_decide_eq_true (by first | (with_reducible assumption) | assumption)
         obtain ⟨ad576, e576, hx576_0⟩ := Kd.at_bool HR0_4.out x4_1 p576 q576
         (try rw [← Nbq5.out] at hx576_0)
         (try rw [← Nbq8.out] at hx576_0)
         cases e576
         replace hx576_0 := (HB.out.cell (World.block_lt_of_cell? w _ hx576_0)).trans hx576_0
         replace p576 := eq_true p576
         replace q576 := eq_true q576
         go_wp2_with (first | ((with_reducible refine gate_builtin (b := .append) (xs := #[.tmp 25, .tmp 27]) rfl ?_); at_builtin; refine Kd.R_append (Kd.int .i64) (w0 := w) w.heap.size rfl (.tmp 25) (.tmp 27) 26 3 (.int .i64 0) 8 rfl Try.underlying26 info3 rfl (by decide) (by omega) u3 x3_1 x4_1 [.int .i64 x4_1] (fun _ => True) (fun _ => False) rfl rfl ?aP (fun _ hk => hk.elim) ?aF ?aO ?aB ?aS ?aL ?_; (case aP => exact rfl); (case aB => exact (by repeat (first | (with_reducible first | exact HB.out | apply Zba | apply Zbn | apply Zbd | refine below_set ?_ GE574.out) | exact HB.out))); (case aF => exact (fun _ _ => trivial)); (case aO => exact (by (with_reducible repeat (first | apply Zra | apply Zrn | apply Zrd)); exact HO_3.out)); (case aS => exact (below_size (by repeat (first | (with_reducible first | exact HB.out | apply Zba | apply Zbn | apply Zbd | refine below_set ?_ GE574.out) | exact HB.out)))); (case aL => have := LMc11.out; omega); intro v578 w13 ho hb hg hat; rw [← Ny577.out] at ho; have n0_ := Aside0.mk (blk_grown (g := gb574) (o := .cells #[.int .i64 a0_0, .int .i64 a0_1, .slice (some ad575) l0_2.length c0_2, .slice A0_3 l0_3.length c0_3, .slice (some ad576) l0_4.length c0_4, .slice A0_5 l0_5.length c0_5] 93 (0, 0)) (by (with_reducible repeat (first | refine Zkn ?_ _ | refine Zkd ?_ | refine Zka ?_ _)); exact BK574.out) hg (Kd.R_ne HO_3.out BK574.out (by decide))); have n1_ := Aside0.mk (hb); have n2_ := Aside0.mk (ho); clear BK574; clear HB; clear HO_3; have BK574 := n0_; have HB := n1_; have HO579 := n2_; clear n0_ n1_ n2_; clear ho hb hg hat))
         go_roundg k1
         case measure => have := HK1.out; omega
         case rel => exact ⟨(y577), (wrap64 (x4_1 + 1)), (by first | rfl | (simp; done) | (simp [*]; done)), H', ⟨by have := HK1.out; omega⟩, ⟨by (with_reducible repeat (first | apply Zra | apply Zrn | apply Zrd)); exact HO579.out⟩, ⟨by (with_reducible repeat (first | refine Zkn ?_ _ | refine Zkd ?_ | refine Zka ?_ _)); exact BK574.out⟩, ⟨by repeat (first | (with_reducible first | exact HB.out | apply Zba | apply Zbn | apply Zbd | refine below_set ?_ GE574.out) | exact HB.out)⟩⟩
        ·
         rw [if_neg c11] at H
         exact absurd H (by simp)
      ·
       rw [if_neg c7] at H
       exact absurd H (by simp)
     ·
      replace c6 := Bool.eq_false_iff.mpr c6
      subst c6
      have H1 : (kimberliteref05_Tender_Missing.l0 k1 x3_1 (wrap64 (x4_1 + 1)) a0_0 a0_1 l0_2 l0_3 l0_4 l0_5) = some r := by rw [if_neg (show ¬ (false = true) by decide)] at H; exact H
      clear H
      have H := H1
      clear H1
      have H' := Aside0.mk H
      clear H
      have hcz14_0 : wr.cell? ⟨gb574, 0, none⟩ = some (.int .i64 a0_0) := (blk_cell BK574.out 0).trans rfl
      have hcz14_1 : wr.cell? ⟨gb574, 1, none⟩ = some (.int .i64 a0_1) := (blk_cell BK574.out 1).trans rfl
      have hcz14_2 : wr.cell? ⟨gb574, 2, none⟩ = some (.slice A0_2 l0_2.length c0_2) := (blk_cell BK574.out 2).trans rfl
      have hcz14_3 : wr.cell? ⟨gb574, 3, none⟩ = some (.slice A0_3 l0_3.length c0_3) := (blk_cell BK574.out 3).trans rfl
      have hcz14_4 : wr.cell? ⟨gb574, 4, none⟩ = some (.slice A0_4 l0_4.length c0_4) := (blk_cell BK574.out 4).trans rfl
      have hcz14_5 : wr.cell? ⟨gb574, 5, none⟩ = some (.slice A0_5 l0_5.length c0_5) := (blk_cell BK574.out 5).trans rfl
      have hfz14_0 := blk_frozen BK574.out 0
      have hfz14_1 := blk_frozen BK574.out 1
      have hfz14_2 := blk_frozen BK574.out 2
      have hfz14_3 := blk_frozen BK574.out 3
      have hfz14_4 := blk_frozen BK574.out 4
      have hfz14_5 := blk_frozen BK574.out 5
      have p575 : 0 ≤ (x4_1 : Int) := of_decide_eq_true (by first | (with_reducible assumption) | assumption)
      have q575 : x4_1 < (l0_2.length : Int) := of_decide_eq_true (by first | (with_reducible assumption) | assumption)
      obtain ⟨ad575, e575, hx575_0⟩ := Kd.at_bool HR0_2.out x4_1 p575 q575
      (try rw [← Nbq5.out] at hx575_0)
      cases e575
      replace hx575_0 := (HB.out.cell (World.block_lt_of_cell? w _ hx575_0)).trans hx575_0
      replace p575 := eq_true p575
      replace q575 := eq_true q575
      go_wp2
      go_roundg k1
      case measure => have := HK1.out; omega
      case rel => exact ⟨(x3_1), (wrap64 (x4_1 + 1)), (by first | rfl | (simp; done) | (simp [*]; done)), H', ⟨by have := HK1.out; omega⟩, ⟨by (with_reducible repeat (first | apply Zra | apply Zrn | apply Zrd)); exact HO_3.out⟩, ⟨by (with_reducible repeat (first | refine Zkn ?_ _ | refine Zkd ?_ | refine Zka ?_ _)); exact BK574.out⟩, ⟨by repeat (first | (with_reducible first | exact HB.out | apply Zba | apply Zbn | apply Zbd | refine below_set ?_ GE574.out) | exact HB.out)⟩⟩
    ·
     rw [if_neg c4] at H
     exact absurd H (by simp)
   ·
    rw [if_neg c3] at H
    have c3b0 : decide (x4_1 < (l0_2.length : Int)) = false := decide_eq_false c3
    clear c3
    obtain rfl := Option.some.inj H
    have hcz15_0 : wr.cell? ⟨gb574, 0, none⟩ = some (.int .i64 a0_0) := (blk_cell BK574.out 0).trans rfl
    have hcz15_1 : wr.cell? ⟨gb574, 1, none⟩ = some (.int .i64 a0_1) := (blk_cell BK574.out 1).trans rfl
    have hcz15_2 : wr.cell? ⟨gb574, 2, none⟩ = some (.slice A0_2 l0_2.length c0_2) := (blk_cell BK574.out 2).trans rfl
    have hcz15_3 : wr.cell? ⟨gb574, 3, none⟩ = some (.slice A0_3 l0_3.length c0_3) := (blk_cell BK574.out 3).trans rfl
    have hcz15_4 : wr.cell? ⟨gb574, 4, none⟩ = some (.slice A0_4 l0_4.length c0_4) := (blk_cell BK574.out 4).trans rfl
    have hcz15_5 : wr.cell? ⟨gb574, 5, none⟩ = some (.slice A0_5 l0_5.length c0_5) := (blk_cell BK574.out 5).trans rfl
    have hfz15_0 := blk_frozen BK574.out 0
    have hfz15_1 := blk_frozen BK574.out 1
    have hfz15_2 := blk_frozen BK574.out 2
    have hfz15_3 := blk_frozen BK574.out 3
    have hfz15_4 := blk_frozen BK574.out 4
    have hfz15_5 := blk_frozen BK574.out 5
    go_wp2
    go_ret
    exact ⟨_, by first | rfl | (simp [errW_none, errW_some] <;> rfl) | (simp [*, errW_none, errW_some] <;> rfl), by (with_reducible repeat (first | apply Zra | apply Zrn | apply Zrd)); exact HO_3.out, by repeat (first | (with_reducible first | exact HB.out | apply Zba | apply Zbn | apply Zbd | refine below_set ?_ GE574.out) | exact HB.out)⟩
end Go.Proofs.Ythfdjccdelbeeaa.PT
end
section
namespace Go.Proofs.Ythfdjccdelbeeaa.PT
open Go.RowKit Go.Proofs.YthfdjccdelbeeaaW.PrintWords Go.Proofs.YthfdjccdelbeeaaW.PrintLast Go.Proofs.YthfdjccdelbeeaaW.PrintMore Go.Proofs.Ythfdjccdelbeeaa.TPl
set_option linter.unusedVariables false
set_option linter.unusedSimpArgs false
theorem New_f {lots : Int} (h1 : 1 ≤ lots) (h2 : lots ≤ 12) : kimberliteref05_New.f lots = some (lots, 0, List.replicate 8 false, List.replicate 8 0, List.replicate 8 false, List.replicate 8 [], 0) := by
 unfold kimberliteref05_New.f
 rw [if_neg (by omega), if_neg (by omega), if_pos (by decide), if_pos (by decide), if_pos (by decide)]
theorem New_bad {lots : Int} (h : lots < 1 ∨ 12 < lots) : kimberliteref05_New.f lots = some (0, 0, [], [], [], [], 2) := by
 unfold kimberliteref05_New.f
 by_cases c : lots < 1
 ·
  rw [if_pos c]
 ·
  rw [if_neg c, if_pos (by omega)]
section
variable {a0 a1 r1 r2 : Int} {l2 l4 : List Bool} {l3 : List Int} {l5 : List (List S50)}
theorem ev_All_l (ho : ∀ x ∈ l5, x.length < 1000000) (h5 : l5.length = 8) : ∀ (d i : Nat) (x : List S50), i + d = 8 → x.length ≤ 1000000 * i → Ev (fun k => kimberliteref05_Tender_All.l0 k x (i : Int) a0 a1 l2 l3 l4 l5) (x ++ (l5.drop i).flatten)
 | 0, i, x, h, hx => Ev.here fun k => by
   simp only [kimberliteref05_Tender_All.l0]
   rw [if_neg (by omega), List.drop_of_length_le (by omega)]; simp
 | d + 1, i, x, h, hx => by
   have hi : i < l5.length := by omega
   have hl : rd_L3 l5 (i : Int) = l5[i] := by unfold rd_L3; rw [Int.toNat_natCast, List.getD_eq_getElem?_getD, List.getElem?_eq_getElem hi]; rfl
   have hm := ho _ (List.getElem_mem hi)
   have ih := ev_All_l ho h5 d (i + 1) (x ++ l5[i]) (by omega) (by rw [List.length_append]; omega)
   rw [List.drop_eq_getElem_cons hi, List.flatten_cons, ← List.append_assoc]
   refine Ev.step (fun k => ?_) ih
   simp only [kimberliteref05_Tender_All.l0]
   rw [if_pos (by omega), if_pos (by omega), if_pos (by rw [hl]; omega), w64 i (by omega), hl]
theorem ev_All (ho : ∀ x ∈ l5, x.length < 1000000) (h5 : l5.length = 8) : Ev (fun k => kimberliteref05_Tender_All.f k a0 a1 l2 l3 l4 l5) l5.flatten := by
 have := ev_All_l (a0 := a0) (a1 := a1) (l2 := l2) (l3 := l3) (l4 := l4) ho h5 8 0 [] rfl (by simp)
 exact this
theorem ev_Mis_l {H : List Hd} (hH : H.length = 8) : ∀ (d i : Nat), i + d = 8 → Ev (fun k => kimberliteref05_Tender_Missing.l0 k (misN H i) (i : Int) a0 a1 (H.map (·.sl)) l3 (H.map (·.sh)) l5) (misN H 8)
 | 0, i, h => by
   obtain rfl : i = 8 := h
   exact Ev.here fun k => by
    simp only [kimberliteref05_Tender_Missing.l0]
    rw [if_neg (by rw [List.length_map]; omega)]
 | d + 1, i, h => by
   have hi : i < H.length := by omega
   have g1 : rdOf false (H.map (·.sl)) (i : Int) = (H.getD i hd0).sl := by unfold rdOf; simp [hi]
   have g2 : rdOf false (H.map (·.sh)) (i : Int) = (H.getD i hd0).sh := by unfold rdOf; simp [hi]
   have hm := misN_len H i
   have ih := ev_Mis_l hH d (i + 1) (by omega)
   refine Ev.step (fun k => ?_) ih
   simp only [kimberliteref05_Tender_Missing.l0]
   rw [if_pos (by rw [List.length_map]; omega), if_pos (by omega), g1, g2, w64 i (by omega)]
   show _ = kimberliteref05_Tender_Missing.l0 k (if (H.getD i hd0).sl && !(H.getD i hd0).sh then misN H i ++ [(i : Int)] else misN H i) _ _ _ _ _ _ _
   cases (H.getD i hd0).sl
   ·
    simp
   ·
    cases (H.getD i hd0).sh
    ·
     rw [if_pos rfl, if_pos (by rw [List.length_map]; omega), if_neg (by decide), if_pos (by omega)]; rfl
    ·
     rw [if_pos rfl, if_pos (by rw [List.length_map]; omega), if_pos rfl]; rfl
theorem ev_Mis {H : List Hd} (hH : H.length = 8) : Ev (fun k => kimberliteref05_Tender_Missing.f k a0 a1 (H.map (·.sl)) l3 (H.map (·.sh)) l5) (misN H 8) := ev_Mis_l hH 8 0 rfl
end
theorem fl_off (H : List Hd) : (H.map (·.off)).flatten = H.flatMap (·.off) := by simp [List.flatMap]
end Go.Proofs.Ythfdjccdelbeeaa.PT
end
section
namespace Go.Proofs.Ythfdjccdelbeeaa.PT
open Go.RowKit Go.Proofs.YthfdjccdelbeeaaW.PrintWords Go.Proofs.YthfdjccdelbeeaaW.PrintLast Go.Proofs.YthfdjccdelbeeaaW.PrintMore Go.Proofs.Ythfdjccdelbeeaa.TPl
set_option linter.unusedVariables false
set_option linter.unusedSimpArgs false
def SV (W : World) (ok : Nat → Prop) (v : Value) (lots st : Int) (H : List Hd) : Prop :=
 ∃ A2 A3 A4 A5 c2 c3 c4 c5, v = .agg #[.int .i64 lots, .int .i64 st, .slice A2 8 c2, .slice A3 8 c3, .slice A4 8 c4, .slice A5 8 c5] ∧
  (8 ≤ c2 ∧ Kd.F Kd.bool W ok A2 8 (H.map (·.sl))) ∧ (8 ≤ c3 ∧ Kd.F (Kd.int .u64) W ok A3 8 (H.map (·.key))) ∧
  (8 ≤ c4 ∧ Kd.F Kd.bool W ok A4 8 (H.map (·.sh))) ∧ (8 ≤ c5 ∧ Kd.F (Kd.slice 50 k50) W ok A5 8 (H.map (·.off)))
section
variable {W W1 : World} {ok ok' : Nat → Prop} {v : Value} {lots st : Int} {H : List Hd}
theorem SV.step (h : SV W ok v lots st H) (hm : ∀ k, ok k → k < W.heap.size → W1.heap[k]? = W.heap[k]?) : SV W1 ok v lots st H := by
 obtain ⟨A2, A3, A4, A5, c2, c3, c4, c5, e, ⟨l2, f2⟩, ⟨l3, f3⟩, ⟨l4, f4⟩, l5, f5⟩ := h
 exact ⟨A2, A3, A4, A5, c2, c3, c4, c5, e, ⟨l2, Kd.F_step f2 hm⟩, ⟨l3, Kd.F_step f3 hm⟩, ⟨l4, Kd.F_step f4 hm⟩, l5, Kd.F_step f5 hm⟩
theorem SV.next (h : SV W ok v lots st H) (hb : Below W.heap.size W W1) : SV W1 ok v lots st H := h.step (fun k _ hk => hb.block k hk)
theorem SV.far (h : SV W ok v lots st H) {G : Nat → Prop} (hc : Chg G W W1) (hG : ∀ k, ok k → ¬ G k) : SV W1 ok v lots st H := h.step (fun k hk hl => hc.block k hl (hG k hk))
theorem SV.mono (h : SV W ok v lots st H) (hk : ∀ k, ok k → ok' k) : SV W ok' v lots st H := by
 obtain ⟨A2, A3, A4, A5, c2, c3, c4, c5, e, ⟨l2, f2⟩, ⟨l3, f3⟩, ⟨l4, f4⟩, l5, f5⟩ := h
 exact ⟨A2, A3, A4, A5, c2, c3, c4, c5, e, ⟨l2, Kd.F_mono f2 hk⟩, ⟨l3, Kd.F_mono f3 hk⟩, ⟨l4, Kd.F_mono f4 hk⟩, l5, Kd.F_mono f5 hk⟩
end
theorem New_s (w : World) (lots : Int) (h1 : 1 ≤ lots) (h2 : lots ≤ 12) : Calls Try.prog 43 #[.int .i64 lots] w fun e w' => ∃ v, e = .returned (.tuple #[v, .int .i64 0]) ∧ SV w' (fun k => w.heap.size ≤ k) v lots 0 (List.replicate 8 hd0) ∧ Below w.heap.size w w' := by
 refine (kimberliteref05_New.calls lots _ _ _ _ _ _ _ w (New_f h1 h2)).mono ?_
 rintro e w' ⟨v2, v3, v4, v5, rfl, g2, g3, g4, g5, hb⟩
 obtain ⟨A2, c2, rfl⟩ := Kd.R_slice g2
 obtain ⟨A3, c3, rfl⟩ := Kd.R_slice g3
 obtain ⟨A4, c4, rfl⟩ := Kd.R_slice g4
 obtain ⟨A5, c5, rfl⟩ := Kd.R_slice (Kd.S_R g5)
 exact ⟨_, rfl, ⟨A2, A3, A4, A5, c2, c3, c4, c5, rfl, ⟨(Kd.R_reads' g2).2.1, Kd.R_F (Kd.R_mono (Kd.R_bound g2) (fun k q => q.2.1))⟩, ⟨(Kd.R_reads' g3).2.1, Kd.R_F (Kd.R_mono (Kd.R_bound g3) (fun k q => q.2.1))⟩, ⟨(Kd.R_reads' g4).2.1, Kd.R_F (Kd.R_mono (Kd.R_bound g4) (fun k q => q.2.1))⟩, (Kd.R_reads' (Kd.S_R g5)).2.1, Kd.R_F (Kd.R_mono (Kd.R_bound (Kd.S_R g5)) (fun k q => q.2.1))⟩, hb⟩
theorem Missing_s {w : World} {ok : Nat → Prop} {v : Value} {lots st : Int} {H : List Hd} (h : SV w ok v lots st H) (hH : H.length = 8) : Calls Try.prog 45 #[v] w fun e w' => ∃ v0, e = .returned v0 ∧ Kd.R (Kd.int .i64) 3 w' w.heap.size (fun _ => True) v0 (misN H 8) ∧ Below w.heap.size w w' := by
 obtain ⟨A2, A3, A4, A5, c2, c3, c4, c5, rfl, ⟨l2, f2⟩, ⟨l3, f3⟩, ⟨l4, f4⟩, l5, f5⟩ := h
 obtain ⟨k, hk⟩ := ev_Mis (a0 := lots) (a1 := st) (l3 := H.map (·.key)) (l5 := H.map (·.off)) hH
 have e : ∀ {α : Type} (f : Hd → α), (H.map f).length = 8 := fun f => by rw [List.length_map, hH]
 have q := kimberliteref05_Tender_Missing.calls k lots st A2 c2 (H.map (·.sl)) A3 c3 (H.map (·.key)) A4 c4 (H.map (·.sh)) A5 c5 (H.map (·.off)) _ w (by rw [e]; exact Kd.F_now f2) (by rw [e]; exact l2) (by rw [e]; exact Kd.F_now f3) (by rw [e]; exact l3) (by rw [e]; exact Kd.F_now f4) (by rw [e]; exact l4) (by rw [e]; exact Kd.F_now f5) (by rw [e]; exact l5) (hk k (Nat.le_refl _))
 simp only [e] at q
 exact q
theorem All_s {w : World} {ok : Nat → Prop} {v : Value} {lots st : Int} {H : List Hd} (h : SV w ok v lots st H) (hH : H.length = 8) (hf : Few H) : Calls Try.prog 46 #[v] w fun e w' => ∃ v0, e = .returned v0 ∧ Kd.R k50 50 w' w.heap.size (fun _ => True) v0 (H.flatMap (·.off)) ∧ Below w.heap.size w w' := by
 obtain ⟨A2, A3, A4, A5, c2, c3, c4, c5, rfl, ⟨l2, f2⟩, ⟨l3, f3⟩, ⟨l4, f4⟩, l5, f5⟩ := h
 obtain ⟨k, hk⟩ := ev_All (a0 := lots) (a1 := st) (l2 := H.map (·.sl)) (l3 := H.map (·.key)) (l4 := H.map (·.sh)) (l5 := H.map (·.off)) (fun x hx => by
  obtain ⟨y, hy, rfl⟩ := List.mem_map.1 hx
  have := hf y hy
  omega) (by rw [List.length_map]; exact hH)
 rw [← fl_off]
 have e : ∀ {α : Type} (f : Hd → α), (H.map f).length = 8 := fun f => by rw [List.length_map, hH]
 have q := kimberliteref05_Tender_All.calls k lots st A2 c2 (H.map (·.sl)) A3 c3 (H.map (·.key)) A4 c4 (H.map (·.sh)) A5 c5 (H.map (·.off)) _ w (by rw [e]; exact Kd.F_now f2) (by rw [e]; exact l2) (by rw [e]; exact Kd.F_now f3) (by rw [e]; exact l3) (by rw [e]; exact Kd.F_now f4) (by rw [e]; exact l4) (by rw [e]; exact Kd.F_now f5) (by rw [e]; exact l5) (hk k (Nat.le_refl _))
 simp only [e] at q
 exact q
end Go.Proofs.Ythfdjccdelbeeaa.PT
end
section
namespace Go.Proofs.Ythfdjccdelbeeaa.PT
open Go.RowKit Go.Proofs.YthfdjccdelbeeaaW.PrintWords Go.Proofs.YthfdjccdelbeeaaW.PrintLast Go.Proofs.YthfdjccdelbeeaaW.PrintMore
set_option linter.unusedVariables false
set_option linter.unusedSimpArgs false
theorem few_get {H : List Hd} (h : Few H) (n : Nat) : ((H.map (·.off)).getD n []).length ≤ 4 := by
 rw [List.getD_eq_getElem?_getD, List.getElem?_map]
 cases e : H[n]? with
 | none => simp
 | some x => exact h x (List.mem_of_getElem? e)
theorem set_tk {α : Type} {l x : List α} {i : Nat} {u : α} (hi : i < l.length) (hx : x.length = l.length) (ht : x.take i = l.take i) (hu : l[i]? = some u) : (x.set i u).take (i + 1) = l.take (i + 1) := by
 have hi' : i < x.length := by omega
 rw [List.getElem?_eq_getElem hi] at hu
 injection hu with hu
 rw [List.take_succ_eq_append_getElem (by simpa using hi'), List.take_succ_eq_append_getElem hi]
 rw [List.take_set_of_le (Nat.le_refl _), ht]; simp [hu]
theorem tk_all {α : Type} {l x : List α} {n : Nat} (hl : l.length = n) (hx : x.length = n) (h : x.take n = l.take n) : x = l := by
 rwa [List.take_of_length_le (by omega), List.take_of_length_le (by omega)] at h
def PXs (H : List Hd) (n : Nat) (x2 : List Bool) (x3 : List Int) (x4 : List Bool) (x5 : List (List S50)) : Prop := x2.length = 8 ∧ x3.length = 8 ∧ x4.length = 8 ∧ x5.length = 8 ∧ x2.take n = (H.map (·.sl)).take n ∧ x3.take n = (H.map (·.key)).take n ∧ x4.take n = (H.map (·.sh)).take n ∧ x5.take n = (H.map (·.off)).take n
theorem copy_next {H : List Hd} {n : Nat} {x2 : List Bool} {x3 : List Int} {x4 : List Bool} {x5 : List (List S50)} {u2 u4 : Bool} {u3 : Int} {ys : List S50} (h : PXs H n x2 x3 x4 x5) (hH : H.length = 8) (hn : n < 8) (e2 : u2 = rdOf false (H.map (·.sl)) (n : Int)) (e3 : u3 = rd (H.map (·.key)) (n : Int)) (e4 : u4 = rdOf false (H.map (·.sh)) (n : Int)) (e5 : ys = (H.map (·.off)).getD n []) : PXs H (n + 1) (x2.set n u2) (x3.set n u3) (x4.set n u4) (x5.set n ys) := by
 obtain ⟨l2, l3, l4, l5, t2, t3, t4, t5⟩ := h
 have hl : n < H.length := by omega
 have g : H[n]? = some H[n] := List.getElem?_eq_getElem hl
 refine ⟨by simpa using l2, by simpa using l3, by simpa using l4, by simpa using l5, set_tk (by simpa using hl) (by simp; omega) t2 ?_, set_tk (by simpa using hl) (by simp; omega) t3 ?_, set_tk (by simpa using hl) (by simp; omega) t4 ?_, set_tk (by simpa using hl) (by simp; omega) t5 ?_⟩
 ·
  rw [e2]; simp [rdOf, hl]
 ·
  rw [e3]; simp [rd, hl]
 ·
  rw [e4]; simp [rdOf, hl]
 ·
  rw [e5]; simp [hl]
theorem copy_end {H : List Hd} {x2 : List Bool} {x3 : List Int} {x4 : List Bool} {x5 : List (List S50)} (h : PXs H 8 x2 x3 x4 x5) (hH : H.length = 8) : x2 = H.map (·.sl) ∧ x3 = H.map (·.key) ∧ x4 = H.map (·.sh) ∧ x5 = H.map (·.off) := by
 obtain ⟨l2, l3, l4, l5, t2, t3, t4, t5⟩ := h
 exact ⟨tk_all (by simpa using hH) l2 t2, tk_all (by simpa using hH) l3 t3, tk_all (by simpa using hH) l4 t4, tk_all (by simpa using hH) l5 t5⟩
theorem six {W : World} {b : Nat} {v0 v1 v2 v3 v4 v5 : Value} {ty : Nat} (h : W.heap[b]? = some (.cells #[v0, v1, v2, v3, v4, v5] ty)) : W.cell? ⟨b, 0, none⟩ = some v0 ∧ W.cell? ⟨b, 1, none⟩ = some v1 ∧ W.cell? ⟨b, 2, none⟩ = some v2 ∧ W.cell? ⟨b, 3, none⟩ = some v3 ∧ W.cell? ⟨b, 4, none⟩ = some v4 ∧ W.cell? ⟨b, 5, none⟩ = some v5 :=
 ⟨by rw [blk_cell h 0]; rfl, by rw [blk_cell h 1]; rfl, by rw [blk_cell h 2]; rfl, by rw [blk_cell h 3]; rfl, by rw [blk_cell h 4]; rfl, by rw [blk_cell h 5]; rfl⟩
theorem put6 {W : World} {b : Nat} {v0 v1 v2 v3 v4 v5 : Value} {ty : Nat} (h : W.heap[b]? = some (.cells #[v0, v1, v2, v3, v4, v5] ty)) (u0 u1 u2 u3 u4 u5 : Value) :
  (World.setCell (World.setCell (World.setCell (World.setCell (World.setCell (World.setCell W ⟨b, 0, none⟩ u0) ⟨b, 1, none⟩ u1) ⟨b, 2, none⟩ u2) ⟨b, 3, none⟩ u3) ⟨b, 4, none⟩ u4) ⟨b, 5, none⟩ u5).heap[b]? = some (.cells #[u0, u1, u2, u3, u4, u5] ty) ∧ Chg (fun k => k = b) W (World.setCell (World.setCell (World.setCell (World.setCell (World.setCell (World.setCell W ⟨b, 0, none⟩ u0) ⟨b, 1, none⟩ u1) ⟨b, 2, none⟩ u2) ⟨b, 3, none⟩ u3) ⟨b, 4, none⟩ u4) ⟨b, 5, none⟩ u5) := by
 refine ⟨blk_put (blk_put (blk_put (blk_put (blk_put (blk_put h 0 u0 rfl) 1 u1 rfl) 2 u2 rfl) 3 u3 rfl) 4 u4 rfl) 5 u5 rfl, ?_⟩
 exact ((((((Chg.refl (fun k => k = b) W).set (p := ⟨b, 0, none⟩) (Or.inr rfl) u0).set (p := ⟨b, 1, none⟩) (Or.inr rfl) u1).set (p := ⟨b, 2, none⟩) (Or.inr rfl) u2).set (p := ⟨b, 3, none⟩) (Or.inr rfl) u3).set (p := ⟨b, 4, none⟩) (Or.inr rfl) u4).set (p := ⟨b, 5, none⟩) (Or.inr rfl) u5
set_option maxHeartbeats 12800000 in
set_option maxRecDepth 100000 in
theorem Copy_s (w : World) (ok : Nat → Prop) (v : Value) (lots st : Int) (H : List Hd) (h : SV w ok v lots st H) (hH : H.length = 8) (hf : Few H) (hl1 : 1 ≤ lots) (hl2 : lots ≤ 12) : Calls Try.prog 71 #[v] w fun e w' => ∃ v2 v3 v4 v5 : Value, e = .returned (.agg #[.int .i64 lots, .int .i64 st, v2, v3, v4, v5]) ∧ Kd.R Kd.bool 4 w' w.heap.size (fun k => some k ≠ v4.ownBlock) v2 (H.map (·.sl)) ∧ Kd.R (Kd.int .u64) 36 w' w.heap.size (fun _ => True) v3 (H.map (·.key)) ∧ Kd.R Kd.bool 4 w' w.heap.size (fun k => some k ≠ v2.ownBlock) v4 (H.map (·.sh)) ∧ Kd.S (Kd.slice 50 k50) 22 w' w.heap.size (fun _ => True) v5 (H.map (·.off)) ∧ Below w.heap.size w w' := by
 obtain ⟨A2, A3, A4, A5, c2, c3, c4, c5, rfl, ⟨l2, f2⟩, ⟨l3, f3⟩, ⟨l4, f4⟩, l5, f5⟩ := h
 have hu93 := Try.underlying93
 have HL1 := lhid hl1
 have HL2 := lhid hl2
 have HH := lhid hH
 have HL := lhid (And.intro l2 (And.intro l3 (And.intro l4 l5)))
 have HF2 := lhid (Kd.F_now f2)
 have HF3 := lhid (Kd.F_now f3)
 have HF4 := lhid (Kd.F_now f4)
 have HF5 := lhid (Kd.F_now f5)
 have HFE := lhid hf
 have HC2 := lhid HF2.out
 have HC3 := lhid HF3.out
 have HC4 := lhid HF4.out
 have HC5 := lhid HF5.out
 clear f2 f3 f4 f5 l2 l3 l4 l5 hH hl1 hl2 hf
 go_enter Try.func71, Try.ntmps71
 have HB_1 := lhid (Below.refl w.heap.size w)
 go_upto_region 1 with (fail)
 have hb := Zba (Below.refl w.heap.size w) (.cells #[.int .i64 lots, .int .i64 st, .slice A2 8 c2, .slice A3 8 c3, .slice A4 8 c4, .slice A5 8 c5] 93)
 have hn := blk_new w (.cells #[.int .i64 lots, .int .i64 st, .slice A2 8 c2, .slice A3 8 c3, .slice A4 8 c4, .slice A5 8 c5] 93)
 have HZ1 := lhid (show (World.alloc w (.cells #[.int .i64 lots, .int .i64 st, .slice A2 8 c2, .slice A3 8 c3, .slice A4 8 c4, .slice A5 8 c5] 93)).heap.size = w.heap.size + 1 from by simp)
 generalize hq : World.alloc w (.cells #[.int .i64 lots, .int .i64 st, .slice A2 8 c2, .slice A3 8 c3, .slice A4 8 c4, .slice A5 8 c5] 93) = w1 at hb hn HZ1 ⊢
 clear hq
 have HB_2 := lhid (below_then HB_1.out HB_1.out.size hb)
 have S2_3 := lhid (Kd.C_below HF2.out hb)
 have S3_4 := lhid (Kd.C_below HF3.out hb)
 have S4_5 := lhid (Kd.C_below HF4.out hb)
 have S5_6 := lhid (Kd.C_below HF5.out hb)
 clear HB_1 HF2 HF3 HF4 HF5 hb
 have TB_7 := lhid (hn)
 clear hn
 obtain ⟨tb, htb⟩ : ∃ q, q = w.heap.size := ⟨_, rfl⟩
 rw [← htb] at TB_7 ⊢
 have HTB := lhid htb
 clear htb
 have hb := Zba (Below.refl w1.heap.size w1) (.cells #[.int .i64 0, .int .i64 0, .slice none 0 0, .slice none 0 0, .slice none 0 0, .slice none 0 0] 93)
 have hn := blk_new w1 (.cells #[.int .i64 0, .int .i64 0, .slice none 0 0, .slice none 0 0, .slice none 0 0, .slice none 0 0] 93)
 have HZ2 := lhid (show (World.alloc w1 (.cells #[.int .i64 0, .int .i64 0, .slice none 0 0, .slice none 0 0, .slice none 0 0, .slice none 0 0] 93)).heap.size = w1.heap.size + 1 from by simp)
 generalize hq : World.alloc w1 (.cells #[.int .i64 0, .int .i64 0, .slice none 0 0, .slice none 0 0, .slice none 0 0, .slice none 0 0] 93) = w2 at hb hn HZ2 ⊢
 clear hq
 have HB_8 := lhid (below_then HB_2.out HB_2.out.size hb)
 have S2_9 := lhid (Kd.C_below S2_3.out hb)
 have S3_10 := lhid (Kd.C_below S3_4.out hb)
 have S4_11 := lhid (Kd.C_below S4_5.out hb)
 have S5_12 := lhid (Kd.C_below S5_6.out hb)
 have TB_13 := lhid (blk_below TB_7.out hb)
 clear HB_2 S2_3 S3_4 S4_5 S5_6 TB_7 hb
 have RB_14 := lhid (hn)
 clear hn
 obtain ⟨rb, hrb⟩ : ∃ q, q = tb + 1 := ⟨_, rfl⟩
 rw [show w1.heap.size = rb by have h1 := HZ1.out; have h2 := HTB.out; omega] at RB_14
 rw [← hrb]
 have HRB := lhid hrb
 clear hrb
 have t0 := (blk_cell TB_13.out 0).trans rfl
 have t1 := (blk_cell TB_13.out 1).trans rfl
 go_wp2_with fail
 try any_goals (exfalso; omega)
 with_reducible refine (kimberliteref05_New.calls lots _ _ _ _ _ _ _ w2 (New_f HL1.out HL2.out)).mono ?_
 rintro e w10 ⟨v2, v3, v4, v5, rfl, g2, g3, g4, g5, hb⟩
 have G2 := lhid g2
 have G3 := lhid g3
 have G4 := lhid g4
 have G5 := lhid g5
 clear g2 g3 g4 g5 t0 t1
 obtain ⟨b2, d2, rfl, e2⟩ := Kd.R_form G2.out (by decide)
 obtain ⟨b3, d3, rfl, e3⟩ := Kd.R_form G3.out (by decide)
 obtain ⟨b4, d4, rfl, e4⟩ := Kd.R_form G4.out (by decide)
 obtain ⟨b5, d5, rfl, e5⟩ := Kd.S_form G5.out (by decide)
 have HB_15 := lhid (below_then HB_8.out HB_8.out.size hb)
 have S2_16 := lhid (Kd.C_below S2_9.out hb)
 have S3_17 := lhid (Kd.C_below S3_10.out hb)
 have S4_18 := lhid (Kd.C_below S4_11.out hb)
 have S5_19 := lhid (Kd.C_below S5_12.out hb)
 have TB_20 := lhid (blk_below TB_13.out hb)
 have RB_21 := lhid (blk_below RB_14.out hb)
 clear HB_8 S2_9 S3_10 S4_11 S5_12 TB_13 RB_14 hb
 go_upto_region 2 with (fail)
 try any_goals (exfalso; omega)
 have hb := Zba (Below.refl w10.heap.size w10) (.cells #[.int .i64 lots, .int .i64 0, .slice (some ⟨b2, 0, none⟩) 8 d2, .slice (some ⟨b3, 0, none⟩) 8 d3, .slice (some ⟨b4, 0, none⟩) 8 d4, .slice (some ⟨b5, 0, none⟩) 8 d5] 93)
 have hn := blk_new w10 (.cells #[.int .i64 lots, .int .i64 0, .slice (some ⟨b2, 0, none⟩) 8 d2, .slice (some ⟨b3, 0, none⟩) 8 d3, .slice (some ⟨b4, 0, none⟩) 8 d4, .slice (some ⟨b5, 0, none⟩) 8 d5] 93)
 have HZ11 := lhid (show (World.alloc w10 (.cells #[.int .i64 lots, .int .i64 0, .slice (some ⟨b2, 0, none⟩) 8 d2, .slice (some ⟨b3, 0, none⟩) 8 d3, .slice (some ⟨b4, 0, none⟩) 8 d4, .slice (some ⟨b5, 0, none⟩) 8 d5] 93)).heap.size = w10.heap.size + 1 from by simp)
 generalize hq : World.alloc w10 (.cells #[.int .i64 lots, .int .i64 0, .slice (some ⟨b2, 0, none⟩) 8 d2, .slice (some ⟨b3, 0, none⟩) 8 d3, .slice (some ⟨b4, 0, none⟩) 8 d4, .slice (some ⟨b5, 0, none⟩) 8 d5] 93) = w11 at hb hn HZ11 ⊢
 clear hq
 have HB_22 := lhid (below_then HB_15.out HB_15.out.size hb)
 have S2_23 := lhid (Kd.C_below S2_16.out hb)
 have S3_24 := lhid (Kd.C_below S3_17.out hb)
 have S4_25 := lhid (Kd.C_below S4_18.out hb)
 have S5_26 := lhid (Kd.C_below S5_19.out hb)
 have TB_27 := lhid (blk_below TB_20.out hb)
 have RB_28 := lhid (blk_below RB_21.out hb)
 have G2_29 := lhid (Kd.R_below G2.out hb)
 have G3_30 := lhid (Kd.R_below G3.out hb)
 have G4_31 := lhid (Kd.R_below G4.out hb)
 have G5_32 := lhid (Kd.S_below G5.out hb)
 clear HB_15 S2_16 S3_17 S4_18 S5_19 TB_20 RB_21 G2 G3 G4 G5 hb
 have NB_33 := lhid (hn)
 clear hn
 obtain ⟨nb, hnb⟩ : ∃ q, q = w10.heap.size := ⟨_, rfl⟩
 rw [← hnb] at NB_33 ⊢
 have HNB := lhid hnb
 clear hnb
 have t1 := (blk_cell TB_27.out 1).trans rfl
 have n1 := (blk_cell NB_33.out 1).trans rfl
 have hfz := fun o => blk_frozen NB_33.out o
 go_upto_region 4 with (fail)
 try any_goals (exfalso; omega)
 clear t1 n1 hfz
 have HNE := lhid (show tb < b2 ∧ tb < b3 ∧ tb < b4 ∧ tb < b5 ∧ rb < b2 ∧ rb < b3 ∧ rb < b4 ∧ rb < b5 ∧ b2 < nb ∧ b3 < nb ∧ b4 < nb ∧ b5 < nb ∧ w.heap.size ≤ tb ∧ tb < rb ∧ rb < nb by have h1 := HTB.out; have h2 := HRB.out; have h3 := HNB.out; have h4 := HZ1.out; have h5 := HZ2.out; have h6 := e2; have h7 := e3; have h8 := e4; have h9 := e5; omega)
 have HE24 := lhid (show b2 ≠ b4 from fun e => by have h1 := G2_29.out.1 b2 (by simp [Value.ownBlock]); exact h1 (by simp [Value.ownBlock, e]))
 clear e2 e3 e4 e5
 have NB2 := lhid (show (World.setCell w11 ⟨nb, 1, none⟩ (.int .i64 st)).heap[nb]? = some (.cells #[.int .i64 lots, .int .i64 st, .slice (some ⟨b2, 0, none⟩) 8 d2, .slice (some ⟨b3, 0, none⟩) 8 d3, .slice (some ⟨b4, 0, none⟩) 8 d4, .slice (some ⟨b5, 0, none⟩) 8 d5] 93) from blk_put NB_33.out 1 _ rfl)
 have TB2 := lhid (blk_far TB_27.out (p := ⟨nb, 1, none⟩) (by have h1 := HNE.out; show tb ≠ nb; omega) (.int .i64 st))
 have RB2 := lhid (blk_far RB_28.out (p := ⟨nb, 1, none⟩) (by have h1 := HNE.out; show rb ≠ nb; omega) (.int .i64 st))
 have G22 := lhid (Kd.R_lower (Kd.R_set G2_29.out NB_33.out (by decide) 1 (.int .i64 st)) (show w.heap.size ≤ w2.heap.size by have h4 := HZ1.out; have h5 := HZ2.out; omega))
 have G32 := lhid (Kd.R_lower (Kd.R_set G3_30.out NB_33.out (by decide) 1 (.int .i64 st)) (show w.heap.size ≤ w2.heap.size by have h4 := HZ1.out; have h5 := HZ2.out; omega))
 have G42 := lhid (Kd.R_lower (Kd.R_set G4_31.out NB_33.out (by decide) 1 (.int .i64 st)) (show w.heap.size ≤ w2.heap.size by have h4 := HZ1.out; have h5 := HZ2.out; omega))
 have G52 := lhid (Kd.S_lower (Kd.S_set G5_32.out NB_33.out (by decide) 1 (.int .i64 st)) (show w.heap.size ≤ w2.heap.size by have h4 := HZ1.out; have h5 := HZ2.out; omega))
 have HB2 := lhid (HB_22.out.setCell (p := ⟨nb, 1, none⟩) (by have h1 := HNE.out; show w.heap.size ≤ nb; omega) (.int .i64 st))
 clear HB_22 TB_27 RB_28 NB_33 G2_29 G3_30 G4_31 G5_32 S2_23 S3_24 S4_25 S5_26
 generalize World.setCell w11 ⟨nb, 1, none⟩ (.int .i64 st) = w12 at NB2 TB2 RB2 G22 G32 G42 G52 HB2 ⊢
 go_loopw [5] (fun i wr => ∃ n : Nat, n ≤ 8 ∧ i = .int .i64 n ∧ ∃ (x2 : List Bool) (x3 : List Int) (x4 : List Bool) (x5 : List (List S50)), Hid (PXs H n x2 x3 x4 x5) ∧ Hid (Kd.R Kd.bool 4 wr w.heap.size (fun k => some k ≠ Value.ownBlock (.slice (some ⟨b4, 0, none⟩) 8 d4)) (.slice (some ⟨b2, 0, none⟩) 8 d2) x2) ∧ Hid (Kd.R (Kd.int .u64) 36 wr w.heap.size (fun _ => True) (.slice (some ⟨b3, 0, none⟩) 8 d3) x3) ∧ Hid (Kd.R Kd.bool 4 wr w.heap.size (fun k => some k ≠ Value.ownBlock (.slice (some ⟨b2, 0, none⟩) 8 d2)) (.slice (some ⟨b4, 0, none⟩) 8 d4) x4) ∧ Hid (Kd.S (Kd.slice 50 k50) 22 wr w.heap.size (fun _ => True) (.slice (some ⟨b5, 0, none⟩) 8 d5) x5) ∧ Hid (wr.heap[tb]? = some (.cells #[.int .i64 lots, .int .i64 st, .slice A2 8 c2, .slice A3 8 c3, .slice A4 8 c4, .slice A5 8 c5] 93)) ∧ Hid (wr.heap[rb]? = some (.cells #[.int .i64 0, .int .i64 0, .slice none 0 0, .slice none 0 0, .slice none 0 0, .slice none 0 0] 93)) ∧ Hid (wr.heap[nb]? = some (.cells #[.int .i64 lots, .int .i64 st, .slice (some ⟨b2, 0, none⟩) 8 d2, .slice (some ⟨b3, 0, none⟩) 8 d3, .slice (some ⟨b4, 0, none⟩) 8 d4, .slice (some ⟨b5, 0, none⟩) 8 d5] 93)) ∧ Hid (Below w.heap.size w wr)) (fun i _ => 8 - (intOf i).toNat)
 case atStart => exact ⟨0, by omega, rfl, List.replicate 8 false, List.replicate 8 0, List.replicate 8 false, List.replicate 8 [], lhid ⟨rfl, rfl, rfl, rfl, rfl, rfl, rfl, rfl⟩, G22, G32, G42, G52, TB2, RB2, NB2, HB2⟩
 case round =>
  clear G22 G32 G42 G52 TB2 RB2 NB2 HB2
  obtain ⟨n, hn, rfl, x2, x3, x4, x5, HPX, G2r, G3r, G4r, G5r, TBr, RBr, NBr, HBr⟩ := hrel
  have tb2 := (blk_cell TBr.out 2).trans rfl
  by_cases hlt : n < 8
  ·
   have hlt2 : (n : Int) < 8 := by omega
   have hn0 : (0 : Int) ≤ (n : Int) := by omega
   obtain ⟨ad2, eA2, y2⟩ := Kd.at_bool (Kd.C_below HC2.out HBr.out) (n : Int) hn0 hlt2
   subst eA2
   simp only [Int.toNat_natCast] at y2
   obtain ⟨u2, hu2⟩ : ∃ u, u = rdOf false (H.map (·.sl)) (n : Int) := ⟨_, rfl⟩
   rw [← hu2] at y2
   have HU2 := lhid hu2
   clear hu2
   have nbc := (blk_cell NBr.out 2).trans rfl
   obtain ⟨dc, df⟩ := Kd.R_celln false G2r.out (n : Int) hn0 hlt2
   simp only [Int.toNat_natCast] at dc df
   go_upto_region 6 with (fail)
   try any_goals (exfalso; omega)
   go_still_tail 9, (by kernel_rfl)
   change wpList _ _ _ _ _ wr.drew
   have hb := Zbd (Below.refl wr.heap.size wr)
   have G2_34 := lhid (Kd.R_below G2r.out hb)
   have G3_35 := lhid (Kd.R_below G3r.out hb)
   have G4_36 := lhid (Kd.R_below G4r.out hb)
   have G5_37 := lhid (Kd.S_below G5r.out hb)
   have TB_38 := lhid (blk_below TBr.out hb)
   have RB_39 := lhid (blk_below RBr.out hb)
   have NB_40 := lhid (blk_below NBr.out hb)
   have HB_41 := lhid (below_then HBr.out HBr.out.size hb)
   clear G2r G3r G4r G5r TBr RBr NBr HBr hb
   clear tb2 nbc dc df y2
   generalize wr.drew = wrd at G2_34 G3_35 G4_36 G5_37 TB_38 RB_39 NB_40 HB_41 ⊢
   obtain ⟨dc, df⟩ := Kd.R_celln false G2_34.out (n : Int) hn0 hlt2
   simp only [Int.toNat_natCast] at dc df
   go_upto_region 7 with (fail)
   try any_goals (exfalso; omega)
   clear dc df
   obtain ⟨css2, hss2⟩ := Kd.R_typed G2_34.out b2 (by simp [Value.ownBlock])
   have G2s2 := lhid (show Kd.R Kd.bool 4 (World.setCell wrd ⟨b2, n, none⟩ (.bool u2)) w.heap.size (fun k => some k ≠ Value.ownBlock (.slice (some ⟨b4, 0, none⟩) 8 d4)) (.slice (some ⟨b2, 0, none⟩) 8 d2) (x2.set n u2) from by have h1 := Kd.R_putn G2_34.out (n : Int) u2; rwa [Int.toNat_natCast] at h1)
   have G3s2 := lhid (Kd.R_set G3_35.out hss2 (by decide) n (.bool u2))
   have G4s2 := lhid (Kd.R_far (p := ⟨b2, n, none⟩) G4_36.out (fun k q e => q (by rw [e]; simp [Value.ownBlock])) (.bool u2))
   have G5s2 := lhid (Kd.S_set G5_37.out hss2 (by decide) n (.bool u2))
   have TBs2 := lhid (blk_far TB_38.out (p := ⟨b2, n, none⟩) (by have h1 := HNE.out; show tb ≠ b2; omega) (.bool u2))
   have RBs2 := lhid (blk_far RB_39.out (p := ⟨b2, n, none⟩) (by have h1 := HNE.out; show rb ≠ b2; omega) (.bool u2))
   have NBs2 := lhid (blk_far NB_40.out (p := ⟨b2, n, none⟩) (by have h1 := HNE.out; show nb ≠ b2; omega) (.bool u2))
   have HBs2 := lhid (HB_41.out.setCell (p := ⟨b2, n, none⟩) (by have h1 := HNE.out; show w.heap.size ≤ b2; omega) (.bool u2))
   clear hss2 G2_34 G3_35 G4_36 G5_37 TB_38 RB_39 NB_40 HB_41
   clear css2
   generalize World.setCell wrd ⟨b2, n, none⟩ (.bool u2) = wzs2 at G2s2 G3s2 G4s2 G5s2 TBs2 RBs2 NBs2 HBs2 ⊢
   have tb2 := (blk_cell TBs2.out 3).trans rfl
   obtain ⟨ad3, eA3, y3⟩ := Kd.at_int (Kd.C_below HC3.out HBs2.out) (n : Int) hn0 hlt2
   subst eA3
   simp only [Int.toNat_natCast] at y3
   obtain ⟨u3, hu3⟩ : ∃ u, u = rd (H.map (·.key)) (n : Int) := ⟨_, rfl⟩
   rw [← hu3] at y3
   have HU3 := lhid hu3
   clear hu3
   have nbc := (blk_cell NBs2.out 3).trans rfl
   obtain ⟨dc, df⟩ := Kd.R_celln (0 : Int) G3s2.out (n : Int) hn0 hlt2
   simp only [Int.toNat_natCast] at dc df
   go_upto_region 7 with (fail)
   try any_goals (exfalso; omega)
   go_still_tail 9, (by kernel_rfl)
   change wpList _ _ _ _ _ wzs2.drew
   have hb := Zbd (Below.refl wzs2.heap.size wzs2)
   have G2_42 := lhid (Kd.R_below G2s2.out hb)
   have G3_43 := lhid (Kd.R_below G3s2.out hb)
   have G4_44 := lhid (Kd.R_below G4s2.out hb)
   have G5_45 := lhid (Kd.S_below G5s2.out hb)
   have TB_46 := lhid (blk_below TBs2.out hb)
   have RB_47 := lhid (blk_below RBs2.out hb)
   have NB_48 := lhid (blk_below NBs2.out hb)
   have HB_49 := lhid (below_then HBs2.out HBs2.out.size hb)
   clear G2s2 G3s2 G4s2 G5s2 TBs2 RBs2 NBs2 HBs2 hb
   clear tb2 nbc dc df y3
   generalize wzs2.drew = wzs2d at G2_42 G3_43 G4_44 G5_45 TB_46 RB_47 NB_48 HB_49 ⊢
   obtain ⟨dc, df⟩ := Kd.R_celln (0 : Int) G3_43.out (n : Int) hn0 hlt2
   simp only [Int.toNat_natCast] at dc df
   go_upto_region 8 with (fail)
   try any_goals (exfalso; omega)
   clear dc df
   obtain ⟨css3, hss3⟩ := Kd.R_typed G3_43.out b3 (by simp [Value.ownBlock])
   have G2s3 := lhid (Kd.R_set G2_42.out hss3 (by decide) n (.int .u64 u3))
   have G3s3 := lhid (show Kd.R (Kd.int .u64) 36 (World.setCell wzs2d ⟨b3, n, none⟩ (.int .u64 u3)) w.heap.size (fun _ => True) (.slice (some ⟨b3, 0, none⟩) 8 d3) (x3.set n u3) from by have h1 := Kd.R_putn G3_43.out (n : Int) u3; rwa [Int.toNat_natCast] at h1)
   have G4s3 := lhid (Kd.R_set G4_44.out hss3 (by decide) n (.int .u64 u3))
   have G5s3 := lhid (Kd.S_set G5_45.out hss3 (by decide) n (.int .u64 u3))
   have TBs3 := lhid (blk_far TB_46.out (p := ⟨b3, n, none⟩) (by have h1 := HNE.out; show tb ≠ b3; omega) (.int .u64 u3))
   have RBs3 := lhid (blk_far RB_47.out (p := ⟨b3, n, none⟩) (by have h1 := HNE.out; show rb ≠ b3; omega) (.int .u64 u3))
   have NBs3 := lhid (blk_far NB_48.out (p := ⟨b3, n, none⟩) (by have h1 := HNE.out; show nb ≠ b3; omega) (.int .u64 u3))
   have HBs3 := lhid (HB_49.out.setCell (p := ⟨b3, n, none⟩) (by have h1 := HNE.out; show w.heap.size ≤ b3; omega) (.int .u64 u3))
   clear hss3 G2_42 G3_43 G4_44 G5_45 TB_46 RB_47 NB_48 HB_49
   clear css3
   generalize World.setCell wzs2d ⟨b3, n, none⟩ (.int .u64 u3) = wzs3 at G2s3 G3s3 G4s3 G5s3 TBs3 RBs3 NBs3 HBs3 ⊢
   have tb2 := (blk_cell TBs3.out 4).trans rfl
   obtain ⟨ad4, eA4, y4⟩ := Kd.at_bool (Kd.C_below HC4.out HBs3.out) (n : Int) hn0 hlt2
   subst eA4
   simp only [Int.toNat_natCast] at y4
   obtain ⟨u4, hu4⟩ : ∃ u, u = rdOf false (H.map (·.sh)) (n : Int) := ⟨_, rfl⟩
   rw [← hu4] at y4
   have HU4 := lhid hu4
   clear hu4
   have nbc := (blk_cell NBs3.out 4).trans rfl
   obtain ⟨dc, df⟩ := Kd.R_celln false G4s3.out (n : Int) hn0 hlt2
   simp only [Int.toNat_natCast] at dc df
   go_upto_region 8 with (fail)
   try any_goals (exfalso; omega)
   go_still_tail 9, (by kernel_rfl)
   change wpList _ _ _ _ _ wzs3.drew
   have hb := Zbd (Below.refl wzs3.heap.size wzs3)
   have G2_50 := lhid (Kd.R_below G2s3.out hb)
   have G3_51 := lhid (Kd.R_below G3s3.out hb)
   have G4_52 := lhid (Kd.R_below G4s3.out hb)
   have G5_53 := lhid (Kd.S_below G5s3.out hb)
   have TB_54 := lhid (blk_below TBs3.out hb)
   have RB_55 := lhid (blk_below RBs3.out hb)
   have NB_56 := lhid (blk_below NBs3.out hb)
   have HB_57 := lhid (below_then HBs3.out HBs3.out.size hb)
   clear G2s3 G3s3 G4s3 G5s3 TBs3 RBs3 NBs3 HBs3 hb
   clear tb2 nbc dc df y4
   generalize wzs3.drew = wzs3d at G2_50 G3_51 G4_52 G5_53 TB_54 RB_55 NB_56 HB_57 ⊢
   obtain ⟨dc, df⟩ := Kd.R_celln false G4_52.out (n : Int) hn0 hlt2
   simp only [Int.toNat_natCast] at dc df
   go_upto_region 10 with (fail)
   try any_goals (exfalso; omega)
   clear dc df
   obtain ⟨css4, hss4⟩ := Kd.R_typed G4_52.out b4 (by simp [Value.ownBlock])
   have G2s4 := lhid (Kd.R_far (p := ⟨b4, n, none⟩) G2_50.out (fun k q e => q (by rw [e]; simp [Value.ownBlock])) (.bool u4))
   have G3s4 := lhid (Kd.R_set G3_51.out hss4 (by decide) n (.bool u4))
   have G4s4 := lhid (show Kd.R Kd.bool 4 (World.setCell wzs3d ⟨b4, n, none⟩ (.bool u4)) w.heap.size (fun k => some k ≠ Value.ownBlock (.slice (some ⟨b2, 0, none⟩) 8 d2)) (.slice (some ⟨b4, 0, none⟩) 8 d4) (x4.set n u4) from by have h1 := Kd.R_putn G4_52.out (n : Int) u4; rwa [Int.toNat_natCast] at h1)
   have G5s4 := lhid (Kd.S_set G5_53.out hss4 (by decide) n (.bool u4))
   have TBs4 := lhid (blk_far TB_54.out (p := ⟨b4, n, none⟩) (by have h1 := HNE.out; show tb ≠ b4; omega) (.bool u4))
   have RBs4 := lhid (blk_far RB_55.out (p := ⟨b4, n, none⟩) (by have h1 := HNE.out; show rb ≠ b4; omega) (.bool u4))
   have NBs4 := lhid (blk_far NB_56.out (p := ⟨b4, n, none⟩) (by have h1 := HNE.out; show nb ≠ b4; omega) (.bool u4))
   have HBs4 := lhid (HB_57.out.setCell (p := ⟨b4, n, none⟩) (by have h1 := HNE.out; show w.heap.size ≤ b4; omega) (.bool u4))
   clear hss4 G2_50 G3_51 G4_52 G5_53 TB_54 RB_55 NB_56 HB_57
   clear css4
   generalize World.setCell wzs3d ⟨b4, n, none⟩ (.bool u4) = wzs4 at G2s4 G3s4 G4s4 G5s4 TBs4 RBs4 NBs4 HBs4 ⊢
   obtain ⟨ad5, c55, eA5, hc55, hK5, y5⟩ := Kd.C_get HC5.out ([] : List S50) (n : Int) hn0 hlt2
   subst eA5
   simp only [Int.toNat_natCast, show (Kd.slice 50 k50).sz = 1 from rfl, Nat.mul_one] at y5
   obtain ⟨As, cs, rfl, hls, hCs⟩ := hK5
   simp only [Int.toNat_natCast] at hls hCs
   have y5 := y5 0 _ rfl
   simp only [Int.toNat_natCast, Nat.add_zero] at y5
   obtain ⟨ys, hys⟩ : ∃ u, u = (H.map (·.off)).getD n [] := ⟨_, rfl⟩
   rw [← hys] at hls hCs y5
   have HYS := lhid hys
   have HCS := lhid hCs
   have HYL := lhid (show ys.length ≤ 4 from by rw [hys]; exact few_get HFE.out n)
   clear hc55 hys hCs hls
   have hb := Zbd (Below.refl wzs4.heap.size wzs4)
   have G2_58 := lhid (Kd.R_below G2s4.out hb)
   have G3_59 := lhid (Kd.R_below G3s4.out hb)
   have G4_60 := lhid (Kd.R_below G4s4.out hb)
   have G5_61 := lhid (Kd.S_below G5s4.out hb)
   have TB_62 := lhid (blk_below TBs4.out hb)
   have RB_63 := lhid (blk_below RBs4.out hb)
   have NB_64 := lhid (blk_below NBs4.out hb)
   have HB_65 := lhid (below_then HBs4.out HBs4.out.size hb)
   clear G2s4 G3s4 G4s4 G5s4 TBs4 RBs4 NBs4 HBs4 hb
   refine start_ (n := 12) (S := fun w' => w'.cell? ⟨nb, 5, none⟩ = some (.slice (some ⟨b5, 0, none⟩) 8 d5) ∧ w'.cell? ⟨tb, 5, none⟩ = some (.slice (some ad5) 8 c5) ∧ w'.cell? (ad5.add n) = some (.slice As ys.length cs)) (ds := [11]) (lsb 12 0) (by kernel_rfl) rfl (by kernel_rfl) ⟨(blk_cell NB_64.out 5).trans rfl, (blk_cell TB_62.out 5).trans rfl, (pw_cell_below HB_65.out y5)⟩ (fun hHeld => ?_)
   generalize wzs4.drew = w21 at G2_58 G3_59 G4_60 G5_61 TB_62 RB_63 NB_64 HB_65 hHeld ⊢
   refine pu 0 (some 50) 12 1 rfl rfl (v := ?_) (a' := ?_) ?_ ?_ ?_; rotate_left; (intro w'; go_simp; with_reducible rfl); rotate_left; (simp only [Act.put, pS]; rfl)
   refine pu 2 (some 52) 12 5 rfl rfl (v := ?_) (a' := ?_) ?_ ?_ ?_; rotate_left; (intro w'; go_simp; with_reducible rfl); rotate_left; (simp only [Act.put, pS]; rfl)
   refine pu 3 (some 53) 12 13 rfl rfl (v := ?_) (a' := ?_) ?_ ?_ ?_; rotate_left; (intro w'; go_simp; with_reducible rfl); rotate_left; (simp only [Act.put, pS]; rfl)
   refine pu 4 (some 54) 12 29 rfl rfl (v := ?_) (a' := ?_) ?_ ?_ ?_; rotate_left; (intro w'; go_simp; with_reducible rfl); rotate_left; (simp only [Act.put, pS]; rfl)
   refine pu 6 (some 56) 12 93 rfl rfl (v := ?_) (a' := ?_) ?_ ?_ ?_; rotate_left; (intro w'; go_simp; with_reducible rfl); rotate_left; (simp only [Act.put, pS]; rfl)
   refine tk 1 (some 51) 12 95 rfl rfl hHeld (v := ?_) (a' := ?_) ?_ ?_ ?_; rotate_left; (rintro w' ⟨s0, s1, s2⟩; go_simp; with_reducible rfl); rotate_left; (simp only [Act.put, pS]; rfl)
   refine tk 5 (some 55) 12 127 rfl rfl hHeld (v := ?_) (a' := ?_) ?_ ?_ ?_; rotate_left; (rintro w' ⟨s0, s1, s2⟩; go_simp; with_reducible rfl); rotate_left; (simp only [Act.put, pS]; rfl)
   refine pu 7 (some 57) 12 255 rfl rfl (v := ?_) (a' := ?_) ?_ ?_ ?_; rotate_left; (intro w'; go_simp; with_reducible rfl); rotate_left; (simp only [Act.put, pS]; rfl)
   refine tk 8 (some 58) 12 511 rfl rfl hHeld (v := ?_) (a' := ?_) ?_ ?_ ?_; rotate_left; (rintro w' ⟨s0, s1, s2⟩; go_simp; with_reducible rfl); rotate_left; (simp only [Act.put, pS]; rfl)
   refine one_ (i := 9) (N := some 59) (lsb 12 1023) rfl rfl (by kernel_rfl) (by decide) (fun K hK => ?_)
   have G50 := lhid (Kd.S_mono (Kd.S_bound G5_61.out) (ok' := fun k => True ∧ ¬ w21.heap.size ≤ k) (fun k q => ⟨trivial, by have h1 := q.2.2.1; omega⟩))
   have HB5N := lhid (Kd.S_lt G5_61.out b5 (by simp [Value.ownBlock]))
   refine Kd.R_append_rows_step k50 (w0 := w) w.heap.size (by rfl) (.tmp 53) (.tmp 58) 22 50 (.agg #[(.int .i64 0), (.int .i64 0), (.int .i64 0)]) 24 rfl Try.underlying22 info50 rfl (by decide) (by omega) (.slice none 0 0) ([] : List S50) ys _ _ _ (fun k_ => w21.heap.size ≤ k_) (fun _ => False) rfl rfl ?aO ?aR (fun _ _ h => h) (fun _ h => h.elim) ?aF ?aB ?aS ?aL ?_
   (case aR => exact Kd.C_below HCS.out HB_65.out)
   (case aB => exact HB_65.out)
   (case aF => exact (fun k_ hk => hk))
   (case aO => exact Kd.R_nil _ _ _ _ _)
   (case aS => exact HB_65.out.size)
   (case aL => have := HYL.out; simp; omega)
   intro v9 w9 ho9 hb9 hg9 hat9
   rw [List.nil_append] at ho9
   obtain ⟨A9, c90, rfl⟩ := Kd.R_slice ho9
   have G29 := lhid (Kd.R_grown G2_58.out hg9 (fun _ _ => by simp [Value.ownBlock]))
   have G39 := lhid (Kd.R_grown G3_59.out hg9 (fun _ _ => by simp [Value.ownBlock]))
   have G49 := lhid (Kd.R_grown G4_60.out hg9 (fun _ _ => by simp [Value.ownBlock]))
   have G59 := lhid (Kd.S_grown G50.out hg9 (fun _ _ => by simp [Value.ownBlock]))
   have TB9 := lhid (blk_grown TB_62.out hg9 (by simp [Value.ownBlock]))
   have RB9 := lhid (blk_grown RB_63.out hg9 (by simp [Value.ownBlock]))
   have NB9 := lhid (blk_grown NB_64.out hg9 (by simp [Value.ownBlock]))
   have HB9 := lhid hb9
   have HO9 := lhid ho9
   clear ho9 hb9 hg9 hat9
   clear G50 G2_58 G3_59 G4_60 G5_61 TB_62 RB_63 NB_64 HB_65
   refine hK.out _ _ ⟨(blk_cell NB9.out 5).trans rfl, (blk_cell TB9.out 5).trans rfl, (pw_cell_below HB9.out y5)⟩ (fun hHeld => ?_)
   clear hK K
   refine norm_ (a' := ?_) ?_ ?_
   rotate_left
   ·
    show Act.put _ (some 59) _ = _
    simp only [Act.put, pS]
    rfl
   refine pu 10 (some 60) 12 2047 rfl rfl (v := ?_) (a' := ?_) ?_ ?_ ?_; rotate_left; (intro w'; go_simp; with_reducible rfl); rotate_left; (simp only [Act.put, pS]; rfl)
   refine last_ (i := 11) (N := none) (lsb 12 4095) rfl rfl (by kernel_rfl) (by decide) (fun K hK => ?_)
   obtain ⟨c9, hcl9, hM9, hcc9, hf9⟩ := Kd.R_elem (Kd.S_R G59.out) ([] : List S50) (n : Int) hn0 hlt2
   obtain ⟨u9, rfl⟩ := List.length_eq_one_iff.1 (show c9.length = 1 from hcl9)
   have dc := hcc9 0 u9 rfl
   have df := hf9 0
   simp only [Int.toNat_natCast, show (Kd.slice 50 k50).sz = 1 from rfl, Nat.mul_one, Nat.add_zero] at dc df
   clear hcl9 hM9 hcc9 hf9
   refine skip_ (w1 := ?_) (by rfl) rfl ?_ ?_
   rotate_left
   ·
    go_simp
    rfl
   clear dc df
   refine hK.out _ _ ?_
   clear hK K
   refine done_ (by kernel_rfl) ?_
   
   obtain ⟨oki, c9, hcl9, hM9, hcc9, hf9, hok9, hH9⟩ := Kd.S_elem G59.out ([] : List S50) (n : Int) hn0 hlt2
   obtain ⟨u9, rfl⟩ := List.length_eq_one_iff.1 (show c9.length = 1 from hcl9)
   obtain ⟨cs9, hs9⟩ := Kd.S_typed G59.out b5 (by simp [Value.ownBlock])
   have hsg := Kd.S_seg (ok := fun _ => True) (okg := fun k => w21.heap.size ≤ k) hH9 hn0 hlt2 (seg := [(.slice A9 ys.length c90)]) (j := 0) (show 1 ≤ 1 from by decide) (x' := ys) (okp := fun k => w21.heap.size ≤ k ∧ k ≠ b5) ⟨_, rfl, Kd.R_types HO9.out hs9 (by decide)⟩ (fun k q => Or.inr q.1) (fun k q => ⟨trivial, fun e => by have h1 := HB5N.out; have h2 : w21.heap.size ≤ k := q; omega⟩)
   simp only [Int.toNat_natCast, show (Kd.slice 50 k50).sz = 1 from rfl, Nat.mul_one, Nat.add_zero] at hsg
   have hsg1 := lhid (show Kd.S (Kd.slice 50 k50) 22 (World.setCell w9 ⟨b5, n, none⟩ (.slice A9 ys.length c90)) w.heap.size (fun _ => True) (.slice (some ⟨b5, 0, none⟩) 8 d5) (x5.set n ys) from hsg.1)
   clear hcl9 hM9 hcc9 hf9 hs9 hsg hok9 hH9
   clear oki
   obtain ⟨css5, hss5⟩ := Kd.S_typed G59.out b5 (by simp [Value.ownBlock])
   have G2s5 := lhid (Kd.R_set G29.out hss5 (by decide) n (.slice A9 ys.length c90))
   have G3s5 := lhid (Kd.R_set G39.out hss5 (by decide) n (.slice A9 ys.length c90))
   have G4s5 := lhid (Kd.R_set G49.out hss5 (by decide) n (.slice A9 ys.length c90))
   have G5s5 := lhid (hsg1.out)
   have TBs5 := lhid (blk_far TB9.out (p := ⟨b5, n, none⟩) (by have h1 := HNE.out; show tb ≠ b5; omega) (.slice A9 ys.length c90))
   have RBs5 := lhid (blk_far RB9.out (p := ⟨b5, n, none⟩) (by have h1 := HNE.out; show rb ≠ b5; omega) (.slice A9 ys.length c90))
   have NBs5 := lhid (blk_far NB9.out (p := ⟨b5, n, none⟩) (by have h1 := HNE.out; show nb ≠ b5; omega) (.slice A9 ys.length c90))
   have HBs5 := lhid (HB9.out.setCell (p := ⟨b5, n, none⟩) (by have h1 := HNE.out; show w.heap.size ≤ b5; omega) (.slice A9 ys.length c90))
   clear hss5 G29 G39 G49 G59 TB9 RB9 NB9 HB9
   clear css5
   generalize World.setCell w9 ⟨b5, n, none⟩ (.slice A9 ys.length c90) = wzs5 at G2s5 G3s5 G4s5 G5s5 TBs5 RBs5 NBs5 HBs5 ⊢
   go_wp2_with fail
   go_roundw
   case rel => exact ⟨n + 1, by omega, by simp, x2.set n u2, x3.set n u3, x4.set n u4, x5.set n ys, lhid (copy_next HPX.out HH.out hlt HU2.out HU3.out HU4.out HYS.out), G2s5, G3s5, G4s5, G5s5, TBs5, RBs5, NBs5, HBs5⟩
   case measure => simp [intOf]; omega
  have hne : n = 8 := by omega
  subst hne
  have hq := copy_end HPX.out HH.out
  obtain ⟨q2, q3, q4, q5⟩ := hq
  subst q2 q3 q4 q5
  clear HPX hn hlt
  go_upto_region 11 with (fail)
  try any_goals (exfalso; omega)
  clear tb2
  obtain ⟨n0, n1, n2, n3, n4, n5⟩ := six NBr.out
  obtain ⟨r0, r1, r2, r3, r4, r5⟩ := six RBr.out
  have hfz := fun o => blk_frozen RBr.out o
  go_wp2_with fail
  have hp := put6 RBr.out (.int .i64 lots) (.int .i64 st) (.slice (some ⟨b2, 0, none⟩) 8 d2) (.slice (some ⟨b3, 0, none⟩) 8 d3) (.slice (some ⟨b4, 0, none⟩) 8 d4) (.slice (some ⟨b5, 0, none⟩) 8 d5)
  clear n0 n1 n2 n3 n4 n5 r0 r1 r2 r3 r4 r5 hfz
  generalize World.setCell (World.setCell (World.setCell (World.setCell (World.setCell (World.setCell (wr) ⟨rb, 0, none⟩ (.int .i64 lots)) ⟨rb, 1, none⟩ (.int .i64 st)) ⟨rb, 2, none⟩ (.slice (some ⟨b2, 0, none⟩) 8 d2)) ⟨rb, 3, none⟩ (.slice (some ⟨b3, 0, none⟩) 8 d3)) ⟨rb, 4, none⟩ (.slice (some ⟨b4, 0, none⟩) 8 d4)) ⟨rb, 5, none⟩ (.slice (some ⟨b5, 0, none⟩) 8 d5) = wf at hp ⊢
  obtain ⟨hp1, hp2⟩ := hp
  refine bodyPost_ret (results_cell_row rfl _ _ rb 93 #[(.int .i64 lots), (.int .i64 st), (.slice (some ⟨b2, 0, none⟩) 8 d2), (.slice (some ⟨b3, 0, none⟩) 8 d3), (.slice (some ⟨b4, 0, none⟩) 8 d4), (.slice (some ⟨b5, 0, none⟩) 8 d5)] (0, 0) _ rfl hp1 Try.underlying93 rfl (by kernel_rfl)) rfl ?_
  exact ⟨_, _, _, _, rfl, Kd.R_mono (Kd.R_step (Kd.R_types G2r.out RBr.out (by decide)) (fun k q hk => hp2.block k hk q.2)) (fun k q => q.1), Kd.R_mono (Kd.R_step (Kd.R_types G3r.out RBr.out (by decide)) (fun k q hk => hp2.block k hk q.2)) (fun k q => q.1), Kd.R_mono (Kd.R_step (Kd.R_types G4r.out RBr.out (by decide)) (fun k q hk => hp2.block k hk q.2)) (fun k q => q.1), Kd.S_mono (Kd.S_step (Kd.S_types G5r.out RBr.out (by decide)) (fun k q hk => hp2.block k hk q.2)) (fun k q => q.1), HBr.out.trans (hp2.below HBr.out.size (fun k q => by have h1 := HNE.out; have h2 : k = rb := q; omega))⟩
end Go.Proofs.Ythfdjccdelbeeaa.PT
end
section
namespace Go.Proofs.Ythfdjccdelbeeaa.PT
open Go.RowKit Go.Proofs.YthfdjccdelbeeaaW.PrintWords Go.Proofs.YthfdjccdelbeeaaW.PrintLast Go.Proofs.YthfdjccdelbeeaaW.PrintMore
set_option linter.unusedVariables false
set_option linter.unusedSimpArgs false
structure CR (W : World) (base b2 d2 b3 d3 b4 d4 b5 d5 : Nat) (x2 : List Bool) (x3 : List Int) (x4 : List Bool) (x5 : List (List S50)) : Prop where
 g2 : Kd.R Kd.bool 4 W base (fun k => some k ≠ (Value.slice (some ⟨b4, 0, none⟩) 8 d4).ownBlock) (.slice (some ⟨b2, 0, none⟩) 8 d2) x2
 g3 : Kd.R (Kd.int .u64) 36 W base (fun _ => True) (.slice (some ⟨b3, 0, none⟩) 8 d3) x3
 g4 : Kd.R Kd.bool 4 W base (fun k => some k ≠ (Value.slice (some ⟨b2, 0, none⟩) 8 d2).ownBlock) (.slice (some ⟨b4, 0, none⟩) 8 d4) x4
 g5 : Kd.S (Kd.slice 50 k50) 22 W base (fun _ => True) (.slice (some ⟨b5, 0, none⟩) 8 d5) x5
section
variable {W W1 : World} {base base' b2 d2 b3 d3 b4 d4 b5 d5 : Nat} {x2 : List Bool} {x3 : List Int} {x4 : List Bool} {x5 : List (List S50)}
theorem CR.lt (h : CR W base b2 d2 b3 d3 b4 d4 b5 d5 x2 x3 x4 x5) : (base ≤ b2 ∧ base ≤ b3 ∧ base ≤ b4 ∧ base ≤ b5) ∧ b2 < W.heap.size ∧ b3 < W.heap.size ∧ b4 < W.heap.size ∧ b5 < W.heap.size :=
 ⟨⟨Kd.R_base h.g2 _ (by simp [Value.ownBlock]), Kd.R_base h.g3 _ (by simp [Value.ownBlock]), Kd.R_base h.g4 _ (by simp [Value.ownBlock]), Kd.S_base h.g5 _ (by simp [Value.ownBlock])⟩,
  Kd.R_lt h.g2 _ (by simp [Value.ownBlock]), Kd.R_lt h.g3 _ (by simp [Value.ownBlock]), Kd.R_lt h.g4 _ (by simp [Value.ownBlock]), Kd.S_lt h.g5 _ (by simp [Value.ownBlock])⟩
theorem CR.next (h : CR W base b2 d2 b3 d3 b4 d4 b5 d5 x2 x3 x4 x5) (hb : Below W.heap.size W W1) : CR W1 base b2 d2 b3 d3 b4 d4 b5 d5 x2 x3 x4 x5 :=
 ⟨Kd.R_below h.g2 hb, Kd.R_below h.g3 hb, Kd.R_below h.g4 hb, Kd.S_below h.g5 hb⟩
theorem CR.lower (h : CR W base b2 d2 b3 d3 b4 d4 b5 d5 x2 x3 x4 x5) (hb : base' ≤ base) : CR W base' b2 d2 b3 d3 b4 d4 b5 d5 x2 x3 x4 x5 :=
 ⟨Kd.R_lower h.g2 hb, Kd.R_lower h.g3 hb, Kd.R_lower h.g4 hb, Kd.S_lower h.g5 hb⟩
theorem CR.far (h : CR W base b2 d2 b3 d3 b4 d4 b5 d5 x2 x3 x4 x5) {g : Nat} {cs : Array Value} (hg : W.heap[g]? = some (.cells cs 93)) (hc : Chg (fun k => k = g) W W1) : CR W1 base b2 d2 b3 d3 b4 d4 b5 d5 x2 x3 x4 x5 :=
 ⟨Kd.R_mono (Kd.R_step (Kd.R_types h.g2 hg (by decide)) (fun k q hk => hc.block k hk q.2)) (fun k q => q.1), Kd.R_mono (Kd.R_step (Kd.R_types h.g3 hg (by decide)) (fun k q hk => hc.block k hk q.2)) (fun k q => q.1),
  Kd.R_mono (Kd.R_step (Kd.R_types h.g4 hg (by decide)) (fun k q hk => hc.block k hk q.2)) (fun k q => q.1), Kd.S_mono (Kd.S_step (Kd.S_types h.g5 hg (by decide)) (fun k q hk => hc.block k hk q.2)) (fun k q => q.1)⟩
theorem CR.set93 (h : CR W base b2 d2 b3 d3 b4 d4 b5 d5 x2 x3 x4 x5) {g : Nat} {cs : Array Value} (hg : W.heap[g]? = some (.cells cs 93)) (j : Nat) (u : Value) : CR (W.setCell ⟨g, j, none⟩ u) base b2 d2 b3 d3 b4 d4 b5 d5 x2 x3 x4 x5 :=
 h.far hg ((Chg.refl (fun k => k = g) W).set (p := ⟨g, j, none⟩) (Or.inr rfl) u)
theorem CR.at2 (h : CR W base b2 d2 b3 d3 b4 d4 b5 d5 x2 x3 x4 x5) {n : Nat} (hn : n < 8) : W.cell? ⟨b2, n, none⟩ = some (.bool (rdOf false x2 (n : Int))) ∧ W.frozen? ⟨b2, n, none⟩ = false := by
 have := Kd.R_celln false h.g2 (n : Int) (by omega) (by omega); rwa [Int.toNat_natCast] at this
theorem CR.at3 (h : CR W base b2 d2 b3 d3 b4 d4 b5 d5 x2 x3 x4 x5) {n : Nat} (hn : n < 8) : W.cell? ⟨b3, n, none⟩ = some (.int .u64 (rdOf 0 x3 (n : Int))) ∧ W.frozen? ⟨b3, n, none⟩ = false := by
 have := Kd.R_celln (0 : Int) h.g3 (n : Int) (by omega) (by omega); rwa [Int.toNat_natCast] at this
theorem CR.at4 (h : CR W base b2 d2 b3 d3 b4 d4 b5 d5 x2 x3 x4 x5) {n : Nat} (hn : n < 8) : W.cell? ⟨b4, n, none⟩ = some (.bool (rdOf false x4 (n : Int))) ∧ W.frozen? ⟨b4, n, none⟩ = false := by
 have := Kd.R_celln false h.g4 (n : Int) (by omega) (by omega); rwa [Int.toNat_natCast] at this
theorem CR.put2 (h : CR W base b2 d2 b3 d3 b4 d4 b5 d5 x2 x3 x4 x5) (n : Nat) (u : Bool) : CR (W.setCell ⟨b2, n, none⟩ (.bool u)) base b2 d2 b3 d3 b4 d4 b5 d5 (x2.set n u) x3 x4 x5 := by
 obtain ⟨cs, hs⟩ := Kd.R_typed h.g2 b2 (by simp [Value.ownBlock])
 refine ⟨?_, Kd.R_set h.g3 hs (by decide) n _, Kd.R_far (p := ⟨b2, n, none⟩) h.g4 (fun k q e => q (by rw [e]; simp [Value.ownBlock])) _, Kd.S_set h.g5 hs (by decide) n _⟩
 have := Kd.R_putn h.g2 (n : Int) u; rwa [Int.toNat_natCast] at this
theorem CR.put3 (h : CR W base b2 d2 b3 d3 b4 d4 b5 d5 x2 x3 x4 x5) (n : Nat) (u : Int) : CR (W.setCell ⟨b3, n, none⟩ (.int .u64 u)) base b2 d2 b3 d3 b4 d4 b5 d5 x2 (x3.set n u) x4 x5 := by
 obtain ⟨cs, hs⟩ := Kd.R_typed h.g3 b3 (by simp [Value.ownBlock])
 refine ⟨Kd.R_set h.g2 hs (by decide) n _, ?_, Kd.R_set h.g4 hs (by decide) n _, Kd.S_set h.g5 hs (by decide) n _⟩
 have := Kd.R_putn h.g3 (n : Int) u; rwa [Int.toNat_natCast] at this
theorem CR.put4 (h : CR W base b2 d2 b3 d3 b4 d4 b5 d5 x2 x3 x4 x5) (n : Nat) (u : Bool) : CR (W.setCell ⟨b4, n, none⟩ (.bool u)) base b2 d2 b3 d3 b4 d4 b5 d5 x2 x3 (x4.set n u) x5 := by
 obtain ⟨cs, hs⟩ := Kd.R_typed h.g4 b4 (by simp [Value.ownBlock])
 refine ⟨Kd.R_far (p := ⟨b4, n, none⟩) h.g2 (fun k q e => q (by rw [e]; simp [Value.ownBlock])) _, Kd.R_set h.g3 hs (by decide) n _, ?_, Kd.S_set h.g5 hs (by decide) n _⟩
 have := Kd.R_putn h.g4 (n : Int) u; rwa [Int.toNat_natCast] at this
theorem CR.SV {lots st : Int} {H : List Hd} (h : CR W base b2 d2 b3 d3 b4 d4 b5 d5 x2 x3 x4 x5) (e2 : x2 = H.map (·.sl)) (e3 : x3 = H.map (·.key)) (e4 : x4 = H.map (·.sh)) (e5 : x5 = H.map (·.off)) :
  SV W (fun k => base ≤ k) (.agg #[.int .i64 lots, .int .i64 st, .slice (some ⟨b2, 0, none⟩) 8 d2, .slice (some ⟨b3, 0, none⟩) 8 d3, .slice (some ⟨b4, 0, none⟩) 8 d4, .slice (some ⟨b5, 0, none⟩) 8 d5]) lots st H := by
 subst e2 e3 e4 e5
 exact ⟨_, _, _, _, _, _, _, _, rfl, ⟨(Kd.R_reads' h.g2).2.1, Kd.R_F (Kd.R_mono (Kd.R_bound h.g2) (fun k q => q.2.1))⟩, ⟨(Kd.R_reads' h.g3).2.1, Kd.R_F (Kd.R_mono (Kd.R_bound h.g3) (fun k q => q.2.1))⟩, ⟨(Kd.R_reads' h.g4).2.1, Kd.R_F (Kd.R_mono (Kd.R_bound h.g4) (fun k q => q.2.1))⟩, (Kd.R_reads' (Kd.S_R h.g5)).2.1, Kd.R_F (Kd.R_mono (Kd.R_bound (Kd.S_R h.g5)) (fun k q => q.2.1))⟩
end
theorem Copy_r (w : World) (ok : Nat → Prop) (v : Value) (lots st : Int) (H : List Hd) (h : SV w ok v lots st H) (hH : H.length = 8) (hf : Few H) (hl1 : 1 ≤ lots) (hl2 : lots ≤ 12) : Calls Try.prog 71 #[v] w fun e w' => ∃ b2 d2 b3 d3 b4 d4 b5 d5 : Nat, e = .returned (.agg #[.int .i64 lots, .int .i64 st, .slice (some ⟨b2, 0, none⟩) 8 d2, .slice (some ⟨b3, 0, none⟩) 8 d3, .slice (some ⟨b4, 0, none⟩) 8 d4, .slice (some ⟨b5, 0, none⟩) 8 d5]) ∧ CR w' w.heap.size b2 d2 b3 d3 b4 d4 b5 d5 (H.map (·.sl)) (H.map (·.key)) (H.map (·.sh)) (H.map (·.off)) ∧ Below w.heap.size w w' := by
 refine (Copy_s w ok v lots st H h hH hf hl1 hl2).mono ?_
 rintro e w' ⟨v2, v3, v4, v5, rfl, g2, g3, g4, g5, hb⟩
 have l2 : (H.map (·.sl)).length = 8 := by rw [List.length_map, hH]
 have l3 : (H.map (·.key)).length = 8 := by rw [List.length_map, hH]
 have l4 : (H.map (·.sh)).length = 8 := by rw [List.length_map, hH]
 have l5 : (H.map (·.off)).length = 8 := by rw [List.length_map, hH]
 obtain ⟨b2, d2, e2, _⟩ := Kd.R_form g2 (by omega)
 obtain ⟨b3, d3, e3, _⟩ := Kd.R_form g3 (by omega)
 obtain ⟨b4, d4, e4, _⟩ := Kd.R_form g4 (by omega)
 obtain ⟨b5, d5, e5, _⟩ := Kd.S_form g5 (by omega)
 rw [l2] at e2
 rw [l3] at e3
 rw [l4] at e4
 rw [l5] at e5
 subst e2 e3 e4 e5
 exact ⟨b2, d2, b3, d3, b4, d4, b5, d5, rfl, ⟨g2, g3, g4, g5⟩, hb⟩
end Go.Proofs.Ythfdjccdelbeeaa.PT
end
section
namespace Go.Proofs.Ythfdjccdelbeeaa.PT
open Go.RowKit Go.Proofs.YthfdjccdelbeeaaW.PrintWords Go.Proofs.YthfdjccdelbeeaaW.PrintLast Go.Proofs.YthfdjccdelbeeaaW.PrintMore
set_option linter.unusedVariables false
set_option linter.unusedSimpArgs false
def subS (lots st : Int) (H : List Hd) (who ky : Int) : List Hd := if subC lots st who = 0 then H.set who.toNat { H.getD who.toNat hd0 with sl := true, key := ky } else H
theorem sub_0 {lots st who : Int} (h : 1 ≤ lots) (a : st = 0) (b : buyB who = true) : subC lots st who = 0 := by
 subst a; unfold subC; rw [in_0 h, if_neg (by decide), b]; rfl
theorem in_9 {lots st s : Int} (h : 1 ≤ lots) (a : st ≠ s) : inC lots st s = 9 := by unfold inC; rw [if_neg (by omega), if_pos a]
theorem sub_9 {lots st who : Int} (h : 1 ≤ lots) (a : ¬ st = 0) : subC lots st who = 9 := by unfold subC; rw [in_9 h a, if_pos (by decide)]
theorem sub_2 {lots st who : Int} (h : 1 ≤ lots) (a : st = 0) (b : ¬ buyB who = true) : subC lots st who = 2 := by subst a; unfold subC; rw [in_0 h, if_neg (by decide), if_neg b]
theorem set_same {α β : Type} (f : α → β) (H : List α) {q : Nat} {z : α} {x : β} (hq : q < H.length) (hx : x = f (H.getD q z)) : H.map f = (H.map f).set q x := by
 refine List.ext_getElem? fun i => ?_
 by_cases e : q = i
 ·
  subst e
  rw [List.getElem?_set_self (by simpa using hq), hx]; simp [hq]
 ·
  rw [List.getElem?_set_ne e]
section
variable {lots st : Int} {H : List Hd} {q : Nat} {ky : Int}
theorem sub_m2 (h : subC lots st (q : Int) = 0) (hH : H.length = 8) (hq : q < 8) : (H.map (·.sl)).set q true = (subS lots st H (q : Int) ky).map (·.sl) := by
 unfold subS; rw [if_pos h, List.map_set, Int.toNat_natCast]
theorem sub_m3 (h : subC lots st (q : Int) = 0) (hH : H.length = 8) (hq : q < 8) : (H.map (·.key)).set q ky = (subS lots st H (q : Int) ky).map (·.key) := by
 unfold subS; rw [if_pos h, List.map_set, Int.toNat_natCast]
theorem sub_m4 (h : subC lots st (q : Int) = 0) (hH : H.length = 8) (hq : q < 8) : H.map (·.sh) = (subS lots st H (q : Int) ky).map (·.sh) := by
 unfold subS; rw [if_pos h, List.map_set, Int.toNat_natCast]; exact set_same (fun h : Hd => h.sh) H (by omega) rfl
theorem sub_m5 (h : subC lots st (q : Int) = 0) (hH : H.length = 8) (hq : q < 8) : H.map (·.off) = (subS lots st H (q : Int) ky).map (·.off) := by
 unfold subS; rw [if_pos h, List.map_set, Int.toNat_natCast]; exact set_same (fun h : Hd => h.off) H (by omega) rfl
end
set_option maxHeartbeats 12800000 in
set_option maxRecDepth 100000 in
theorem Submit_s {w : World} {ok : Nat → Prop} {v : Value} {lots st : Int} {H : List Hd} (who ky : Int) (h : SV w ok v lots st H) (hH : H.length = 8) (hf : Few H) (hl1 : 1 ≤ lots) (hl2 : lots ≤ 12) : Calls Try.prog 60 #[v, .int .i64 who, .int .u64 ky] w fun e w' => ∃ v', e = .returned (.tuple #[v', .int .i64 (subC lots st who)]) ∧ SV w' (fun k => ok k ∨ w.heap.size ≤ k) v' lots st (subS lots st H who ky) ∧ Below w.heap.size w w' := by
 have hu93 := Try.underlying93
 have hu44 := Try.underlying44
 have HS0 := lhid h
 have HFE := lhid hf
 have HH := lhid hH
 have HL1 := lhid hl1
 have HL2 := lhid hl2
 clear hf hH hl1 hl2
 obtain ⟨A2, A3, A4, A5, c2, c3, c4, c5, rfl, hq⟩ := h
 clear hq
 go_enter Try.func60, Try.ntmps60
 have HB_1 := lhid (Below.refl w.heap.size w)
 go_upto_region 1 with (fail)
 have hb := Zba (Below.refl w.heap.size w) (.cells #[.int .i64 lots, .int .i64 st, .slice A2 8 c2, .slice A3 8 c3, .slice A4 8 c4, .slice A5 8 c5] 93)
 have hn := blk_new w (.cells #[.int .i64 lots, .int .i64 st, .slice A2 8 c2, .slice A3 8 c3, .slice A4 8 c4, .slice A5 8 c5] 93)
 have HZ1 := lhid (show (World.alloc w (.cells #[.int .i64 lots, .int .i64 st, .slice A2 8 c2, .slice A3 8 c3, .slice A4 8 c4, .slice A5 8 c5] 93)).heap.size = w.heap.size + 1 from by simp)
 generalize hq : World.alloc w (.cells #[.int .i64 lots, .int .i64 st, .slice A2 8 c2, .slice A3 8 c3, .slice A4 8 c4, .slice A5 8 c5] 93) = w1 at hb hn HZ1 ⊢
 clear hq
 have HB_2 := lhid (below_then HB_1.out HB_1.out.size hb)
 clear HB_1 hb
 have TB_3 := lhid (hn)
 clear hn
 obtain ⟨tb, htb⟩ : ∃ q, q = w.heap.size := ⟨_, rfl⟩
 rw [← htb] at TB_3 ⊢
 have HStb := lhid (show w.heap.size ≤ tb ∧ w1.heap.size = tb + 1 from ⟨by rw [htb]; exact Nat.le_refl _, by rw [htb]; exact HZ1.out⟩)
 clear htb
 have hb := Zba (Below.refl w1.heap.size w1) (.cells #[.int .i64 0, .int .i64 0, .slice none 0 0, .slice none 0 0, .slice none 0 0, .slice none 0 0] 93)
 have hn := blk_new w1 (.cells #[.int .i64 0, .int .i64 0, .slice none 0 0, .slice none 0 0, .slice none 0 0, .slice none 0 0] 93)
 have HZ2 := lhid (show (World.alloc w1 (.cells #[.int .i64 0, .int .i64 0, .slice none 0 0, .slice none 0 0, .slice none 0 0, .slice none 0 0] 93)).heap.size = w1.heap.size + 1 from by simp)
 generalize hq : World.alloc w1 (.cells #[.int .i64 0, .int .i64 0, .slice none 0 0, .slice none 0 0, .slice none 0 0, .slice none 0 0] 93) = w2 at hb hn HZ2 ⊢
 clear hq
 have HB_4 := lhid (below_then HB_2.out HB_2.out.size hb)
 have TB_5 := lhid (blk_below TB_3.out hb)
 clear HB_2 TB_3 hb
 have RB_6 := lhid (hn)
 clear hn
 obtain ⟨rb, hrb⟩ : ∃ q, q = tb + 1 := ⟨_, rfl⟩
 rw [show w1.heap.size = rb by have h1 := HStb.out; omega] at RB_6
 rw [← hrb]
 have HSrb := lhid (show w.heap.size ≤ rb ∧ w2.heap.size = rb + 1 ∧ tb < rb from by have h1 := HStb.out; have h2 := HZ2.out; omega)
 clear hrb
 have t1 := (blk_cell TB_5.out 1).trans rfl
 by_cases a : st = 0
 ·
  have d : (st != 0) = false := bne_eq_false_iff_eq.2 a
  have HA := lhid a
  clear a
  by_cases b : buyB who = true
  ·
   obtain ⟨q, rfl⟩ : ∃ q : Nat, who = (q : Int) := ⟨who.toNat, by unfold buyB at b; simp at b; omega⟩
   have hq : q < 8 := by unfold buyB at b; simp at b; omega
   have d1 : decide ((q : Int) < 0) = false := decide_eq_false (by omega)
   have d2 : decide ((q : Int) > 7) = false := decide_eq_false (by omega)
   have HBU := lhid b
   clear b
   go_upto_region 5 with (fail)
   try any_goals (exfalso; omega)
   have HSNOW := lhid (show w2.heap.size = rb + 1 from HSrb.out.2.1)
   obtain ⟨n0, n1, n2, n3, n4, n5⟩ := six TB_5.out
   go_wp2_with fail
   try any_goals (exfalso; omega)
   with_reducible refine (Copy_r w2 ok _ lots st H (HS0.out.next HB_4.out) HH.out HFE.out HL1.out HL2.out).mono ?_
   clear n0 n1 n2 n3 n4 n5
   rintro e w15 ⟨b2, d2, b3, d3, b4, d4, b5, d5, rfl, hcr, hb⟩
   have HCR := lhid (hcr.lower (show w.heap.size ≤ w2.heap.size from HB_4.out.size))
   have HLOW := lhid (show rb < b2 ∧ rb < b3 ∧ rb < b4 ∧ rb < b5 from by have h1 := hcr.lt.1; have h2 := HSrb.out; have h3 := HSNOW.out; omega)
   have HLOW2 := lhid (show w2.heap.size ≤ w15.heap.size from hb.size)
   clear hcr
   have HB_7 := lhid (below_then HB_4.out HB_4.out.size hb)
   have TB_8 := lhid (blk_below TB_5.out hb)
   have RB_9 := lhid (blk_below RB_6.out hb)
   clear HB_4 TB_5 RB_6 hb
   have CROLD := lhid HCR.out
   go_upto_region 6 with (fail)
   have hb := Zba (Below.refl w15.heap.size w15) (.cells #[.int .i64 lots, .int .i64 st, .slice (some ⟨b2, 0, none⟩) 8 d2, .slice (some ⟨b3, 0, none⟩) 8 d3, .slice (some ⟨b4, 0, none⟩) 8 d4, .slice (some ⟨b5, 0, none⟩) 8 d5] 93)
   have hn := blk_new w15 (.cells #[.int .i64 lots, .int .i64 st, .slice (some ⟨b2, 0, none⟩) 8 d2, .slice (some ⟨b3, 0, none⟩) 8 d3, .slice (some ⟨b4, 0, none⟩) 8 d4, .slice (some ⟨b5, 0, none⟩) 8 d5] 93)
   have HZ16 := lhid (show (World.alloc w15 (.cells #[.int .i64 lots, .int .i64 st, .slice (some ⟨b2, 0, none⟩) 8 d2, .slice (some ⟨b3, 0, none⟩) 8 d3, .slice (some ⟨b4, 0, none⟩) 8 d4, .slice (some ⟨b5, 0, none⟩) 8 d5] 93)).heap.size = w15.heap.size + 1 from by simp)
   generalize hq : World.alloc w15 (.cells #[.int .i64 lots, .int .i64 st, .slice (some ⟨b2, 0, none⟩) 8 d2, .slice (some ⟨b3, 0, none⟩) 8 d3, .slice (some ⟨b4, 0, none⟩) 8 d4, .slice (some ⟨b5, 0, none⟩) 8 d5] 93) = w16 at hb hn HZ16 ⊢
   clear hq
   have HB_10 := lhid (below_then HB_7.out HB_7.out.size hb)
   have TB_11 := lhid (blk_below TB_8.out hb)
   have RB_12 := lhid (blk_below RB_9.out hb)
   have CR_13 := lhid (HCR.out.next hb)
   clear HB_7 TB_8 RB_9 HCR hb
   have NB_14 := lhid (hn)
   clear hn
   obtain ⟨nb, hnb⟩ : ∃ q, q = w15.heap.size := ⟨_, rfl⟩
   rw [← hnb] at NB_14 ⊢
   have HSnb := lhid (show w.heap.size ≤ nb ∧ rb < nb ∧ b2 < nb ∧ b3 < nb ∧ b4 < nb ∧ b5 < nb from by have h1 := (CROLD.out).lt; have h2 := HSrb.out; have h3 := HLOW.out; have h4 := h1.2; rw [hnb]; omega)
   have HSNB := lhid (show w2.heap.size ≤ nb from by rw [hnb]; exact HLOW2.out)
   clear hnb CROLD HLOW2
   have n2 := (blk_cell NB_14.out 2).trans rfl
   obtain ⟨dc, df⟩ := CR_13.out.at2 hq
   have hq8 : (q : Int) < 8 := by omega
   have hq0 : (0 : Int) ≤ (q : Int) := by omega
   go_upto_region 7 with (fail)
   try any_goals (exfalso; omega)
   clear n2 dc df
   have TBa := lhid (blk_far TB_11.out (p := ⟨b2, q, none⟩) (by have h1 := HSrb.out; have h2 := HSnb.out; have h3 := HLOW.out; show tb ≠ b2; omega) (.bool true))
   have RBa := lhid (blk_far RB_12.out (p := ⟨b2, q, none⟩) (by have h1 := HSrb.out; have h2 := HSnb.out; have h3 := HLOW.out; show rb ≠ b2; omega) (.bool true))
   have NBa := lhid (blk_far NB_14.out (p := ⟨b2, q, none⟩) (by have h1 := HSrb.out; have h2 := HSnb.out; have h3 := HLOW.out; show nb ≠ b2; omega) (.bool true))
   have CRa := lhid (CR_13.out.put2 q true)
   have HBa := lhid (HB_10.out.setCell (p := ⟨b2, q, none⟩) (by have h1 := HSrb.out; have h2 := HSnb.out; have h3 := HLOW.out; show w.heap.size ≤ b2; omega) (.bool true))
   clear TB_11 RB_12 NB_14 CR_13 HB_10
   generalize World.setCell w16 ⟨b2, q, none⟩ (.bool true) = wza at TBa RBa NBa CRa HBa ⊢
   have n3 := (blk_cell NBa.out 3).trans rfl
   obtain ⟨dc, df⟩ := CRa.out.at3 hq
   go_upto_region 8 with (fail)
   try any_goals (exfalso; omega)
   clear n3 dc df
   have TBb := lhid (blk_far TBa.out (p := ⟨b3, q, none⟩) (by have h1 := HSrb.out; have h2 := HSnb.out; have h3 := HLOW.out; show tb ≠ b3; omega) (.int .u64 ky))
   have RBb := lhid (blk_far RBa.out (p := ⟨b3, q, none⟩) (by have h1 := HSrb.out; have h2 := HSnb.out; have h3 := HLOW.out; show rb ≠ b3; omega) (.int .u64 ky))
   have NBb := lhid (blk_far NBa.out (p := ⟨b3, q, none⟩) (by have h1 := HSrb.out; have h2 := HSnb.out; have h3 := HLOW.out; show nb ≠ b3; omega) (.int .u64 ky))
   have CRb := lhid (CRa.out.put3 q ky)
   have HBb := lhid (HBa.out.setCell (p := ⟨b3, q, none⟩) (by have h1 := HSrb.out; have h2 := HSnb.out; have h3 := HLOW.out; show w.heap.size ≤ b3; omega) (.int .u64 ky))
   clear TBa RBa NBa CRa HBa
   generalize World.setCell wza ⟨b3, q, none⟩ (.int .u64 ky) = wzb at TBb RBb NBb CRb HBb ⊢
   have HS3 := lhid (sub_0 (who := (q : Int)) HL1.out HA.out HBU.out)
   obtain ⟨n0, n1, n2, n3, n4, n5⟩ := six NBb.out
   obtain ⟨r0, r1, r2, r3, r4, r5⟩ := six RBb.out
   have hfz := fun o => blk_frozen RBb.out o
   go_wp2_with fail
   try any_goals (exfalso; omega)
   have hp := put6 RBb.out (.int .i64 lots) (.int .i64 st) (.slice (some ⟨b2, 0, none⟩) 8 d2) (.slice (some ⟨b3, 0, none⟩) 8 d3) (.slice (some ⟨b4, 0, none⟩) 8 d4) (.slice (some ⟨b5, 0, none⟩) 8 d5)
   clear n0 n1 n2 n3 n4 n5 r0 r1 r2 r3 r4 r5 hfz
   generalize World.setCell (World.setCell (World.setCell (World.setCell (World.setCell (World.setCell (wzb) ⟨rb, 0, none⟩ (.int .i64 lots)) ⟨rb, 1, none⟩ (.int .i64 st)) ⟨rb, 2, none⟩ (.slice (some ⟨b2, 0, none⟩) 8 d2)) ⟨rb, 3, none⟩ (.slice (some ⟨b3, 0, none⟩) 8 d3)) ⟨rb, 4, none⟩ (.slice (some ⟨b4, 0, none⟩) 8 d4)) ⟨rb, 5, none⟩ (.slice (some ⟨b5, 0, none⟩) 8 d5) = wf at hp ⊢
   obtain ⟨hp1, hp2⟩ := hp
   have HBF := lhid (HBb.out.trans (hp2.below HBb.out.size (fun k q => by have h1 := HSrb.out; have h2 : k = rb := q; omega)))
   have HCF := lhid (CRb.out.far RBb.out hp2)
   refine bodyPost_ret (results_ct rfl _ _ rb 93 #[(.int .i64 lots), (.int .i64 st), (.slice (some ⟨b2, 0, none⟩) 8 d2), (.slice (some ⟨b3, 0, none⟩) 8 d3), (.slice (some ⟨b4, 0, none⟩) 8 d4), (.slice (some ⟨b5, 0, none⟩) 8 d5)] (0, 0) _ rfl hp1 Try.underlying93 rfl (by kernel_rfl)) rfl ?_
   exact ⟨_, by rw [HS3.out]; rfl, (HCF.out.SV (sub_m2 HS3.out HH.out hq) (sub_m3 HS3.out HH.out hq) (sub_m4 HS3.out HH.out hq) (sub_m5 HS3.out HH.out hq)).mono (fun k q => Or.inr q), HBF.out⟩
  ·
   have HS2 := lhid (sub_2 HL1.out HA.out b)
   by_cases c : who < 0
   ·
    have d1 : decide (who < 0) = true := decide_eq_true c
    clear b
    obtain ⟨n0, n1, n2, n3, n4, n5⟩ := six TB_5.out
    obtain ⟨r0, r1, r2, r3, r4, r5⟩ := six RB_6.out
    have hfz := fun o => blk_frozen RB_6.out o
    go_wp2_with fail
    try any_goals (exfalso; omega)
    have hp := put6 RB_6.out (.int .i64 lots) (.int .i64 st) (.slice A2 8 c2) (.slice A3 8 c3) (.slice A4 8 c4) (.slice A5 8 c5)
    clear n0 n1 n2 n3 n4 n5 r0 r1 r2 r3 r4 r5 hfz
    generalize World.setCell (World.setCell (World.setCell (World.setCell (World.setCell (World.setCell (w2) ⟨rb, 0, none⟩ (.int .i64 lots)) ⟨rb, 1, none⟩ (.int .i64 st)) ⟨rb, 2, none⟩ (.slice A2 8 c2)) ⟨rb, 3, none⟩ (.slice A3 8 c3)) ⟨rb, 4, none⟩ (.slice A4 8 c4)) ⟨rb, 5, none⟩ (.slice A5 8 c5) = wf at hp ⊢
    obtain ⟨hp1, hp2⟩ := hp
    have HBF := lhid (HB_4.out.trans (hp2.below HB_4.out.size (fun k q => by have h1 := HSrb.out; have h2 : k = rb := q; omega)))
    refine bodyPost_ret (results_ct rfl _ _ rb 93 #[(.int .i64 lots), (.int .i64 st), (.slice A2 8 c2), (.slice A3 8 c3), (.slice A4 8 c4), (.slice A5 8 c5)] (0, 0) _ rfl hp1 Try.underlying93 rfl (by kernel_rfl)) rfl ?_
    exact ⟨_, by rw [HS2.out]; rfl, by unfold subS; rw [if_neg (by rw [HS2.out]; decide)]; exact (HS0.out.next HBF.out).mono (fun k q => Or.inl q), HBF.out⟩
   ·
    have d1 : decide (who < 0) = false := decide_eq_false c
    have d2 : decide (who > 7) = true := decide_eq_true (by unfold buyB at b; simp at b; omega)
    clear b
    obtain ⟨n0, n1, n2, n3, n4, n5⟩ := six TB_5.out
    obtain ⟨r0, r1, r2, r3, r4, r5⟩ := six RB_6.out
    have hfz := fun o => blk_frozen RB_6.out o
    go_wp2_with fail
    try any_goals (exfalso; omega)
    have hp := put6 RB_6.out (.int .i64 lots) (.int .i64 st) (.slice A2 8 c2) (.slice A3 8 c3) (.slice A4 8 c4) (.slice A5 8 c5)
    clear n0 n1 n2 n3 n4 n5 r0 r1 r2 r3 r4 r5 hfz
    generalize World.setCell (World.setCell (World.setCell (World.setCell (World.setCell (World.setCell (w2) ⟨rb, 0, none⟩ (.int .i64 lots)) ⟨rb, 1, none⟩ (.int .i64 st)) ⟨rb, 2, none⟩ (.slice A2 8 c2)) ⟨rb, 3, none⟩ (.slice A3 8 c3)) ⟨rb, 4, none⟩ (.slice A4 8 c4)) ⟨rb, 5, none⟩ (.slice A5 8 c5) = wf at hp ⊢
    obtain ⟨hp1, hp2⟩ := hp
    have HBF := lhid (HB_4.out.trans (hp2.below HB_4.out.size (fun k q => by have h1 := HSrb.out; have h2 : k = rb := q; omega)))
    refine bodyPost_ret (results_ct rfl _ _ rb 93 #[(.int .i64 lots), (.int .i64 st), (.slice A2 8 c2), (.slice A3 8 c3), (.slice A4 8 c4), (.slice A5 8 c5)] (0, 0) _ rfl hp1 Try.underlying93 rfl (by kernel_rfl)) rfl ?_
    exact ⟨_, by rw [HS2.out]; rfl, by unfold subS; rw [if_neg (by rw [HS2.out]; decide)]; exact (HS0.out.next HBF.out).mono (fun k q => Or.inl q), HBF.out⟩
 ·
  have d : (st != 0) = true := bne_iff_ne.2 a
  have HA := lhid a
  clear a
  have HS3 := lhid (sub_9 (who := who) HL1.out HA.out)
  obtain ⟨n0, n1, n2, n3, n4, n5⟩ := six TB_5.out
  obtain ⟨r0, r1, r2, r3, r4, r5⟩ := six RB_6.out
  have hfz := fun o => blk_frozen RB_6.out o
  go_wp2_with fail
  try any_goals (exfalso; omega)
  have hp := put6 RB_6.out (.int .i64 lots) (.int .i64 st) (.slice A2 8 c2) (.slice A3 8 c3) (.slice A4 8 c4) (.slice A5 8 c5)
  clear n0 n1 n2 n3 n4 n5 r0 r1 r2 r3 r4 r5 hfz
  generalize World.setCell (World.setCell (World.setCell (World.setCell (World.setCell (World.setCell (w2) ⟨rb, 0, none⟩ (.int .i64 lots)) ⟨rb, 1, none⟩ (.int .i64 st)) ⟨rb, 2, none⟩ (.slice A2 8 c2)) ⟨rb, 3, none⟩ (.slice A3 8 c3)) ⟨rb, 4, none⟩ (.slice A4 8 c4)) ⟨rb, 5, none⟩ (.slice A5 8 c5) = wf at hp ⊢
  obtain ⟨hp1, hp2⟩ := hp
  have HBF := lhid (HB_4.out.trans (hp2.below HB_4.out.size (fun k q => by have h1 := HSrb.out; have h2 : k = rb := q; omega)))
  refine bodyPost_ret (results_ct rfl _ _ rb 93 #[(.int .i64 lots), (.int .i64 st), (.slice A2 8 c2), (.slice A3 8 c3), (.slice A4 8 c4), (.slice A5 8 c5)] (0, 0) _ rfl hp1 Try.underlying93 rfl (by kernel_rfl)) rfl ?_
  exact ⟨_, by rw [HS3.out]; rfl, by unfold subS; rw [if_neg (by rw [HS3.out]; decide)]; exact (HS0.out.next HBF.out).mono (fun k q => Or.inl q), HBF.out⟩
set_option maxHeartbeats 12800000 in
set_option maxRecDepth 100000 in
theorem Shut_s {w : World} {ok : Nat → Prop} {v : Value} {lots st : Int} {H : List Hd} (h : SV w ok v lots st H) (hH : H.length = 8) (hf : Few H) (hl1 : 1 ≤ lots) (hl2 : lots ≤ 12) : Calls Try.prog 61 #[v] w fun e w' => ∃ v', e = .returned (.tuple #[v', .int .i64 (inC lots st 0)]) ∧ SV w' (fun k => ok k ∨ w.heap.size ≤ k) v' lots (shutS lots st) H ∧ Below w.heap.size w w' := by
 have hu93 := Try.underlying93
 have hu44 := Try.underlying44
 have HS0 := lhid h
 have HFE := lhid hf
 have HH := lhid hH
 have HL1 := lhid hl1
 have HL2 := lhid hl2
 clear hf hH hl1 hl2
 obtain ⟨A2, A3, A4, A5, c2, c3, c4, c5, rfl, hq⟩ := h
 clear hq
 go_enter Try.func61, Try.ntmps61
 have HB_1 := lhid (Below.refl w.heap.size w)
 go_upto_region 1 with (fail)
 have hb := Zba (Below.refl w.heap.size w) (.cells #[.int .i64 lots, .int .i64 st, .slice A2 8 c2, .slice A3 8 c3, .slice A4 8 c4, .slice A5 8 c5] 93)
 have hn := blk_new w (.cells #[.int .i64 lots, .int .i64 st, .slice A2 8 c2, .slice A3 8 c3, .slice A4 8 c4, .slice A5 8 c5] 93)
 have HZ1 := lhid (show (World.alloc w (.cells #[.int .i64 lots, .int .i64 st, .slice A2 8 c2, .slice A3 8 c3, .slice A4 8 c4, .slice A5 8 c5] 93)).heap.size = w.heap.size + 1 from by simp)
 generalize hq : World.alloc w (.cells #[.int .i64 lots, .int .i64 st, .slice A2 8 c2, .slice A3 8 c3, .slice A4 8 c4, .slice A5 8 c5] 93) = w1 at hb hn HZ1 ⊢
 clear hq
 have HB_2 := lhid (below_then HB_1.out HB_1.out.size hb)
 clear HB_1 hb
 have TB_3 := lhid (hn)
 clear hn
 obtain ⟨tb, htb⟩ : ∃ q, q = w.heap.size := ⟨_, rfl⟩
 rw [← htb] at TB_3 ⊢
 have HStb := lhid (show w.heap.size ≤ tb ∧ w1.heap.size = tb + 1 from ⟨by rw [htb]; exact Nat.le_refl _, by rw [htb]; exact HZ1.out⟩)
 clear htb
 have hb := Zba (Below.refl w1.heap.size w1) (.cells #[.int .i64 0, .int .i64 0, .slice none 0 0, .slice none 0 0, .slice none 0 0, .slice none 0 0] 93)
 have hn := blk_new w1 (.cells #[.int .i64 0, .int .i64 0, .slice none 0 0, .slice none 0 0, .slice none 0 0, .slice none 0 0] 93)
 have HZ2 := lhid (show (World.alloc w1 (.cells #[.int .i64 0, .int .i64 0, .slice none 0 0, .slice none 0 0, .slice none 0 0, .slice none 0 0] 93)).heap.size = w1.heap.size + 1 from by simp)
 generalize hq : World.alloc w1 (.cells #[.int .i64 0, .int .i64 0, .slice none 0 0, .slice none 0 0, .slice none 0 0, .slice none 0 0] 93) = w2 at hb hn HZ2 ⊢
 clear hq
 have HB_4 := lhid (below_then HB_2.out HB_2.out.size hb)
 have TB_5 := lhid (blk_below TB_3.out hb)
 clear HB_2 TB_3 hb
 have RB_6 := lhid (hn)
 clear hn
 obtain ⟨rb, hrb⟩ : ∃ q, q = tb + 1 := ⟨_, rfl⟩
 rw [show w1.heap.size = rb by have h1 := HStb.out; omega] at RB_6
 rw [← hrb]
 have HSrb := lhid (show w.heap.size ≤ rb ∧ w2.heap.size = rb + 1 ∧ tb < rb from by have h1 := HStb.out; have h2 := HZ2.out; omega)
 clear hrb
 have t1 := (blk_cell TB_5.out 1).trans rfl
 by_cases a : st = 0
 ·
  have d : (st != 0) = false := bne_eq_false_iff_eq.2 a
  have HA := lhid a
  clear a
  go_upto_region 3 with (fail)
  try any_goals (exfalso; omega)
  have HSNOW := lhid (show w2.heap.size = rb + 1 from HSrb.out.2.1)
  obtain ⟨n0, n1, n2, n3, n4, n5⟩ := six TB_5.out
  go_wp2_with fail
  try any_goals (exfalso; omega)
  with_reducible refine (Copy_r w2 ok _ lots st H (HS0.out.next HB_4.out) HH.out HFE.out HL1.out HL2.out).mono ?_
  clear n0 n1 n2 n3 n4 n5
  rintro e w15 ⟨b2, d2, b3, d3, b4, d4, b5, d5, rfl, hcr, hb⟩
  have HCR := lhid (hcr.lower (show w.heap.size ≤ w2.heap.size from HB_4.out.size))
  have HLOW := lhid (show rb < b2 ∧ rb < b3 ∧ rb < b4 ∧ rb < b5 from by have h1 := hcr.lt.1; have h2 := HSrb.out; have h3 := HSNOW.out; omega)
  have HLOW2 := lhid (show w2.heap.size ≤ w15.heap.size from hb.size)
  clear hcr
  have HB_7 := lhid (below_then HB_4.out HB_4.out.size hb)
  have TB_8 := lhid (blk_below TB_5.out hb)
  have RB_9 := lhid (blk_below RB_6.out hb)
  clear HB_4 TB_5 RB_6 hb
  have CROLD := lhid HCR.out
  go_upto_region 4 with (fail)
  have hb := Zba (Below.refl w15.heap.size w15) (.cells #[.int .i64 lots, .int .i64 st, .slice (some ⟨b2, 0, none⟩) 8 d2, .slice (some ⟨b3, 0, none⟩) 8 d3, .slice (some ⟨b4, 0, none⟩) 8 d4, .slice (some ⟨b5, 0, none⟩) 8 d5] 93)
  have hn := blk_new w15 (.cells #[.int .i64 lots, .int .i64 st, .slice (some ⟨b2, 0, none⟩) 8 d2, .slice (some ⟨b3, 0, none⟩) 8 d3, .slice (some ⟨b4, 0, none⟩) 8 d4, .slice (some ⟨b5, 0, none⟩) 8 d5] 93)
  have HZ16 := lhid (show (World.alloc w15 (.cells #[.int .i64 lots, .int .i64 st, .slice (some ⟨b2, 0, none⟩) 8 d2, .slice (some ⟨b3, 0, none⟩) 8 d3, .slice (some ⟨b4, 0, none⟩) 8 d4, .slice (some ⟨b5, 0, none⟩) 8 d5] 93)).heap.size = w15.heap.size + 1 from by simp)
  generalize hq : World.alloc w15 (.cells #[.int .i64 lots, .int .i64 st, .slice (some ⟨b2, 0, none⟩) 8 d2, .slice (some ⟨b3, 0, none⟩) 8 d3, .slice (some ⟨b4, 0, none⟩) 8 d4, .slice (some ⟨b5, 0, none⟩) 8 d5] 93) = w16 at hb hn HZ16 ⊢
  clear hq
  have HB_10 := lhid (below_then HB_7.out HB_7.out.size hb)
  have TB_11 := lhid (blk_below TB_8.out hb)
  have RB_12 := lhid (blk_below RB_9.out hb)
  have CR_13 := lhid (HCR.out.next hb)
  clear HB_7 TB_8 RB_9 HCR hb
  have NB_14 := lhid (hn)
  clear hn
  obtain ⟨nb, hnb⟩ : ∃ q, q = w15.heap.size := ⟨_, rfl⟩
  rw [← hnb] at NB_14 ⊢
  have HSnb := lhid (show w.heap.size ≤ nb ∧ rb < nb ∧ b2 < nb ∧ b3 < nb ∧ b4 < nb ∧ b5 < nb from by have h1 := (CROLD.out).lt; have h2 := HSrb.out; have h3 := HLOW.out; have h4 := h1.2; rw [hnb]; omega)
  have HSNB := lhid (show w2.heap.size ≤ nb from by rw [hnb]; exact HLOW2.out)
  clear hnb CROLD HLOW2
  have n1 := (blk_cell NB_14.out 1).trans rfl
  have hfz := fun o => blk_frozen NB_14.out o
  go_upto_region 5 with (fail)
  try any_goals (exfalso; omega)
  clear n1 hfz
  have TBa := lhid (blk_far TB_11.out (p := ⟨nb, 1, none⟩) (by have h1 := HSrb.out; have h2 := HSnb.out; have h3 := HLOW.out; show tb ≠ nb; omega) (.int .i64 1))
  have RBa := lhid (blk_far RB_12.out (p := ⟨nb, 1, none⟩) (by have h1 := HSrb.out; have h2 := HSnb.out; have h3 := HLOW.out; show rb ≠ nb; omega) (.int .i64 1))
  have NBa := lhid (show _ = some (Obj.cells #[.int .i64 lots, .int .i64 1, .slice (some ⟨b2, 0, none⟩) 8 d2, .slice (some ⟨b3, 0, none⟩) 8 d3, .slice (some ⟨b4, 0, none⟩) 8 d4, .slice (some ⟨b5, 0, none⟩) 8 d5] 93) from blk_put NB_14.out 1 _ rfl)
  have CRa := lhid (CR_13.out.set93 NB_14.out 1 (.int .i64 1))
  have HBa := lhid (HB_10.out.setCell (p := ⟨nb, 1, none⟩) (by have h1 := HSrb.out; have h2 := HSnb.out; have h3 := HLOW.out; show w.heap.size ≤ nb; omega) (.int .i64 1))
  clear TB_11 RB_12 NB_14 CR_13 HB_10
  generalize World.setCell w16 ⟨nb, 1, none⟩ (.int .i64 1) = wza at TBa RBa NBa CRa HBa ⊢
  have HS3 := lhid (show inC lots st 0 = 0 by rw [HA.out]; exact in_0 HL1.out)
  obtain ⟨n0, n1, n2, n3, n4, n5⟩ := six NBa.out
  obtain ⟨r0, r1, r2, r3, r4, r5⟩ := six RBa.out
  have hfz := fun o => blk_frozen RBa.out o
  go_wp2_with fail
  try any_goals (exfalso; omega)
  have hp := put6 RBa.out (.int .i64 lots) (.int .i64 1) (.slice (some ⟨b2, 0, none⟩) 8 d2) (.slice (some ⟨b3, 0, none⟩) 8 d3) (.slice (some ⟨b4, 0, none⟩) 8 d4) (.slice (some ⟨b5, 0, none⟩) 8 d5)
  clear n0 n1 n2 n3 n4 n5 r0 r1 r2 r3 r4 r5 hfz
  generalize World.setCell (World.setCell (World.setCell (World.setCell (World.setCell (World.setCell (wza) ⟨rb, 0, none⟩ (.int .i64 lots)) ⟨rb, 1, none⟩ (.int .i64 1)) ⟨rb, 2, none⟩ (.slice (some ⟨b2, 0, none⟩) 8 d2)) ⟨rb, 3, none⟩ (.slice (some ⟨b3, 0, none⟩) 8 d3)) ⟨rb, 4, none⟩ (.slice (some ⟨b4, 0, none⟩) 8 d4)) ⟨rb, 5, none⟩ (.slice (some ⟨b5, 0, none⟩) 8 d5) = wf at hp ⊢
  obtain ⟨hp1, hp2⟩ := hp
  have HBF := lhid (HBa.out.trans (hp2.below HBa.out.size (fun k q => by have h1 := HSrb.out; have h2 : k = rb := q; omega)))
  have HCF := lhid (CRa.out.far RBa.out hp2)
  refine bodyPost_ret (results_ct rfl _ _ rb 93 #[(.int .i64 lots), (.int .i64 1), (.slice (some ⟨b2, 0, none⟩) 8 d2), (.slice (some ⟨b3, 0, none⟩) 8 d3), (.slice (some ⟨b4, 0, none⟩) 8 d4), (.slice (some ⟨b5, 0, none⟩) 8 d5)] (0, 0) _ rfl hp1 Try.underlying93 rfl (by kernel_rfl)) rfl ?_
  exact ⟨_, by rw [HS3.out]; rfl, by rw [show shutS lots st = 1 by unfold shutS; rw [if_pos HS3.out]]; exact (HCF.out.SV rfl rfl rfl rfl).mono (fun k q => Or.inr q), HBF.out⟩
 ·
  have d : (st != 0) = true := bne_iff_ne.2 a
  have HA := lhid a
  clear a
  have HS3 := lhid (in_9 HL1.out HA.out)
  obtain ⟨n0, n1, n2, n3, n4, n5⟩ := six TB_5.out
  obtain ⟨r0, r1, r2, r3, r4, r5⟩ := six RB_6.out
  have hfz := fun o => blk_frozen RB_6.out o
  go_wp2_with fail
  try any_goals (exfalso; omega)
  have hp := put6 RB_6.out (.int .i64 lots) (.int .i64 st) (.slice A2 8 c2) (.slice A3 8 c3) (.slice A4 8 c4) (.slice A5 8 c5)
  clear n0 n1 n2 n3 n4 n5 r0 r1 r2 r3 r4 r5 hfz
  generalize World.setCell (World.setCell (World.setCell (World.setCell (World.setCell (World.setCell (w2) ⟨rb, 0, none⟩ (.int .i64 lots)) ⟨rb, 1, none⟩ (.int .i64 st)) ⟨rb, 2, none⟩ (.slice A2 8 c2)) ⟨rb, 3, none⟩ (.slice A3 8 c3)) ⟨rb, 4, none⟩ (.slice A4 8 c4)) ⟨rb, 5, none⟩ (.slice A5 8 c5) = wf at hp ⊢
  obtain ⟨hp1, hp2⟩ := hp
  have HBF := lhid (HB_4.out.trans (hp2.below HB_4.out.size (fun k q => by have h1 := HSrb.out; have h2 : k = rb := q; omega)))
  refine bodyPost_ret (results_ct rfl _ _ rb 93 #[(.int .i64 lots), (.int .i64 st), (.slice A2 8 c2), (.slice A3 8 c3), (.slice A4 8 c4), (.slice A5 8 c5)] (0, 0) _ rfl hp1 Try.underlying93 rfl (by kernel_rfl)) rfl ?_
  exact ⟨_, by rw [HS3.out]; rfl, by unfold shutS; rw [if_neg (by rw [HS3.out]; decide)]; exact (HS0.out.next HBF.out).mono (fun k q => Or.inl q), HBF.out⟩
end Go.Proofs.Ythfdjccdelbeeaa.PT
end
