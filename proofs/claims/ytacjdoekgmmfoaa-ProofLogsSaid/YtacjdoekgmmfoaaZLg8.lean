/-
  The texts that the theorem in YtacjdoekgmmfoaaZRowLg rests on, merged (part 9); only what it reaches.
-/
import Derived.Test.YtacjdoekgmmfoaaZLg2
import Derived.Test.YtacjdoekgmmfoaaZLg5
import Derived.Test.YtacjdoekgmmfoaaZLg7
section
namespace Go.Proofs.Ytacjdoekgmmfoaa.PL
open Go.RowKit Go.Proofs.YtacjdoekgmmfoaaW.PrintWords Go.Proofs.YtacjdoekgmmfoaaW.PrintLast Go.Proofs.YtacjdoekgmmfoaaW.PrintMore
attribute [local go_sem] max2_int min2_int max_two min_two max_three min_three max_four min_four   -- for this text's walks alone
set_option linter.unusedVariables false
set_option linter.unusedSimpArgs false
def kimberlitelaw07_among.l0 : Nat → List (List Int) → List Int → Int → Option (Bool)
  | 0, _, _, _ => none
  | k + 1, x0, x1, x5 => if x5 < (x0.length : Int) then (if 0 ≤ x5 then (if (strOfNums (rd_L1 x0 x5)).toList = (strOfNums x1).toList then (some true) else (kimberlitelaw07_among.l0 k x0 x1 (wrap64 (x5 + 1)))) else (none)) else (some false)
def kimberlitelaw07_among.f (k : Nat) (l0 : List (List Int)) (l1 : List Int) : Option (Bool) := kimberlitelaw07_among.l0 k l0 l1 0
theorem kimberlitelaw07_among.mono_l : ∀ k, (∀ y0 y1 y2, LeO (kimberlitelaw07_among.l0 k y0 y1 y2) (kimberlitelaw07_among.l0 (k + 1) y0 y1 y2))
  | 0 => fun _ _ _ r h => by simp [kimberlitelaw07_among.l0] at h
  | k + 1 => by
    have ih0 := kimberlitelaw07_among.mono_l k
    · intro y0 y1 y2
      unfold kimberlitelaw07_among.l0
      repeat' first
      | (with_reducible exact ih0 _ _ _)
      | (with_reducible exact LeO.refl _)
      | (with_reducible exact LeO.none _)
      | (with_reducible refine LeO.ite ?_ ?_)
      | (with_reducible refine LeO.bind ?_ (fun _ => ?_))
      | exact ih0 _ _ _
      | exact LeO.none _
      | refine LeO.ite ?_ ?_
      | refine LeO.bind ?_ (fun _ => ?_)
theorem kimberlitelaw07_among.mono : ∀ a0 a1 k, LeO (kimberlitelaw07_among.f k a0 a1) (kimberlitelaw07_among.f (k + 1) a0 a1) := by
  intro a0 a1 k
  have ih0 := kimberlitelaw07_among.mono_l k
  unfold kimberlitelaw07_among.f
  repeat' first
      | (with_reducible exact ih0 _ _ _)
      | (with_reducible exact LeO.refl _)
      | (with_reducible exact LeO.none _)
      | (with_reducible refine LeO.ite ?_ ?_)
      | (with_reducible refine LeO.bind ?_ (fun _ => ?_))
      | exact ih0 _ _ _
      | exact LeO.none _
      | refine LeO.ite ?_ ?_
      | refine LeO.bind ?_ (fun _ => ?_)
set_option maxHeartbeats 8000000 in
set_option maxRecDepth 100000 in
theorem kimberlitelaw07_among.calls (k : Nat) (A0 : Option Addr) (c0 : Nat) (l0 : List (List Int)) (A1 : Option Addr) (c1 : Nat) (l1 : List Int) (r : Bool) (w : World) (hr0 : Kd.C (Kd.slice 5 (Kd.int .u8)) w A0 l0.length l0) (hc0 : l0.length ≤ c0) (hr1 : Kd.C (Kd.int .u8) w A1 l1.length l1) (hc1 : l1.length ≤ c1) (h : kimberlitelaw07_among.f k l0 l1 = some r) :
    Calls Try.prog 22 #[.slice A0 l0.length c0, .slice A1 l1.length c1] w fun e w' => e = .returned (.bool r) ∧ Drawn0 w w' := by
  have HR0 := Aside0.mk hr0
  have HC0 := Aside0.mk hc0
  clear hr0 hc0
  have HR1 := Aside0.mk hr1
  have HC1 := Aside0.mk hc1
  clear hr1 hc1
  have H : (kimberlitelaw07_among.l0 k l0 l1 0) = some r := h
  clear h
  have H' := Aside0.mk H
  clear H
  go_enter Try.func22, Try.ntmps22
  go_wp2
  repeat (go_quiet (fail); try go_wp2)
  go_loopg [5] k (fun kq v5 w' => ∃ (x5_1 : Int), v5 = .int .i64 x5_1 ∧ Aside0 (kimberlitelaw07_among.l0 kq l0 l1 x5_1 = some r) ∧ Aside0 (kq ≤ k) ∧ Drawn0 w w')
  case atStart => exact ⟨(0), (by first | rfl | (simp; done) | (simp [*]; done)), H', ⟨Nat.le_refl _⟩, by repeat (first | exact Drawn0.refl _ | apply Drawn0.step)⟩
  case round =>
    clear H'
    try clear c1
    try clear c2
    try clear p2
    obtain ⟨x5_1, rfl, HA, HK1, ⟨m1, rfl⟩⟩ := hrel
    cases gk with
    | zero => exact absurd HA.out (by simp [kimberlitelaw07_among.l0])
    | succ k1 =>
      have H := HA.out
      clear HA
      simp only [kimberlitelaw07_among.l0] at H
      by_cases c3 : x5_1 < (l0.length : Int)
      · rw [if_pos c3] at H
        have c3b0 : decide (x5_1 < (l0.length : Int)) = true := decide_eq_true c3
        clear c3
        by_cases c4 : 0 ≤ x5_1
        · rw [if_pos c4] at H
          have c4b0 : decide (0 ≤ x5_1) = true := decide_eq_true c4
          clear c4
          by_cases c5 : (strOfNums (rd_L1 l0 x5_1)).toList = (strOfNums l1).toList
          · rw [if_pos c5] at H
            have c5b0 : ((strOfNums (rd_L1 l0 x5_1)).toList == (strOfNums l1).toList) = true := beq_iff_eq.mpr c5
            have c5b1 : ((strOfNums (rd_L1 l0 x5_1)).toList != (strOfNums l1).toList) = false := bne_eq_false_iff_eq.mpr c5
            clear c5
            obtain rfl := Option.some.inj H
            have p584 : 0 ≤ (x5_1 : Int) := of_decide_eq_true (by first | (with_reducible assumption) | assumption)
            have q584 : x5_1 < (l0.length : Int) := of_decide_eq_true (by first | (with_reducible assumption) | assumption)
            obtain ⟨ad584, A584_0, c584_0, e584, hx584_0, hl584_0, hi584_0⟩ := at_L1 HR0.out x5_1 p584 q584
            cases e584
            have HR584_0 := Aside0.mk hi584_0
            have HC584_0 := Aside0.mk hl584_0
            clear hi584_0 hl584_0
            replace p584 := eq_true p584
            replace q584 := eq_true q584
            have hcv6 := Kd.C_string (P := Try.prog) (A := A584_0) (c := c584_0) Try.underlying22 Try.underlying5 Try.underlying9 HR584_0.out
            have hcv6n := fun n_ => Kd.C_string (P := Try.prog) (A := A584_0) (c := c584_0) Try.underlying22 Try.underlying5 Try.underlying9 (Kd.C_drewN HR584_0.out n_)
            have hcv7 := Kd.C_string (P := Try.prog) (A := A1) (c := c1) Try.underlying22 Try.underlying5 Try.underlying9 HR1.out
            have hcv7n := fun n_ => Kd.C_string (P := Try.prog) (A := A1) (c := c1) Try.underlying22 Try.underlying5 Try.underlying9 (Kd.C_drewN HR1.out n_)
            go_wp2
            repeat (go_quiet (fail); try go_wp2)
            go_ret
            exact ⟨by first | rfl | (simp; done) | (simp [*]; done), by repeat (first | exact Drawn0.refl _ | apply Drawn0.step)⟩
          · rw [if_neg c5] at H
            have c5b0 : ((strOfNums (rd_L1 l0 x5_1)).toList == (strOfNums l1).toList) = false := beq_eq_false_iff_ne.mpr c5
            have c5b1 : ((strOfNums (rd_L1 l0 x5_1)).toList != (strOfNums l1).toList) = true := bne_iff_ne.mpr c5
            have H' := Aside0.mk H
            clear H
            have p584 : 0 ≤ (x5_1 : Int) := of_decide_eq_true (by first | (with_reducible assumption) | assumption)
            have q584 : x5_1 < (l0.length : Int) := of_decide_eq_true (by first | (with_reducible assumption) | assumption)
            obtain ⟨ad584, A584_0, c584_0, e584, hx584_0, hl584_0, hi584_0⟩ := at_L1 HR0.out x5_1 p584 q584
            cases e584
            have HR584_0 := Aside0.mk hi584_0
            have HC584_0 := Aside0.mk hl584_0
            clear hi584_0 hl584_0
            replace p584 := eq_true p584
            replace q584 := eq_true q584
            have hcv8 := Kd.C_string (P := Try.prog) (A := A584_0) (c := c584_0) Try.underlying22 Try.underlying5 Try.underlying9 HR584_0.out
            have hcv8n := fun n_ => Kd.C_string (P := Try.prog) (A := A584_0) (c := c584_0) Try.underlying22 Try.underlying5 Try.underlying9 (Kd.C_drewN HR584_0.out n_)
            have hcv9 := Kd.C_string (P := Try.prog) (A := A1) (c := c1) Try.underlying22 Try.underlying5 Try.underlying9 HR1.out
            have hcv9n := fun n_ => Kd.C_string (P := Try.prog) (A := A1) (c := c1) Try.underlying22 Try.underlying5 Try.underlying9 (Kd.C_drewN HR1.out n_)
            go_wp2
            repeat (go_quiet (fail); try go_wp2)
            go_roundg k1
            case measure => have := HK1.out; omega
            case rel => exact ⟨(wrap64 (x5_1 + 1)), (by first | rfl | (simp; done) | (simp [*]; done)), H', ⟨by have := HK1.out; omega⟩, by repeat (first | exact Drawn0.refl _ | apply Drawn0.step)⟩
        · rw [if_neg c4] at H
          exact absurd H (by simp)
      · rw [if_neg c3] at H
        have c3b0 : decide (x5_1 < (l0.length : Int)) = false := decide_eq_false c3
        clear c3
        obtain rfl := Option.some.inj H
        go_wp2
        repeat (go_quiet (fail); try go_wp2)
        go_ret
        exact ⟨by first | rfl | (simp; done) | (simp [*]; done), by repeat (first | exact Drawn0.refl _ | apply Drawn0.step)⟩
def kimberliteref07_Log_Add.f (l0_0 : List (List Int)) (l1 : List Int) : Option ((List (List Int)) × Int × Int) := if (l1.length : Int) > 256 then (some (l0_0, 0, 3)) else (if (l0_0.length : Int) ≥ 4096 then (some (l0_0, 0, 8)) else (if ([] : List (List Int)).length + l0_0.length < 5864062014805 then ((some (([] : List (List Int)) ++ l0_0 : List (List Int))).bind fun y636 => (if ([] : List Int).length + l1.length < 140737488355328 then (if y636.length < 5864062014805 then ((some (y636 ++ [(([] : List Int) ++ l1)] : List (List Int))).bind fun y642 => (some (y642, wrap64 ((y642.length : Int) - 1), 0))) else (none)) else (none))) else (none)))
def kimberliteref07_Log_Add.T10 : Bool × List (List Nat × List Nat) := (true, [([], []), ([], []), ([1], [1]), ([2], [2]), ([3], [3]), ([0, 0], [0]), ([4, 5, 0, 1, 2, 3, 4, 5], [4]), ([6, 0, 1, 2, 3, 4, 5, 6], [])])
def kimberliteref07_Log_Add.B10 : List Nat := [0, 0, 2, 6, 14, 1, 63, 127]
theorem kimberliteref07_Log_Add.tab10 : rtab .any (opsOf Try.f74 10) = kimberliteref07_Log_Add.T10 := by kernel_rfl
theorem kimberliteref07_Log_Add.bits10 : waitsOk kimberliteref07_Log_Add.T10.2 kimberliteref07_Log_Add.B10 = true := by kernel_rfl
set_option maxHeartbeats 8000000 in
set_option maxRecDepth 100000 in
theorem kimberliteref07_Log_Add.calls (P0_0_ : Nat → Prop) (A0_0 : Option Addr) (c0_0 : Nat) (l0_0 : List (List Int)) (A1 : Option Addr) (c1 : Nat) (l1 : List Int) (r1 : List (List Int)) (r2 : Int) (r3 : Int) (w : World) (hs0_0 : Kd.V (Kd.slice 5 (Kd.int .u8)) 22 w w.heap.size (fun k_ => P0_0_ k_) (.slice A0_0 l0_0.length c0_0) l0_0) (hr1 : Kd.C (Kd.int .u8) w A1 l1.length l1) (hc1 : l1.length ≤ c1) (h : kimberliteref07_Log_Add.f l0_0 l1 = some (r1, r2, r3)) :
    Calls Try.prog 74 #[.agg #[.slice A0_0 l0_0.length c0_0], .slice A1 l1.length c1] w fun e w' => ∃ v0_ : Value, e = .returned (.tuple #[.agg #[v0_], .int .i64 r2, .int .i64 r3]) ∧ Kd.V (Kd.slice 5 (Kd.int .u8)) 22 w' w.heap.size (fun k_ => (P0_0_ k_ ∨ w.heap.size ≤ k_)) v0_ r1 ∧ Below w.heap.size w w' := by
  have hu64 := Try.underlying64
  have HO0_0 := Aside0.mk (show Kd.V (Kd.slice 5 (Kd.int .u8)) 22 w w.heap.size (fun k_ => (P0_0_ k_ ∨ w.heap.size ≤ k_)) (.slice A0_0 l0_0.length c0_0) l0_0 from Kd.V_mono hs0_0 (fun k_ hk => .inl hk))
  have HR1 := Aside0.mk hr1
  have HC1 := Aside0.mk hc1
  clear hr1 hc1
  have HB := Aside0.mk (Below.refl w.heap.size w)
  have H : (if (l1.length : Int) > 256 then (some (l0_0, 0, 3)) else (if (l0_0.length : Int) ≥ 4096 then (some (l0_0, 0, 8)) else (if ([] : List (List Int)).length + l0_0.length < 5864062014805 then ((some (([] : List (List Int)) ++ l0_0 : List (List Int))).bind fun y636 => (if ([] : List Int).length + l1.length < 140737488355328 then (if y636.length < 5864062014805 then ((some (y636 ++ [(([] : List Int) ++ l1)] : List (List Int))).bind fun y642 => (some (y642, wrap64 ((y642.length : Int) - 1), 0))) else (none)) else (none))) else (none)))) = some (r1, r2, r3) := h
  clear h
  by_cases c3 : (l1.length : Int) > 256
  · rw [if_pos c3] at H
    have c3b0 : decide (256 < (l1.length : Int)) = true := decide_eq_true c3
    have c3b1 : decide (256 < l1.length) = true := decide_eq_true (by omega)
    clear c3
    simp only [Option.some.injEq, Prod.mk.injEq] at H
    obtain ⟨rfl, rfl, rfl⟩ := H
    go_enter Try.func74, Try.ntmps74
    go_wp2_with (first | ((with_reducible refine gate_dst (N := 2) rfl ?_); refine box_event ?hg (N := 2) ?hd (cs := #[.slice A0_0 l0_0.length c0_0]) (t := 64) ?hr ?_; (case hd => rfl); (case hg => rfl); (case hr => first | (go_simp; done) | (go_simp; rfl)); intro gb634 hg w4 hbox hb; have n0_ := Aside0.mk (Kd.V_below (Kd.V_elderB (by (with_reducible repeat (first | apply Kd.V_alloc | apply Kd.V_drewN | apply Kd.V_drew)); exact HO0_0.out) gb634 (Nat.le_of_eq hg.symm)) hb); have n1_ := Aside0.mk (below_step (by repeat (first | (with_reducible first | exact HB.out | apply below_alloc | apply pw_below_drewN | apply below_drew1) | exact HB.out)) hb); have n2_ := Aside0.mk (hbox); have n3_ := Aside0.mk ((by rw [hg]; exact (below_size (by repeat (first | (with_reducible first | exact HB.out | apply below_alloc | apply pw_below_drewN | apply below_drew1) | exact HB.out))) : w.heap.size ≤ gb634)); have n4_ := Aside0.mk ((by rw [hg]; exact (below_size (by repeat (first | (with_reducible first | exact HB.out | apply below_alloc | apply pw_below_drewN | apply below_drew1) | exact HB.out))) : w.heap.size ≤ gb634)); clear HO0_0; clear HB; have HO0_0 := n0_; have HB := n1_; have BK634 := n2_; have GW634 := n3_; have GE634 := n4_; clear n0_ n1_ n2_ n3_ n4_; clear hb hbox hg) | ((with_reducible refine gate_dst (N := 4) rfl ?_); refine box_event ?hg (N := 4) ?hd (cs := #[.slice none 0 0]) (t := 64) ?hr ?_; (case hd => rfl); (case hg => rfl); (case hr => first | (go_simp; done) | (go_simp; rfl)); intro gb635 hg w5 hbox hb; have n0_ := Aside0.mk (Kd.V_below (Kd.V_elderB (by (with_reducible repeat (first | apply Kd.V_alloc | apply Kd.V_drewN | apply Kd.V_drew)); exact HO0_0.out) gb635 (Nat.le_of_eq hg.symm)) hb); have n1_ := Aside0.mk (blk_below (g := gb634) (o := .cells #[.slice A0_0 l0_0.length c0_0] 64 (0, 0)) (by (with_reducible repeat (first | refine blk_drewN ?_ _ | refine blk_drew ?_ | refine blk_alloc ?_ _)); exact BK634.out) hb); have n2_ := Aside0.mk (below_step (by repeat (first | (with_reducible first | exact HB.out | apply below_alloc | apply pw_below_drewN | apply below_drew1 | refine below_set ?_ GE634.out) | exact HB.out)) hb); have n3_ := Aside0.mk (hbox); have n4_ := Aside0.mk ((by rw [hg]; exact (below_size (by repeat (first | (with_reducible first | exact HB.out | apply below_alloc | apply pw_below_drewN | apply below_drew1 | refine below_set ?_ GE634.out) | exact HB.out))) : w.heap.size ≤ gb635)); have n5_ := Aside0.mk ((by rw [hg]; exact (below_size (by repeat (first | (with_reducible first | exact HB.out | apply below_alloc | apply pw_below_drewN | apply below_drew1 | refine below_set ?_ GE634.out) | exact HB.out))) : w.heap.size ≤ gb635)); have n6_ := Aside0.mk ((by rw [hg]; exact Nat.ne_of_lt (blk_lt (g := gb634) (o := .cells #[.slice A0_0 l0_0.length c0_0] 64 (0, 0)) (by (with_reducible repeat (first | refine blk_drewN ?_ _ | refine blk_drew ?_ | refine blk_alloc ?_ _)); exact BK634.out)) : gb634 ≠ gb635)); have n7_ := Aside0.mk ((by rw [hg]; exact Nat.ne_of_gt (blk_lt (g := gb634) (o := .cells #[.slice A0_0 l0_0.length c0_0] 64 (0, 0)) (by (with_reducible repeat (first | refine blk_drewN ?_ _ | refine blk_drew ?_ | refine blk_alloc ?_ _)); exact BK634.out)) : gb635 ≠ gb634)); clear HO0_0; clear BK634; clear HB; have HO0_0 := n0_; have BK634 := n1_; have HB := n2_; have BK635 := n3_; have GW635 := n4_; have GE635 := n5_; have NB634_635 := n6_; have NB635_634 := n7_; clear n0_ n1_ n2_ n3_ n4_ n5_ n6_ n7_; clear hb hbox hg; have hnb6 := NB634_635.out; have hnc6 := NB635_634.out; have hcz7_0 : w5.cell? ⟨gb634, 0, none⟩ = some (.slice A0_0 l0_0.length c0_0) := (blk_cell BK634.out 0).trans rfl; have hfz7_0 := blk_frozen BK634.out 0; have hcz8_0 : w5.cell? ⟨gb635, 0, none⟩ = some (.slice none 0 0) := (blk_cell BK635.out 0).trans rfl; have hfz8_0 := blk_frozen BK635.out 0))
    refine bodyPost_ret (results_ctt rfl _ _ gb635 64 #[.slice A0_0 l0_0.length c0_0] (0, 0) _ rfl (by (with_reducible repeat (first | refine blk_drewN ?_ _ | refine blk_drew ?_ | refine blk_alloc ?_ _)); refine blk_put (cs := #[.slice none 0 0]) ?_ 0 _ rfl; (with_reducible repeat (first | refine blk_drewN ?_ _ | refine blk_drew ?_ | refine blk_alloc ?_ _)); exact BK635.out) Try.underlying64 rfl (by kernel_rfl)) rfl ?_
    exact ⟨_, by first | rfl | (simp [errW_none, errW_some] <;> rfl) | (simp [*, errW_none, errW_some] <;> rfl), by (with_reducible repeat (first | apply Kd.V_alloc | apply Kd.V_drewN | apply Kd.V_drew)); exact Kd.V_mono (Kd.V_far (p := ⟨gb635, 0, none⟩) (Kd.V_mono HO0_0.out (fun k_ hk => (⟨hk, hk.2⟩ : _ ∧ k_ ≠ gb635))) (fun _ hk => hk.2) (.slice A0_0 l0_0.length c0_0)) (fun _ hk => hk.1.1.1), by repeat (first | (with_reducible first | exact HB.out | apply below_alloc | apply pw_below_drewN | apply below_drew1 | refine below_set ?_ GE634.out | refine below_set ?_ GE635.out) | exact HB.out)⟩
  · rw [if_neg c3] at H
    have c3b0 : decide (256 < (l1.length : Int)) = false := decide_eq_false c3
    have c3b1 : decide (256 < l1.length) = false := decide_eq_false (by omega)
    clear c3
    by_cases c9 : (l0_0.length : Int) ≥ 4096
    · rw [if_pos c9] at H
      have c9b0 : decide (4096 ≤ (l0_0.length : Int)) = true := decide_eq_true c9
      have c9b1 : decide (4096 ≤ l0_0.length) = true := decide_eq_true (by omega)
      clear c9
      simp only [Option.some.injEq, Prod.mk.injEq] at H
      obtain ⟨rfl, rfl, rfl⟩ := H
      go_enter Try.func74, Try.ntmps74
      go_wp2_with (first | ((with_reducible refine gate_dst (N := 2) rfl ?_); refine box_event ?hg (N := 2) ?hd (cs := #[.slice A0_0 l0_0.length c0_0]) (t := 64) ?hr ?_; (case hd => rfl); (case hg => rfl); (case hr => first | (go_simp; done) | (go_simp; rfl)); intro gb634 hg w10 hbox hb; have n0_ := Aside0.mk (Kd.V_below (Kd.V_elderB (by (with_reducible repeat (first | apply Kd.V_alloc | apply Kd.V_drewN | apply Kd.V_drew)); exact HO0_0.out) gb634 (Nat.le_of_eq hg.symm)) hb); have n1_ := Aside0.mk (below_step (by repeat (first | (with_reducible first | exact HB.out | apply below_alloc | apply pw_below_drewN | apply below_drew1) | exact HB.out)) hb); have n2_ := Aside0.mk (hbox); have n3_ := Aside0.mk ((by rw [hg]; exact (below_size (by repeat (first | (with_reducible first | exact HB.out | apply below_alloc | apply pw_below_drewN | apply below_drew1) | exact HB.out))) : w.heap.size ≤ gb634)); have n4_ := Aside0.mk ((by rw [hg]; exact (below_size (by repeat (first | (with_reducible first | exact HB.out | apply below_alloc | apply pw_below_drewN | apply below_drew1) | exact HB.out))) : w.heap.size ≤ gb634)); clear HO0_0; clear HB; have HO0_0 := n0_; have HB := n1_; have BK634 := n2_; have GW634 := n3_; have GE634 := n4_; clear n0_ n1_ n2_ n3_ n4_; clear hb hbox hg) | ((with_reducible refine gate_dst (N := 4) rfl ?_); refine box_event ?hg (N := 4) ?hd (cs := #[.slice none 0 0]) (t := 64) ?hr ?_; (case hd => rfl); (case hg => rfl); (case hr => first | (go_simp; done) | (go_simp; rfl)); intro gb635 hg w11 hbox hb; have n0_ := Aside0.mk (Kd.V_below (Kd.V_elderB (by (with_reducible repeat (first | apply Kd.V_alloc | apply Kd.V_drewN | apply Kd.V_drew)); exact HO0_0.out) gb635 (Nat.le_of_eq hg.symm)) hb); have n1_ := Aside0.mk (blk_below (g := gb634) (o := .cells #[.slice A0_0 l0_0.length c0_0] 64 (0, 0)) (by (with_reducible repeat (first | refine blk_drewN ?_ _ | refine blk_drew ?_ | refine blk_alloc ?_ _)); exact BK634.out) hb); have n2_ := Aside0.mk (below_step (by repeat (first | (with_reducible first | exact HB.out | apply below_alloc | apply pw_below_drewN | apply below_drew1 | refine below_set ?_ GE634.out) | exact HB.out)) hb); have n3_ := Aside0.mk (hbox); have n4_ := Aside0.mk ((by rw [hg]; exact (below_size (by repeat (first | (with_reducible first | exact HB.out | apply below_alloc | apply pw_below_drewN | apply below_drew1 | refine below_set ?_ GE634.out) | exact HB.out))) : w.heap.size ≤ gb635)); have n5_ := Aside0.mk ((by rw [hg]; exact (below_size (by repeat (first | (with_reducible first | exact HB.out | apply below_alloc | apply pw_below_drewN | apply below_drew1 | refine below_set ?_ GE634.out) | exact HB.out))) : w.heap.size ≤ gb635)); have n6_ := Aside0.mk ((by rw [hg]; exact Nat.ne_of_lt (blk_lt (g := gb634) (o := .cells #[.slice A0_0 l0_0.length c0_0] 64 (0, 0)) (by (with_reducible repeat (first | refine blk_drewN ?_ _ | refine blk_drew ?_ | refine blk_alloc ?_ _)); exact BK634.out)) : gb634 ≠ gb635)); have n7_ := Aside0.mk ((by rw [hg]; exact Nat.ne_of_gt (blk_lt (g := gb634) (o := .cells #[.slice A0_0 l0_0.length c0_0] 64 (0, 0)) (by (with_reducible repeat (first | refine blk_drewN ?_ _ | refine blk_drew ?_ | refine blk_alloc ?_ _)); exact BK634.out)) : gb635 ≠ gb634)); clear HO0_0; clear BK634; clear HB; have HO0_0 := n0_; have BK634 := n1_; have HB := n2_; have BK635 := n3_; have GW635 := n4_; have GE635 := n5_; have NB634_635 := n6_; have NB635_634 := n7_; clear n0_ n1_ n2_ n3_ n4_ n5_ n6_ n7_; clear hb hbox hg; have hnb12 := NB634_635.out; have hnc12 := NB635_634.out; have hcz13_0 : w11.cell? ⟨gb634, 0, none⟩ = some (.slice A0_0 l0_0.length c0_0) := (blk_cell BK634.out 0).trans rfl; have hfz13_0 := blk_frozen BK634.out 0; have hcz14_0 : w11.cell? ⟨gb635, 0, none⟩ = some (.slice none 0 0) := (blk_cell BK635.out 0).trans rfl; have hfz14_0 := blk_frozen BK635.out 0))
      refine bodyPost_ret (results_ctt rfl _ _ gb635 64 #[.slice A0_0 l0_0.length c0_0] (0, 0) _ rfl (by (with_reducible repeat (first | refine blk_drewN ?_ _ | refine blk_drew ?_ | refine blk_alloc ?_ _)); refine blk_put (cs := #[.slice none 0 0]) ?_ 0 _ rfl; (with_reducible repeat (first | refine blk_drewN ?_ _ | refine blk_drew ?_ | refine blk_alloc ?_ _)); exact BK635.out) Try.underlying64 rfl (by kernel_rfl)) rfl ?_
      exact ⟨_, by first | rfl | (simp [errW_none, errW_some] <;> rfl) | (simp [*, errW_none, errW_some] <;> rfl), by (with_reducible repeat (first | apply Kd.V_alloc | apply Kd.V_drewN | apply Kd.V_drew)); exact Kd.V_mono (Kd.V_far (p := ⟨gb635, 0, none⟩) (Kd.V_mono HO0_0.out (fun k_ hk => (⟨hk, hk.2⟩ : _ ∧ k_ ≠ gb635))) (fun _ hk => hk.2) (.slice A0_0 l0_0.length c0_0)) (fun _ hk => hk.1.1.1), by repeat (first | (with_reducible first | exact HB.out | apply below_alloc | apply pw_below_drewN | apply below_drew1 | refine below_set ?_ GE634.out | refine below_set ?_ GE635.out) | exact HB.out)⟩
    · rw [if_neg c9] at H
      have c9b0 : decide (4096 ≤ (l0_0.length : Int)) = false := decide_eq_false c9
      have c9b1 : decide (4096 ≤ l0_0.length) = false := decide_eq_false (by omega)
      clear c9
      by_cases c15 : ([] : List (List Int)).length + l0_0.length < 5864062014805
      · rw [if_pos c15] at H
        have LMc15 := Aside0.mk c15
        clear c15
        obtain ⟨y636, hy636⟩ : ∃ y_ : List (List Int), y_ = (([] : List (List Int)) ++ l0_0) := ⟨_, rfl⟩
        replace H : (if ([] : List Int).length + l1.length < 140737488355328 then (if y636.length < 5864062014805 then ((some (y636 ++ [(([] : List Int) ++ l1)] : List (List Int))).bind fun y642 => (some (y642, wrap64 ((y642.length : Int) - 1), 0))) else (none)) else (none)) = some (r1, r2, r3) := by first | (rw [hy636]; with_reducible exact H) | (have H2_ := (Option.bind_some _ _).symm.trans H; rw [hy636]; with_reducible exact H2_) | (have H2_ := (Option.bind_some _ _).symm.trans H; with_reducible exact H2_) | with_reducible exact H | (rw [hy636]; exact H) | exact H
        have Ny636 := Aside0.mk hy636
        clear hy636
        by_cases c16 : ([] : List Int).length + l1.length < 140737488355328
        · rw [if_pos c16] at H
          have LMc16 := Aside0.mk c16
          clear c16
          obtain ⟨y639, hy639⟩ : ∃ y_ : List Int, y_ = (([] : List Int) ++ l1) := ⟨_, rfl⟩
          replace H : (if y636.length < 5864062014805 then ((some (y636 ++ [y639] : List (List Int))).bind fun y642 => (some (y642, wrap64 ((y642.length : Int) - 1), 0))) else (none)) = some (r1, r2, r3) := by first | (rw [hy639]; with_reducible exact H) | (have H2_ := (Option.bind_some _ _).symm.trans H; rw [hy639]; with_reducible exact H2_) | (have H2_ := (Option.bind_some _ _).symm.trans H; with_reducible exact H2_) | with_reducible exact H | (rw [hy639]; exact H) | exact H
          have Ny639 := Aside0.mk hy639
          clear hy639
          by_cases c17 : y636.length < 5864062014805
          · rw [if_pos c17] at H
            have LMc17 := Aside0.mk c17
            clear c17
            obtain ⟨y642, hy642⟩ : ∃ y_ : List (List Int), y_ = (y636 ++ [y639]) := ⟨_, rfl⟩
            replace H : (some (y642, wrap64 ((y642.length : Int) - 1), 0)) = some (r1, r2, r3) := by first | (rw [hy642]; with_reducible exact H) | (have H2_ := (Option.bind_some _ _).symm.trans H; rw [hy642]; with_reducible exact H2_) | (have H2_ := (Option.bind_some _ _).symm.trans H; with_reducible exact H2_) | with_reducible exact H | (rw [hy642]; exact H) | exact H
            have Ny642 := Aside0.mk hy642
            clear hy642
            simp only [Option.some.injEq, Prod.mk.injEq] at H
            obtain ⟨rfl, rfl, rfl⟩ := H
            go_enter Try.func74, Try.ntmps74
            try go_wp2_with (first | ((with_reducible refine gate_dst (N := 2) rfl ?_); refine box_event ?hg (N := 2) ?hd (cs := #[.slice A0_0 l0_0.length c0_0]) (t := 64) ?hr ?_; (case hd => rfl); (case hg => rfl); (case hr => first | (go_simp; done) | (go_simp; rfl)); intro gb634 hg w18 hbox hb; have n0_ := Aside0.mk (Kd.V_below (Kd.V_elderB (by (with_reducible repeat (first | apply Kd.V_alloc | apply Kd.V_drewN | apply Kd.V_drew)); exact HO0_0.out) gb634 (Nat.le_of_eq hg.symm)) hb); have n1_ := Aside0.mk (below_step (by repeat (first | (with_reducible first | exact HB.out | apply below_alloc | apply pw_below_drewN | apply below_drew1) | exact HB.out)) hb); have n2_ := Aside0.mk (hbox); have n3_ := Aside0.mk ((by rw [hg]; exact (below_size (by repeat (first | (with_reducible first | exact HB.out | apply below_alloc | apply pw_below_drewN | apply below_drew1) | exact HB.out))) : w.heap.size ≤ gb634)); have n4_ := Aside0.mk ((by rw [hg]; exact (below_size (by repeat (first | (with_reducible first | exact HB.out | apply below_alloc | apply pw_below_drewN | apply below_drew1) | exact HB.out))) : w.heap.size ≤ gb634)); clear HO0_0; clear HB; have HO0_0 := n0_; have HB := n1_; have BK634 := n2_; have GW634 := n3_; have GE634 := n4_; clear n0_ n1_ n2_ n3_ n4_; clear hb hbox hg) | ((with_reducible refine gate_dst (N := 4) rfl ?_); refine box_event ?hg (N := 4) ?hd (cs := #[.slice none 0 0]) (t := 64) ?hr ?_; (case hd => rfl); (case hg => rfl); (case hr => first | (go_simp; done) | (go_simp; rfl)); intro gb635 hg w19 hbox hb; have n0_ := Aside0.mk (Kd.V_below (Kd.V_elderB (by (with_reducible repeat (first | apply Kd.V_alloc | apply Kd.V_drewN | apply Kd.V_drew)); exact HO0_0.out) gb635 (Nat.le_of_eq hg.symm)) hb); have n1_ := Aside0.mk (blk_below (g := gb634) (o := .cells #[.slice A0_0 l0_0.length c0_0] 64 (0, 0)) (by (with_reducible repeat (first | refine blk_drewN ?_ _ | refine blk_drew ?_ | refine blk_alloc ?_ _)); exact BK634.out) hb); have n2_ := Aside0.mk (below_step (by repeat (first | (with_reducible first | exact HB.out | apply below_alloc | apply pw_below_drewN | apply below_drew1 | refine below_set ?_ GE634.out) | exact HB.out)) hb); have n3_ := Aside0.mk (hbox); have n4_ := Aside0.mk ((by rw [hg]; exact (below_size (by repeat (first | (with_reducible first | exact HB.out | apply below_alloc | apply pw_below_drewN | apply below_drew1 | refine below_set ?_ GE634.out) | exact HB.out))) : w.heap.size ≤ gb635)); have n5_ := Aside0.mk ((by rw [hg]; exact (below_size (by repeat (first | (with_reducible first | exact HB.out | apply below_alloc | apply pw_below_drewN | apply below_drew1 | refine below_set ?_ GE634.out) | exact HB.out))) : w.heap.size ≤ gb635)); have n6_ := Aside0.mk ((by rw [hg]; exact Nat.ne_of_lt (blk_lt (g := gb634) (o := .cells #[.slice A0_0 l0_0.length c0_0] 64 (0, 0)) (by (with_reducible repeat (first | refine blk_drewN ?_ _ | refine blk_drew ?_ | refine blk_alloc ?_ _)); exact BK634.out)) : gb634 ≠ gb635)); have n7_ := Aside0.mk ((by rw [hg]; exact Nat.ne_of_gt (blk_lt (g := gb634) (o := .cells #[.slice A0_0 l0_0.length c0_0] 64 (0, 0)) (by (with_reducible repeat (first | refine blk_drewN ?_ _ | refine blk_drew ?_ | refine blk_alloc ?_ _)); exact BK634.out)) : gb635 ≠ gb634)); clear HO0_0; clear BK634; clear HB; have HO0_0 := n0_; have BK634 := n1_; have HB := n2_; have BK635 := n3_; have GW635 := n4_; have GE635 := n5_; have NB634_635 := n6_; have NB635_634 := n7_; clear n0_ n1_ n2_ n3_ n4_ n5_ n6_ n7_; clear hb hbox hg; have hnb20 := NB634_635.out; have hnc20 := NB635_634.out; have hcz21_0 : w19.cell? ⟨gb634, 0, none⟩ = some (.slice A0_0 l0_0.length c0_0) := (blk_cell BK634.out 0).trans rfl; have hfz21_0 := blk_frozen BK634.out 0) | ((with_reducible refine gate_builtin (b := .append) (xs := #[.tmp 18, .tmp 20]) rfl ?_); at_builtin; refine Kd.N_append_rows (Kd.slice 5 (Kd.int .u8)) (w0 := w) w.heap.size rfl (.tmp 18) (.tmp 20) 39 22 (.slice none 0 0) 24 rfl Try.underlying39 info22 rfl (by decide) (by omega) (.slice none 0 0) ([] : List (List Int)) l0_0 _ _ _ (fun k_ => (P0_0_ k_ ∨ w.heap.size ≤ k_) ∧ k_ ≠ gb634 ∧ k_ ≠ gb635) (fun k_ => ((fun k_ => (P0_0_ k_ ∨ w.heap.size ≤ k_) ∧ k_ ≠ gb634 ∧ k_ ≠ gb635)) k_ ∧ some k_ ≠ (.slice none 0 0 : Value).ownBlock) rfl rfl ?aO ?aR (fun _ hk => hk) ?aF ?aB ?aS ?aL ?_; (case aR => exact (by skip; exact Kd.V_F (Kd.V_mono (ok' := (fun k_ => ((fun k_ => (P0_0_ k_ ∨ w.heap.size ≤ k_) ∧ k_ ≠ gb634 ∧ k_ ≠ gb635)) k_ ∧ some k_ ≠ (.slice none 0 0 : Value).ownBlock)) (HO0_0.out) (fun k_ hk => ⟨⟨hk.1.1, ⟨hk.1.2, hk.2⟩⟩, (by simp [Value.ownBlock])⟩)))); (case aB => exact (by repeat (first | (with_reducible first | exact HB.out | apply below_alloc | apply pw_below_drewN | apply below_drew1 | refine below_set ?_ GE634.out | refine below_set ?_ GE635.out) | exact HB.out))); (case aF => exact (fun k_ hk => ⟨(.inr (Nat.le_trans (below_size (by repeat (first | (with_reducible first | exact HB.out | apply below_alloc | apply pw_below_drewN | apply below_drew1 | refine below_set ?_ GE634.out | refine below_set ?_ GE635.out) | exact HB.out))) hk)), Kd.freshB (g := gb634) (o := .cells #[.slice A0_0 l0_0.length c0_0] 64 (0, 0)) (by (with_reducible repeat (first | refine blk_drewN ?_ _ | refine blk_drew ?_ | refine blk_alloc ?_ _)); exact BK634.out) k_ hk, Kd.freshB (g := gb635) (o := .cells #[.slice none 0 0] 64 (0, 0)) (by (with_reducible repeat (first | refine blk_drewN ?_ _ | refine blk_drew ?_ | refine blk_alloc ?_ _)); exact BK635.out) k_ hk⟩)); (case aO => exact ((Kd.N_nil _ _ _ _ (fun k_ => (P0_0_ k_ ∨ w.heap.size ≤ k_) ∧ k_ ≠ gb634 ∧ k_ ≠ gb635)))); (case aS => exact (below_size (by repeat (first | (with_reducible first | exact HB.out | apply below_alloc | apply pw_below_drewN | apply below_drew1 | refine below_set ?_ GE634.out | refine below_set ?_ GE635.out) | exact HB.out)))); (case aL => have := LMc15.out; omega); intro v637 w22 ho hb hg hat; rw [← Ny636.out] at ho; have n0_ := Aside0.mk (Kd.V_afterv (Kd.V_apart_nil (by (with_reducible repeat (first | apply Kd.V_alloc | apply Kd.V_drewN | apply Kd.V_drew)); exact HO0_0.out)) hg hat); have n1_ := Aside0.mk (blk_grown (g := gb634) (o := .cells #[.slice A0_0 l0_0.length c0_0] 64 (0, 0)) (by (with_reducible repeat (first | refine blk_drewN ?_ _ | refine blk_drew ?_ | refine blk_alloc ?_ _)); exact BK634.out) hg (by simp [Value.ownBlock])); have n2_ := Aside0.mk (blk_grown (g := gb635) (o := .cells #[.slice none 0 0] 64 (0, 0)) (by (with_reducible repeat (first | refine blk_drewN ?_ _ | refine blk_drew ?_ | refine blk_alloc ?_ _)); exact BK635.out) hg (by simp [Value.ownBlock])); have n3_ := Aside0.mk (hb); have n4_ := Aside0.mk (ho); clear HO0_0; clear BK634; clear BK635; clear HB; have HO0_0 := n0_; have BK634 := n1_; have BK635 := n2_; have HB := n3_; have HO638 := n4_; clear n0_ n1_ n2_ n3_ n4_; clear ho hb hg hat) | ((with_reducible refine gate_builtin (b := .append) (xs := #[.tmp 22, .tmp 23]) rfl ?_); at_builtin; refine Kd.R_append_rows (Kd.int .u8) (w0 := w) w.heap.size rfl (.tmp 22) (.tmp 23) 22 5 (.int .u8 0) 1 rfl Try.underlying22 info5 rfl (by decide) (by omega) (.slice none 0 0) ([] : List Int) l1 _ _ _ (fun k_ => (w.heap.size ≤ k_)) (fun _ => False) rfl rfl ?aO ?aR (fun _ _ h => h) (fun _ h => h.elim) ?aF ?aB ?aS ?aL ?_; (case aR => repeat (first | exact (Kd.C_below HR1.out HB.out) | (with_reducible refine Kd.C_alloc ?_ _) | (with_reducible refine Kd.C_drewN ?_ _) | (with_reducible refine Kd.C_drew ?_))); (case aB => exact (by repeat (first | (with_reducible first | exact HB.out | apply below_alloc | apply pw_below_drewN | apply below_drew1 | refine below_set ?_ GE634.out | refine below_set ?_ GE635.out) | exact HB.out))); (case aF => exact (fun k_ hk => (Nat.le_trans (below_size (by repeat (first | (with_reducible first | exact HB.out | apply below_alloc | apply pw_below_drewN | apply below_drew1 | refine below_set ?_ GE634.out | refine below_set ?_ GE635.out) | exact HB.out))) hk))); (case aO => exact ((Kd.R_nil _ _ _ _ (fun k_ => (w.heap.size ≤ k_))))); (case aS => exact (below_size (by repeat (first | (with_reducible first | exact HB.out | apply below_alloc | apply pw_below_drewN | apply below_drew1 | refine below_set ?_ GE634.out | refine below_set ?_ GE635.out) | exact HB.out)))); (case aL => have := LMc16.out; omega); intro v640 w23 ho hb hg hat; rw [← Ny639.out] at ho; have n0_ := Aside0.mk (Kd.V_afterv (Kd.V_apart_nil (by (with_reducible repeat (first | apply Kd.V_alloc | apply Kd.V_drewN | apply Kd.V_drew)); exact HO0_0.out)) hg hat); have n1_ := Aside0.mk (blk_grown (g := gb634) (o := .cells #[.slice A0_0 l0_0.length c0_0] 64 (0, 0)) (by (with_reducible repeat (first | refine blk_drewN ?_ _ | refine blk_drew ?_ | refine blk_alloc ?_ _)); exact BK634.out) hg (by simp [Value.ownBlock])); have n2_ := Aside0.mk (blk_grown (g := gb635) (o := .cells #[.slice none 0 0] 64 (0, 0)) (by (with_reducible repeat (first | refine blk_drewN ?_ _ | refine blk_drew ?_ | refine blk_alloc ?_ _)); exact BK635.out) hg (by simp [Value.ownBlock])); have n3_ := Aside0.mk (Kd.N_afterv (Kd.N_apart_nil (by (with_reducible repeat (first | apply Kd.N_alloc | apply Kd.N_drewN | apply Kd.N_drew)); exact HO638.out)) hg hat); have n4_ := Aside0.mk (hb); have n5_ := Aside0.mk (ho); clear HO0_0; clear BK634; clear BK635; clear HO638; clear HB; have HO0_0 := n0_; have BK634 := n1_; have BK635 := n2_; have HO638 := n3_; have HB := n4_; have HO641 := n5_; clear n0_ n1_ n2_ n3_ n4_ n5_; clear ho hb hg hat; obtain ⟨Ao25, co25, eo25⟩ := Kd.R_slice HO641.out; subst eo25) | ((with_reducible refine gate_builtin (b := .append) (xs := #[.tmp 25, .tmp 27]) rfl ?_); at_builtin; refine Kd.N_append (Kd.slice 5 (Kd.int .u8)) (w0 := w) w.heap.size rfl (.tmp 25) (.tmp 27) 39 22 (.slice none 0 0) 24 rfl Try.underlying39 info22 rfl (by decide) (by omega) v637 y636 y639 [.slice Ao25 y639.length co25] (fun k_ => (P0_0_ k_ ∨ w.heap.size ≤ k_) ∧ k_ ≠ gb634 ∧ k_ ≠ gb635) (fun k_ => ((fun k_ => (P0_0_ k_ ∨ w.heap.size ≤ k_) ∧ k_ ≠ gb634 ∧ k_ ≠ gb635)) k_ ∧ some k_ ≠ (v637 : Value).ownBlock) rfl rfl ?aP (fun _ hk => hk) ?aF ?aO ?aB ?aS ?aL ?_; (case aP => exact (Kd.FK_slice_mk (Kd.R_reads' (Kd.R_mono (ok' := (fun k_ => ((fun k_ => (P0_0_ k_ ∨ w.heap.size ≤ k_) ∧ k_ ≠ gb634 ∧ k_ ≠ gb635)) k_ ∧ some k_ ≠ (v637 : Value).ownBlock)) (Kd.R_types (Kd.R_types (Kd.R_apart' (HO641.out) (Kd.N_typed HO638.out) (by decide)) BK634.out (by decide)) BK635.out (by decide)) (fun k_ hk => ⟨⟨(.inr (hk.1.1.1)), ⟨hk.1.2, hk.2⟩⟩, hk.1.1.2⟩))).2.1 (Kd.R_F (Kd.R_mono (ok' := (fun k_ => ((fun k_ => (P0_0_ k_ ∨ w.heap.size ≤ k_) ∧ k_ ≠ gb634 ∧ k_ ≠ gb635)) k_ ∧ some k_ ≠ (v637 : Value).ownBlock)) (Kd.R_types (Kd.R_types (Kd.R_apart' (HO641.out) (Kd.N_typed HO638.out) (by decide)) BK634.out (by decide)) BK635.out (by decide)) (fun k_ hk => ⟨⟨(.inr (hk.1.1.1)), ⟨hk.1.2, hk.2⟩⟩, hk.1.1.2⟩))))); (case aB => exact (by repeat (first | (with_reducible first | exact HB.out | apply below_alloc | apply pw_below_drewN | apply below_drew1 | refine below_set ?_ GE634.out | refine below_set ?_ GE635.out) | exact HB.out))); (case aF => exact (fun k_ hk => ⟨(.inr (Nat.le_trans (below_size (by repeat (first | (with_reducible first | exact HB.out | apply below_alloc | apply pw_below_drewN | apply below_drew1 | refine below_set ?_ GE634.out | refine below_set ?_ GE635.out) | exact HB.out))) hk)), Kd.freshB (g := gb634) (o := .cells #[.slice A0_0 l0_0.length c0_0] 64 (0, 0)) (by (with_reducible repeat (first | refine blk_drewN ?_ _ | refine blk_drew ?_ | refine blk_alloc ?_ _)); exact BK634.out) k_ hk, Kd.freshB (g := gb635) (o := .cells #[.slice none 0 0] 64 (0, 0)) (by (with_reducible repeat (first | refine blk_drewN ?_ _ | refine blk_drew ?_ | refine blk_alloc ?_ _)); exact BK635.out) k_ hk⟩)); (case aO => exact (by (with_reducible repeat (first | apply Kd.N_alloc | apply Kd.N_drewN | apply Kd.N_drew)); exact Kd.N_mono HO638.out (fun _ hk => ⟨hk.1.1, ⟨hk.1.2.1, hk.1.2.2⟩⟩))); (case aS => exact (below_size (by repeat (first | (with_reducible first | exact HB.out | apply below_alloc | apply pw_below_drewN | apply below_drew1 | refine below_set ?_ GE634.out | refine below_set ?_ GE635.out) | exact HB.out)))); (case aL => have := LMc17.out; omega); intro v643 w24 ho hb hg hat; rw [← Ny642.out] at ho; have n0_ := Aside0.mk (Kd.V_afterv (ok := (fun k_ => (P0_0_ k_ ∨ w.heap.size ≤ k_) ∧ some k_ ≠ (.slice Ao25 y639.length co25 : Value).ownBlock ∧ k_ ≠ gb634 ∧ k_ ≠ gb635)) (by (with_reducible repeat (first | apply Kd.V_alloc | apply Kd.V_drewN | apply Kd.V_drew)); exact Kd.V_mono HO0_0.out (fun _ hk => ⟨⟨hk.1.1.1.1, ⟨hk.2, ⟨hk.1.1.1.2, hk.1.1.2⟩⟩⟩, hk.1.2⟩)) hg hat); have n1_ := Aside0.mk (blk_grown (g := gb634) (o := .cells #[.slice A0_0 l0_0.length c0_0] 64 (0, 0)) (by (with_reducible repeat (first | refine blk_drewN ?_ _ | refine blk_drew ?_ | refine blk_alloc ?_ _)); exact BK634.out) hg (Kd.N_ne HO638.out BK634.out (by decide))); have n2_ := Aside0.mk (blk_grown (g := gb635) (o := .cells #[.slice none 0 0] 64 (0, 0)) (by (with_reducible repeat (first | refine blk_drewN ?_ _ | refine blk_drew ?_ | refine blk_alloc ?_ _)); exact BK635.out) hg (Kd.N_ne HO638.out BK635.out (by decide))); have n3_ := Aside0.mk (hb); have n4_ := Aside0.mk (ho); clear HO0_0; clear BK634; clear BK635; clear HB; clear HO638; clear HO641; have HO0_0 := n0_; have BK634 := n1_; have BK635 := n2_; have HB := n3_; have HO644 := n4_; clear n0_ n1_ n2_ n3_ n4_; clear ho hb hg hat; obtain ⟨Ao26, co26, eo26⟩ := Kd.N_slice HO644.out; subst eo26; have hcz27_0 : w24.cell? ⟨gb634, 0, none⟩ = some (.slice A0_0 l0_0.length c0_0) := (blk_cell BK634.out 0).trans rfl; have hfz27_0 := blk_frozen BK634.out 0))
            have n0_ : Aside0 (Kd.V (Kd.slice 5 (Kd.int .u8)) 22 (w24.setCell ⟨gb634, 0, none⟩ (.slice Ao26 y642.length co26)) w.heap.size (fun k_ => (P0_0_ k_ ∨ w.heap.size ≤ k_) ∧ some k_ ≠ (.slice Ao26 y642.length co26 : Value).ownBlock ∧ k_ ≠ gb634 ∧ k_ ≠ gb635) (.slice A0_0 l0_0.length c0_0) l0_0) := ⟨by (with_reducible repeat (first | apply Kd.V_alloc | apply Kd.V_drewN | apply Kd.V_drew)); exact Kd.V_mono (Kd.V_far (p := ⟨gb634, 0, none⟩) (Kd.V_mono HO0_0.out (fun k_ hk => (⟨hk, hk.1.2.2.1⟩ : _ ∧ k_ ≠ gb634))) (fun _ hk => hk.2) (.slice Ao26 y642.length co26)) (fun _ hk => ⟨hk.1.1.1, ⟨hk.1.2, ⟨hk.1.1.2.2.1, hk.1.1.2.2.2⟩⟩⟩)⟩
            have n1_ : Aside0 (Kd.N (Kd.slice 5 (Kd.int .u8)) 22 (w24.setCell ⟨gb634, 0, none⟩ (.slice Ao26 y642.length co26)) w.heap.size (fun k_ => (P0_0_ k_ ∨ w.heap.size ≤ k_) ∧ k_ ≠ gb634 ∧ k_ ≠ gb635) (.slice Ao26 y642.length co26) y642) := ⟨by (with_reducible repeat (first | apply Kd.N_alloc | apply Kd.N_drewN | apply Kd.N_drew)); exact Kd.N_mono (Kd.N_far (p := ⟨gb634, 0, none⟩) (Kd.N_mono HO644.out (fun k_ hk => (⟨hk, hk.2.1⟩ : _ ∧ k_ ≠ gb634))) (fun _ hk => hk.2) (.slice Ao26 y642.length co26)) (fun _ hk => ⟨hk.1.1, ⟨hk.1.2.1, hk.1.2.2⟩⟩)⟩
            have n2_ : Aside0 ((w24.setCell ⟨gb634, 0, none⟩ (.slice Ao26 y642.length co26)).heap[gb634]? = some (.cells #[.slice Ao26 y642.length co26] 64 (0, 0))) := ⟨by (with_reducible repeat (first | refine blk_drewN ?_ _ | refine blk_drew ?_ | refine blk_alloc ?_ _)); refine blk_put (cs := #[.slice A0_0 l0_0.length c0_0]) ?_ 0 _ rfl; (with_reducible repeat (first | refine blk_drewN ?_ _ | refine blk_drew ?_ | refine blk_alloc ?_ _)); exact BK634.out⟩
            have n3_ : Aside0 ((w24.setCell ⟨gb634, 0, none⟩ (.slice Ao26 y642.length co26)).heap[gb635]? = some (.cells #[.slice none 0 0] 64 (0, 0))) := ⟨by (with_reducible repeat (first | refine blk_drewN ?_ _ | refine blk_drew ?_ | refine blk_alloc ?_ _)); refine blk_far ?_ NB635_634.out _; (with_reducible repeat (first | refine blk_drewN ?_ _ | refine blk_drew ?_ | refine blk_alloc ?_ _)); exact BK635.out⟩
            have n4_ : Aside0 (Below w.heap.size w (w24.setCell ⟨gb634, 0, none⟩ (.slice Ao26 y642.length co26))) := ⟨by repeat (first | (with_reducible first | exact HB.out | apply below_alloc | apply pw_below_drewN | apply below_drew1 | refine below_set ?_ GE634.out | refine below_set ?_ GE635.out) | exact HB.out)⟩
            (try clear HO0_0)
            (try clear HO644)
            (try clear BK634)
            (try clear BK635)
            (try clear HB)
            generalize (w24.setCell ⟨gb634, 0, none⟩ (.slice Ao26 y642.length co26)) = w28 at n0_ n1_ n2_ n3_ n4_ ⊢
            have HO0_0 := n0_
            have HO644 := n1_
            have BK634 := n2_
            have BK635 := n3_
            have HB := n4_
            clear n0_ n1_ n2_ n3_ n4_
            have n0_ := Aside0.mk (Kd.V_drew HO0_0.out)
            have n1_ := Aside0.mk (Kd.N_drew HO644.out)
            have n2_ := Aside0.mk (blk_drew BK634.out)
            have n3_ := Aside0.mk (blk_drew BK635.out)
            have n4_ := Aside0.mk (below_drew1 HB.out)
            clear HO0_0
            clear HO644
            clear BK634
            clear BK635
            clear HB
            have HO0_0 := n0_
            have HO644 := n1_
            have BK634 := n2_
            have BK635 := n3_
            have HB := n4_
            clear n0_ n1_ n2_ n3_ n4_
            refine start_ (n := 8) (S := fun w' => w'.cell? ⟨gb634, 0, none⟩ = some (.slice Ao26 y642.length co26)) (ds := []) #[false, false, false, false, false, false, false, false] (by kernel_rfl) rfl rfl ((blk_cell BK634.out 0).trans rfl) (fun hHeld => ?_); refine with_tabW kimberliteref07_Log_Add.tab10 kimberliteref07_Log_Add.bits10 (fun HT_ HW_ => ?_)
            generalize w28.drew = w29 at HO0_0 HO644 BK634 BK635 HB hHeld ⊢
            refine pure_ (i := 1) (N := some 31) (v := ?_) (a' := ?_) #[false, true, false, false, false, false, false, false] rfl rfl (any_of HT_.out (by kernel_rfl)) (fun _ _ _ h => h) (Or.inl ⟨by rfl, ?_⟩) ?_ ?_
            rotate_left
            · intro w'
              go_simp
              with_reducible rfl
            rotate_left
            · simp only [Act.put, List.setIfInBounds_toArray, List.set_cons_zero, List.set_cons_succ, i64_w, i32_w]
              rfl
            refine take_ (i := 0) (N := some 30) (v := ?_) (a' := ?_) #[true, true, false, false, false, false, false, false] rfl rfl (take_ofW HT_.out HW_.out (by kernel_rfl)) (fun _ _ _ h => h) (Or.inl ⟨by rfl, ?_⟩) hHeld ?_ ?_
            rotate_left
            · intro w' s0
              go_simp
              with_reducible rfl
            rotate_left
            · simp only [Act.put, List.setIfInBounds_toArray, List.set_cons_zero, List.set_cons_succ, i64_w, i32_w]
              rfl
            refine take_ (i := 2) (N := some 32) (v := ?_) (a' := ?_) #[true, true, true, false, false, false, false, false] rfl rfl (take_ofW HT_.out HW_.out (by kernel_rfl)) (fun _ _ _ h => h) (Or.inl ⟨by rfl, ?_⟩) hHeld ?_ ?_
            rotate_left
            · intro w' s0
              go_simp
              with_reducible rfl
            rotate_left
            · simp only [Act.put, List.setIfInBounds_toArray, List.set_cons_zero, List.set_cons_succ, i64_w, i32_w]
              rfl
            refine pure_ (i := 3) (N := some 33) (v := ?_) (a' := ?_) #[true, true, true, true, false, false, false, false] rfl rfl (any_of HT_.out (by kernel_rfl)) (fun _ _ _ h => h) (Or.inl ⟨by rfl, ?_⟩) ?_ ?_
            rotate_left
            · intro w'
              go_simp
              with_reducible rfl
            rotate_left
            · simp only [Act.put, List.setIfInBounds_toArray, List.set_cons_zero, List.set_cons_succ, i64_w, i32_w]
              rfl
            refine pure_ (i := 4) (N := some 34) (v := ?_) (a' := ?_) #[true, true, true, true, true, false, false, false] rfl rfl (any_of HT_.out (by kernel_rfl)) (fun _ _ _ h => h) (Or.inl ⟨by rfl, ?_⟩) ?_ ?_
            rotate_left
            · intro w'
              go_simp
              with_reducible rfl
            rotate_left
            · simp only [Act.put, List.setIfInBounds_toArray, List.set_cons_zero, List.set_cons_succ, i64_w, i32_w]
              rfl
            refine one_ (i := 5) (N := none) #[true, true, true, true, true, true, false, false] rfl rfl (one_of HT_.out (by kernel_rfl)) (by decide) (fun K hK => ?_)
            have hs30 : w29.cell? ⟨gb635, 0, none⟩ = some (.slice none 0 0) := (blk_cell BK635.out 0).trans rfl
            have hfs30 := blk_frozen BK635.out 0
            have hns30_0 := NB634_635.out
            have hms30_0 := NB635_634.out
            refine skip_ (w1 := ?_) (by rfl) rfl ?_ ?_
            rotate_left
            · go_simp
              rfl
            refine hK.out _ _ (((cell_far (p := ⟨gb635, _, none⟩) NB634_635.out _).trans (hHeld))) (fun hHeld => ?_)
            clear hK K
            refine pure_ (i := 6) (N := some 5) (v := ?_) (a' := ?_) #[true, true, true, true, true, true, true, false] rfl rfl (any_of HT_.out (by kernel_rfl)) (fun _ _ _ h => h) (Or.inl ⟨by rfl, ?_⟩) ?_ ?_
            rotate_left
            · intro w'
              go_simp
              with_reducible rfl
            rotate_left
            · simp only [Act.put, List.setIfInBounds_toArray, List.set_cons_zero, List.set_cons_succ, i64_w, i32_w]
              rfl
            refine pure_ (i := 7) (N := some 6) (v := ?_) (a' := ?_) #[true, true, true, true, true, true, true, true] rfl rfl (any_of HT_.out (by kernel_rfl)) (fun _ _ _ h => h) (Or.inl ⟨by rfl, ?_⟩) ?_ ?_
            rotate_left
            · intro w'
              go_simp
              with_reducible rfl
            rotate_left
            · simp only [Act.put, List.setIfInBounds_toArray, List.set_cons_zero, List.set_cons_succ, i64_w, i32_w]
              rfl
            refine done_ (done_of HT_.out (by kernel_rfl)) ?_
            try go_wp2
            refine bodyPost_ret (results_ctt rfl _ _ gb635 64 #[.slice Ao26 y642.length co26] (0, 0) _ rfl (by (with_reducible repeat (first | refine blk_drewN ?_ _ | refine blk_drew ?_ | refine blk_alloc ?_ _)); refine blk_put (cs := #[.slice none 0 0]) ?_ 0 _ rfl; (with_reducible repeat (first | refine blk_drewN ?_ _ | refine blk_drew ?_ | refine blk_alloc ?_ _)); exact BK635.out) Try.underlying64 rfl (by kernel_rfl)) rfl ?_
            exact ⟨_, by first | rfl | (simp [errW_none, errW_some] <;> rfl) | (simp [*, errW_none, errW_some] <;> rfl), Kd.N_V (by (with_reducible repeat (first | apply Kd.N_alloc | apply Kd.N_drewN | apply Kd.N_drew)); exact Kd.N_mono (Kd.N_far (p := ⟨gb635, 0, none⟩) (Kd.N_mono HO644.out (fun k_ hk => (⟨hk, hk.2.2⟩ : _ ∧ k_ ≠ gb635))) (fun _ hk => hk.2) (.slice Ao26 y642.length co26)) (fun _ hk => hk.1.1)), by repeat (first | (with_reducible first | exact HB.out | apply below_alloc | apply pw_below_drewN | apply below_drew1 | refine below_set ?_ GE634.out | refine below_set ?_ GE635.out) | exact HB.out)⟩
          · rw [if_neg c17] at H
            exact absurd H (by simp)
        · rw [if_neg c16] at H
          exact absurd H (by simp)
      · rw [if_neg c15] at H
        exact absurd H (by simp)
def kimberliteref07_Log_RootAt.f (k : Nat) (l0_0 : List (List Int)) (a1 : Int) : Option (Int × Int) := if a1 < 0 then (some (0, 6)) else (if a1 > (l0_0.length : Int) then (some (0, 6)) else (if 0 ≤ a1 then (if a1 ≤ (l0_0.length : Int) then ((kimberliteref07_Top.f k (l0_0.take (a1 : Int).toNat)).bind fun t659 => (some (t659, 0))) else (none)) else (none)))
theorem kimberliteref07_Log_RootAt.mono : ∀ a0 a1 k, LeO (kimberliteref07_Log_RootAt.f k a0 a1) (kimberliteref07_Log_RootAt.f (k + 1) a0 a1) := by
  intro a0 a1 k
  unfold kimberliteref07_Log_RootAt.f
  repeat' first
      | (with_reducible exact kimberliteref07_Top.mono _ _)
      | (with_reducible exact LeO.refl _)
      | (with_reducible exact LeO.none _)
      | (with_reducible refine LeO.ite ?_ ?_)
      | (with_reducible refine LeO.bind ?_ (fun _ => ?_))
      | exact kimberliteref07_Top.mono _ _
      | exact LeO.none _
      | refine LeO.ite ?_ ?_
      | refine LeO.bind ?_ (fun _ => ?_)
set_option maxHeartbeats 8000000 in
set_option maxRecDepth 100000 in
theorem kimberliteref07_Log_RootAt.calls (k : Nat) (A0_0 : Option Addr) (c0_0 : Nat) (l0_0 : List (List Int)) (a1 : Int) (r1 : Int) (r2 : Int) (w : World) (hr0_0 : Kd.C (Kd.slice 5 (Kd.int .u8)) w A0_0 l0_0.length l0_0) (hc0_0 : l0_0.length ≤ c0_0) (h : kimberliteref07_Log_RootAt.f k l0_0 a1 = some (r1, r2)) :
    Calls Try.prog 75 #[.agg #[.slice A0_0 l0_0.length c0_0], .int .i64 a1] w fun e w' => e = .returned (.tuple #[.int .u64 r1, .int .i64 r2]) ∧ Below w.heap.size w w' := by
  have hu64 := Try.underlying64
  have HR0_0 := Aside0.mk hr0_0
  have HC0_0 := Aside0.mk hc0_0
  clear hr0_0 hc0_0
  have HB := Aside0.mk (Below.refl w.heap.size w)
  have H : (if a1 < 0 then (some (0, 6)) else (if a1 > (l0_0.length : Int) then (some (0, 6)) else (if 0 ≤ a1 then (if a1 ≤ (l0_0.length : Int) then ((kimberliteref07_Top.f k (l0_0.take (a1 : Int).toNat)).bind fun t659 => (some (t659, 0))) else (none)) else (none)))) = some (r1, r2) := h
  clear h
  by_cases c3 : a1 < 0
  · rw [if_pos c3] at H
    have c3b0 : decide (a1 < 0) = true := decide_eq_true c3
    clear c3
    simp only [Option.some.injEq, Prod.mk.injEq] at H
    obtain ⟨rfl, rfl⟩ := H
    go_enter Try.func75, Try.ntmps75
    go_wp2_with (first | ((with_reducible refine gate_dst (N := 2) rfl ?_); (try (refine gate_guard (by rfl) ?_; dsimp only)); refine box_event ?hg (N := 2) ?hd (cs := #[.slice A0_0 l0_0.length c0_0]) (t := 64) ?hr ?_; (case hd => rfl); (case hg => rfl); (case hr => first | (go_simp; done) | (go_simp; rfl)); intro gb654 hg w4 hbox hb; have n0_ := Aside0.mk (below_step (by repeat (first | (with_reducible first | exact HB.out | apply below_alloc | apply pw_below_drewN | apply below_drew1) | exact HB.out)) hb); have n1_ := Aside0.mk (hbox); have n2_ := Aside0.mk ((by rw [hg]; exact (below_size (by repeat (first | (with_reducible first | exact HB.out | apply below_alloc | apply pw_below_drewN | apply below_drew1) | exact HB.out))) : w.heap.size ≤ gb654)); have n3_ := Aside0.mk ((by rw [hg]; exact (below_size (by repeat (first | (with_reducible first | exact HB.out | apply below_alloc | apply pw_below_drewN | apply below_drew1) | exact HB.out))) : w.heap.size ≤ gb654)); clear HB; have HB := n0_; have BK654 := n1_; have GW654 := n2_; have GE654 := n3_; clear n0_ n1_ n2_ n3_; clear hb hbox hg))
    go_ret2
    exact ⟨by first | rfl | (simp [errW_none, errW_some] <;> rfl) | (simp [*, errW_none, errW_some] <;> rfl), by repeat (first | (with_reducible first | exact HB.out | apply below_alloc | apply pw_below_drewN | apply below_drew1 | refine below_set ?_ GE654.out) | exact HB.out)⟩
  · rw [if_neg c3] at H
    have c3b0 : decide (a1 < 0) = false := decide_eq_false c3
    clear c3
    by_cases c5 : a1 > (l0_0.length : Int)
    · rw [if_pos c5] at H
      have c5b0 : decide ((l0_0.length : Int) < a1) = true := decide_eq_true c5
      clear c5
      simp only [Option.some.injEq, Prod.mk.injEq] at H
      obtain ⟨rfl, rfl⟩ := H
      go_enter Try.func75, Try.ntmps75
      go_wp2_with (first | ((with_reducible refine gate_dst (N := 2) rfl ?_); (try (refine gate_guard (by rfl) ?_; dsimp only)); refine box_event ?hg (N := 2) ?hd (cs := #[.slice A0_0 l0_0.length c0_0]) (t := 64) ?hr ?_; (case hd => rfl); (case hg => rfl); (case hr => first | (go_simp; done) | (go_simp; rfl)); intro gb654 hg w6 hbox hb; have n0_ := Aside0.mk (below_step (by repeat (first | (with_reducible first | exact HB.out | apply below_alloc | apply pw_below_drewN | apply below_drew1) | exact HB.out)) hb); have n1_ := Aside0.mk (hbox); have n2_ := Aside0.mk ((by rw [hg]; exact (below_size (by repeat (first | (with_reducible first | exact HB.out | apply below_alloc | apply pw_below_drewN | apply below_drew1) | exact HB.out))) : w.heap.size ≤ gb654)); have n3_ := Aside0.mk ((by rw [hg]; exact (below_size (by repeat (first | (with_reducible first | exact HB.out | apply below_alloc | apply pw_below_drewN | apply below_drew1) | exact HB.out))) : w.heap.size ≤ gb654)); clear HB; have HB := n0_; have BK654 := n1_; have GW654 := n2_; have GE654 := n3_; clear n0_ n1_ n2_ n3_; clear hb hbox hg; have hcz7_0 : w6.cell? ⟨gb654, 0, none⟩ = some (.slice A0_0 l0_0.length c0_0) := (blk_cell BK654.out 0).trans rfl; have hfz7_0 := blk_frozen BK654.out 0))
      go_ret2
      exact ⟨by first | rfl | (simp [errW_none, errW_some] <;> rfl) | (simp [*, errW_none, errW_some] <;> rfl), by repeat (first | (with_reducible first | exact HB.out | apply below_alloc | apply pw_below_drewN | apply below_drew1 | refine below_set ?_ GE654.out) | exact HB.out)⟩
    · rw [if_neg c5] at H
      have c5b0 : decide ((l0_0.length : Int) < a1) = false := decide_eq_false c5
      clear c5
      by_cases c8 : 0 ≤ a1
      · rw [if_pos c8] at H
        have c8b0 := eq_true c8
        have c8b1 : decide (0 ≤ a1) = true := decide_eq_true c8
        clear c8
        by_cases c9 : a1 ≤ (l0_0.length : Int)
        · rw [if_pos c9] at H
          have c9b0 := eq_true c9
          have c9b1 : decide (a1 ≤ (l0_0.length : Int)) = true := decide_eq_true c9
          clear c9
          obtain ⟨y655, hy655⟩ : ∃ y_ : List (List Int), y_ = (l0_0.take (a1 : Int).toNat) := ⟨_, rfl⟩
          replace H : ((kimberliteref07_Top.f k y655).bind fun t659 => (some (t659, 0))) = some (r1, r2) := by first | (rw [hy655]; with_reducible exact H) | (have H2_ := (Option.bind_some _ _).symm.trans H; rw [hy655]; with_reducible exact H2_) | (have H2_ := (Option.bind_some _ _).symm.trans H; with_reducible exact H2_) | with_reducible exact H | (rw [hy655]; exact H) | exact H
          have Ny655 := Aside0.mk hy655
          clear hy655
          replace H := Option.bind_eq_some_iff.mp H
          obtain ⟨t659, A100, H⟩ := H
          replace H : (some (t659, 0)) = some (r1, r2) := H
          have A10 := Aside0.mk A100
          clear A100
          simp only [Option.some.injEq, Prod.mk.injEq] at H
          obtain ⟨rfl, rfl⟩ := H
          go_enter Try.func75, Try.ntmps75
          go_wp2_with (first | ((with_reducible refine gate_dst (N := 2) rfl ?_); (try (refine gate_guard (by rfl) ?_; dsimp only)); refine box_event ?hg (N := 2) ?hd (cs := #[.slice A0_0 l0_0.length c0_0]) (t := 64) ?hr ?_; (case hd => rfl); (case hg => rfl); (case hr => first | (go_simp; done) | (go_simp; rfl)); intro gb654 hg w11 hbox hb; have n0_ := Aside0.mk (below_step (by repeat (first | (with_reducible first | exact HB.out | apply below_alloc | apply pw_below_drewN | apply below_drew1) | exact HB.out)) hb); have n1_ := Aside0.mk (hbox); have n2_ := Aside0.mk ((by rw [hg]; exact (below_size (by repeat (first | (with_reducible first | exact HB.out | apply below_alloc | apply pw_below_drewN | apply below_drew1) | exact HB.out))) : w.heap.size ≤ gb654)); have n3_ := Aside0.mk ((by rw [hg]; exact (below_size (by repeat (first | (with_reducible first | exact HB.out | apply below_alloc | apply pw_below_drewN | apply below_drew1) | exact HB.out))) : w.heap.size ≤ gb654)); clear HB; have HB := n0_; have BK654 := n1_; have GW654 := n2_; have GE654 := n3_; clear n0_ n1_ n2_ n3_; clear hb hbox hg; have hcz12_0 : w11.cell? ⟨gb654, 0, none⟩ = some (.slice A0_0 l0_0.length c0_0) := (blk_cell BK654.out 0).trans rfl; have hfz12_0 := blk_frozen BK654.out 0; have q13 : (a1 : Int) ≤ ((l0_0.length : Int) : Int) := of_decide_eq_true (by first | (with_reducible assumption) | assumption); obtain ⟨i013, hi013, _, hsz13, _⟩ := info_parts info22; have hroom13 : l0_0.length ≤ c0_0 := HC0_0.out; have hC13 : Kd.C (Kd.slice 5 (Kd.int .u8)) _ A0_0 l0_0.length l0_0 := HR0_0.out; have hcut13 := cut_to (P := Try.prog) 39 22 .i64 Try.underlying39 hi013 A0_0 l0_0.length c0_0 a1 (of_decide_eq_true (by first | (with_reducible assumption) | assumption)) q13 hroom13; have hr13 := Kd.C_take (m := (a1 : Int).toNat) hC13 (by omega); have hy13 : y655.length = (a1 : Int).toNat := (by rw [Ny655.out, List.length_take]; omega); rw [← Ny655.out] at hr13; rw [← hy13] at hcut13; have HR658 := Aside0.mk hr13; have HC658 := Aside0.mk (show y655.length ≤ c0_0 from by omega); clear hr13 hC13 hroom13 hi013 hsz13; have KY13 := Aside0.mk hy13; clear hy13; replace q13 := eq_true q13) | ((with_reducible refine gate_callee (f := 66) rfl ?_); refine goesL_ (some 19) rfl rfl Try.func66 (by kernel_rfl) rfl #[.slice A0_0 y655.length c0_0] rfl (by (try simp only [List.map_toArray, List.map_cons, List.map_nil]); first | done | rfl | (simp only [List.length_drop, List.length_take]; rfl)) ?_; (with_reducible refine (kimberliteref07_Top.calls k _ _ y655 t659 _ ?side1 ?side2 A10.out).mono ?_); (case side1 => repeat (first | exact (Kd.C_below HR658.out HB.out) | (with_reducible refine Kd.C_alloc ?_ _) | (with_reducible refine Kd.C_drewN ?_ _) | (with_reducible refine Kd.C_drew ?_))); (case side2 => exact HC658.out); rintro e w14 ⟨rfl, hb⟩; refine ⟨_, rfl, ?_⟩; have n0_ := Aside0.mk (blk_below (g := gb654) (o := .cells #[.slice A0_0 l0_0.length c0_0] 64 (0, 0)) (by (with_reducible repeat (first | refine blk_drewN ?_ _ | refine blk_drew ?_ | refine blk_alloc ?_ _)); exact BK654.out) hb); have n1_ := Aside0.mk (below_step (by repeat (first | (with_reducible first | exact HB.out | apply below_alloc | apply pw_below_drewN | apply below_drew1 | refine below_set ?_ GE654.out) | exact HB.out)) hb); clear BK654; clear HB; have BK654 := n0_; have HB := n1_; clear n0_ n1_; (try clear hb); (try clear hb2); (try clear hk); (try clear hi)))
          go_ret2
          exact ⟨by first | rfl | (simp [errW_none, errW_some] <;> rfl) | (simp [*, errW_none, errW_some] <;> rfl), by repeat (first | (with_reducible first | exact HB.out | apply below_alloc | apply pw_below_drewN | apply below_drew1 | refine below_set ?_ GE654.out) | exact HB.out)⟩
        · rw [if_neg c9] at H
          exact absurd H (by simp)
      · rw [if_neg c8] at H
        exact absurd H (by simp)
end Go.Proofs.Ytacjdoekgmmfoaa.PL
end
section
namespace Go.Proofs.Ytacjdoekgmmfoaa.PL
open Go.RowKit Go.Proofs.YtacjdoekgmmfoaaW.PrintWords Go.Proofs.YtacjdoekgmmfoaaW.PrintLast Go.Proofs.YtacjdoekgmmfoaaW.PrintMore
attribute [local go_sem] max2_int min2_int max_two min_two max_three min_three max_four min_four   -- for this text's walks alone
set_option linter.unusedVariables false
set_option linter.unusedSimpArgs false
def kimberliteref07_Log_Entry.f (l0_0 : List (List Int)) (a1 : Int) : Option (List Int × Int) := if a1 < 0 then (some (([] : List Int), 6)) else (if a1 ≥ (l0_0.length : Int) then (some (([] : List Int), 6)) else (if 0 ≤ a1 then (if a1 < (l0_0.length : Int) then (some (rd_L1 l0_0 a1, 0)) else (none)) else (none)))
set_option maxHeartbeats 8000000 in
set_option maxRecDepth 100000 in
theorem kimberliteref07_Log_Entry.calls (P0_0_ : Nat → Prop) (A0_0 : Option Addr) (c0_0 : Nat) (l0_0 : List (List Int)) (a1 : Int) (r1 : List Int) (r2 : Int) (w : World) (hs0_0 : Kd.V (Kd.slice 5 (Kd.int .u8)) 22 w w.heap.size (fun k_ => P0_0_ k_) (.slice A0_0 l0_0.length c0_0) l0_0) (h : kimberliteref07_Log_Entry.f l0_0 a1 = some (r1, r2)) :
    Calls Try.prog 76 #[.agg #[.slice A0_0 l0_0.length c0_0], .int .i64 a1] w fun e w' => ∃ v0_ : Value, e = .returned (.tuple #[v0_, .int .i64 r2]) ∧ Kd.V (Kd.int .u8) 5 w' w.heap.size (fun k_ => (P0_0_ k_ ∨ w.heap.size ≤ k_)) v0_ r1 ∧ Below w.heap.size w w' := by
  have hu64 := Try.underlying64
  have HO0_0 := Aside0.mk (show Kd.V (Kd.slice 5 (Kd.int .u8)) 22 w w.heap.size (fun k_ => (P0_0_ k_ ∨ w.heap.size ≤ k_)) (.slice A0_0 l0_0.length c0_0) l0_0 from Kd.V_mono hs0_0 (fun k_ hk => .inl hk))
  have HB := Aside0.mk (Below.refl w.heap.size w)
  have H : (if a1 < 0 then (some (([] : List Int), 6)) else (if a1 ≥ (l0_0.length : Int) then (some (([] : List Int), 6)) else (if 0 ≤ a1 then (if a1 < (l0_0.length : Int) then (some (rd_L1 l0_0 a1, 0)) else (none)) else (none)))) = some (r1, r2) := h
  clear h
  by_cases c3 : a1 < 0
  · rw [if_pos c3] at H
    have c3b0 : decide (a1 < 0) = true := decide_eq_true c3
    clear c3
    simp only [Option.some.injEq, Prod.mk.injEq] at H
    obtain ⟨rfl, rfl⟩ := H
    go_enter Try.func76, Try.ntmps76
    go_wp2_with (first | ((with_reducible refine gate_dst (N := 2) rfl ?_); (try (refine gate_guard (by rfl) ?_; dsimp only)); refine box_event ?hg (N := 2) ?hd (cs := #[.slice A0_0 l0_0.length c0_0]) (t := 64) ?hr ?_; (case hd => rfl); (case hg => rfl); (case hr => first | (go_simp; done) | (go_simp; rfl)); intro gb660 hg w4 hbox hb; have n0_ := Aside0.mk (Kd.V_below (Kd.V_elderB (by (with_reducible repeat (first | apply Kd.V_alloc | apply Kd.V_drewN | apply Kd.V_drew)); exact HO0_0.out) gb660 (Nat.le_of_eq hg.symm)) hb); have n1_ := Aside0.mk (below_step (by repeat (first | (with_reducible first | exact HB.out | apply below_alloc | apply pw_below_drewN | apply below_drew1) | exact HB.out)) hb); have n2_ := Aside0.mk (hbox); have n3_ := Aside0.mk ((by rw [hg]; exact (below_size (by repeat (first | (with_reducible first | exact HB.out | apply below_alloc | apply pw_below_drewN | apply below_drew1) | exact HB.out))) : w.heap.size ≤ gb660)); have n4_ := Aside0.mk ((by rw [hg]; exact (below_size (by repeat (first | (with_reducible first | exact HB.out | apply below_alloc | apply pw_below_drewN | apply below_drew1) | exact HB.out))) : w.heap.size ≤ gb660)); clear HO0_0; clear HB; have HO0_0 := n0_; have HB := n1_; have BK660 := n2_; have GW660 := n3_; have GE660 := n4_; clear n0_ n1_ n2_ n3_ n4_; clear hb hbox hg))
    go_ret2
    exact ⟨_, by first | rfl | (simp [errW_none, errW_some] <;> rfl) | (simp [*, errW_none, errW_some] <;> rfl), (by first | exact Kd.V_nil _ _ _ _ _ | exact Kd.V_mono ((by first | exact Kd.V_nil _ _ _ _ _ | exact Kd.R_V (by first | exact Kd.R_nil _ _ _ _ _ | exact Kd.N_nil _ _ _ _ _ | exact Kd.V_nil _ _ _ _ _ | exact Kd.Q_nil _ _ _ _ _ | exact Kd.S_nil _ _ _ _ _))) (fun k_ hk => by first | exact ⟨(.inr (hk.1)), hk.2⟩ | exact (.inr (hk)))), by repeat (first | (with_reducible first | exact HB.out | apply below_alloc | apply pw_below_drewN | apply below_drew1 | refine below_set ?_ GE660.out) | exact HB.out)⟩
  · rw [if_neg c3] at H
    have c3b0 : decide (a1 < 0) = false := decide_eq_false c3
    clear c3
    by_cases c5 : a1 ≥ (l0_0.length : Int)
    · rw [if_pos c5] at H
      have c5b0 : decide ((l0_0.length : Int) ≤ a1) = true := decide_eq_true c5
      clear c5
      simp only [Option.some.injEq, Prod.mk.injEq] at H
      obtain ⟨rfl, rfl⟩ := H
      go_enter Try.func76, Try.ntmps76
      go_wp2_with (first | ((with_reducible refine gate_dst (N := 2) rfl ?_); (try (refine gate_guard (by rfl) ?_; dsimp only)); refine box_event ?hg (N := 2) ?hd (cs := #[.slice A0_0 l0_0.length c0_0]) (t := 64) ?hr ?_; (case hd => rfl); (case hg => rfl); (case hr => first | (go_simp; done) | (go_simp; rfl)); intro gb660 hg w6 hbox hb; have n0_ := Aside0.mk (Kd.V_below (Kd.V_elderB (by (with_reducible repeat (first | apply Kd.V_alloc | apply Kd.V_drewN | apply Kd.V_drew)); exact HO0_0.out) gb660 (Nat.le_of_eq hg.symm)) hb); have n1_ := Aside0.mk (below_step (by repeat (first | (with_reducible first | exact HB.out | apply below_alloc | apply pw_below_drewN | apply below_drew1) | exact HB.out)) hb); have n2_ := Aside0.mk (hbox); have n3_ := Aside0.mk ((by rw [hg]; exact (below_size (by repeat (first | (with_reducible first | exact HB.out | apply below_alloc | apply pw_below_drewN | apply below_drew1) | exact HB.out))) : w.heap.size ≤ gb660)); have n4_ := Aside0.mk ((by rw [hg]; exact (below_size (by repeat (first | (with_reducible first | exact HB.out | apply below_alloc | apply pw_below_drewN | apply below_drew1) | exact HB.out))) : w.heap.size ≤ gb660)); clear HO0_0; clear HB; have HO0_0 := n0_; have HB := n1_; have BK660 := n2_; have GW660 := n3_; have GE660 := n4_; clear n0_ n1_ n2_ n3_ n4_; clear hb hbox hg; have hcz7_0 : w6.cell? ⟨gb660, 0, none⟩ = some (.slice A0_0 l0_0.length c0_0) := (blk_cell BK660.out 0).trans rfl; have hfz7_0 := blk_frozen BK660.out 0))
      go_ret2
      exact ⟨_, by first | rfl | (simp [errW_none, errW_some] <;> rfl) | (simp [*, errW_none, errW_some] <;> rfl), (by first | exact Kd.V_nil _ _ _ _ _ | exact Kd.V_mono ((by first | exact Kd.V_nil _ _ _ _ _ | exact Kd.R_V (by first | exact Kd.R_nil _ _ _ _ _ | exact Kd.N_nil _ _ _ _ _ | exact Kd.V_nil _ _ _ _ _ | exact Kd.Q_nil _ _ _ _ _ | exact Kd.S_nil _ _ _ _ _))) (fun k_ hk => by first | exact ⟨(.inr (hk.1)), hk.2⟩ | exact (.inr (hk)))), by repeat (first | (with_reducible first | exact HB.out | apply below_alloc | apply pw_below_drewN | apply below_drew1 | refine below_set ?_ GE660.out) | exact HB.out)⟩
    · rw [if_neg c5] at H
      have c5b0 : decide ((l0_0.length : Int) ≤ a1) = false := decide_eq_false c5
      clear c5
      by_cases c8 : 0 ≤ a1
      · rw [if_pos c8] at H
        have c8b0 : decide (0 ≤ a1) = true := decide_eq_true c8
        clear c8
        by_cases c9 : a1 < (l0_0.length : Int)
        · rw [if_pos c9] at H
          have c9b0 : decide (a1 < (l0_0.length : Int)) = true := decide_eq_true c9
          clear c9
          simp only [Option.some.injEq, Prod.mk.injEq] at H
          obtain ⟨rfl, rfl⟩ := H
          go_enter Try.func76, Try.ntmps76
          go_wp2_with (first | ((with_reducible refine gate_dst (N := 2) rfl ?_); (try (refine gate_guard (by rfl) ?_; dsimp only)); refine box_event ?hg (N := 2) ?hd (cs := #[.slice A0_0 l0_0.length c0_0]) (t := 64) ?hr ?_; (case hd => rfl); (case hg => rfl); (case hr => first | (go_simp; done) | (go_simp; rfl)); intro gb660 hg w10 hbox hb; have n0_ := Aside0.mk (Kd.V_below (Kd.V_elderB (by (with_reducible repeat (first | apply Kd.V_alloc | apply Kd.V_drewN | apply Kd.V_drew)); exact HO0_0.out) gb660 (Nat.le_of_eq hg.symm)) hb); have n1_ := Aside0.mk (below_step (by repeat (first | (with_reducible first | exact HB.out | apply below_alloc | apply pw_below_drewN | apply below_drew1) | exact HB.out)) hb); have n2_ := Aside0.mk (hbox); have n3_ := Aside0.mk ((by rw [hg]; exact (below_size (by repeat (first | (with_reducible first | exact HB.out | apply below_alloc | apply pw_below_drewN | apply below_drew1) | exact HB.out))) : w.heap.size ≤ gb660)); have n4_ := Aside0.mk ((by rw [hg]; exact (below_size (by repeat (first | (with_reducible first | exact HB.out | apply below_alloc | apply pw_below_drewN | apply below_drew1) | exact HB.out))) : w.heap.size ≤ gb660)); clear HO0_0; clear HB; have HO0_0 := n0_; have HB := n1_; have BK660 := n2_; have GW660 := n3_; have GE660 := n4_; clear n0_ n1_ n2_ n3_ n4_; clear hb hbox hg; have hcz11_0 : w10.cell? ⟨gb660, 0, none⟩ = some (.slice A0_0 l0_0.length c0_0) := (blk_cell BK660.out 0).trans rfl; have hfz11_0 := blk_frozen BK660.out 0; have p661 : 0 ≤ (a1 : Int) := of_decide_eq_true (by first | (with_reducible assumption) | assumption); have q661 : a1 < (l0_0.length : Int) := of_decide_eq_true (by first | (with_reducible assumption) | assumption); obtain ⟨ad661, A661_0, c661_0, e661, hx661_0, hl661_0, hi661_0⟩ := at_L1 (Kd.V_reads' HO0_0.out).2.2 a1 p661 q661; cases e661; obtain ⟨ce661, hce661, hMe661, hcc661⟩ := Kd.V_get HO0_0.out [] a1 p661 (by first | exact q661 | exact of_decide_eq_true (by first | (with_reducible assumption) | assumption) | (have e_ := (Kd.V_reads' HO0_0.out).1; omega)); obtain ⟨ua661_0, uc661_0, rfl, ul661_0, ge661_0⟩ := Kd.FK_slice_open hMe661; have hv661_0 := hcc661 0 _ rfl; rw [Nat.add_zero, show ((Kd.slice 5 (Kd.int .u8))).sz = 1 from rfl, Nat.mul_one] at hv661_0; replace hv661_0 := Option.some.inj (hv661_0.symm.trans hx661_0); injection hv661_0 with hva_ hvn_ hvc_; rw [hva_] at ge661_0; rw [hvc_] at ul661_0; have HL661_0 := Aside0.mk (show Kd.V (Kd.int .u8) 5 _ w.heap.size _ _ (rd_L1 l0_0 a1) from Kd.V_mk ul661_0 ge661_0); clear hva_ hvn_ hvc_ ge661_0 ul661_0; clear hcc661 hce661; have HR661_0 := Aside0.mk hi661_0; have HC661_0 := Aside0.mk hl661_0; clear hi661_0 hl661_0; replace p661 := eq_true p661; replace q661 := eq_true q661))
          go_ret2
          exact ⟨_, by first | rfl | (simp [errW_none, errW_some] <;> rfl) | (simp [*, errW_none, errW_some] <;> rfl), by (with_reducible repeat (first | apply Kd.V_alloc | apply Kd.V_drewN | apply Kd.V_drew)); exact Kd.V_mono HL661_0.out (fun _ hk => hk.1), by repeat (first | (with_reducible first | exact HB.out | apply below_alloc | apply pw_below_drewN | apply below_drew1 | refine below_set ?_ GE660.out) | exact HB.out)⟩
        · rw [if_neg c9] at H
          exact absurd H (by simp)
      · rw [if_neg c8] at H
        exact absurd H (by simp)
def kimberliteref07_Log_Include.f (k : Nat) (l0_0 : List (List Int)) (a1 : Int) (a2 : Int) : Option ((List (S54)) × Int) := if a2 < 1 then (some (([] : List (S54)), 6)) else (if a2 > (l0_0.length : Int) then (some (([] : List (S54)), 6)) else (if 0 ≤ a2 then (if a2 ≤ (l0_0.length : Int) then ((kimberliteref07_Include.f k (l0_0.take (a2 : Int).toNat) a1).bind fun bt667 => (some (bt667.1, bt667.2))) else (none)) else (none)))
theorem kimberliteref07_Log_Include.mono : ∀ a0 a1 a2 k, LeO (kimberliteref07_Log_Include.f k a0 a1 a2) (kimberliteref07_Log_Include.f (k + 1) a0 a1 a2) := by
  intro a0 a1 a2 k
  unfold kimberliteref07_Log_Include.f
  repeat' first
      | (with_reducible exact kimberliteref07_Include.mono _ _ _)
      | (with_reducible exact LeO.refl _)
      | (with_reducible exact LeO.none _)
      | (with_reducible refine LeO.ite ?_ ?_)
      | (with_reducible refine LeO.bind ?_ (fun _ => ?_))
      | exact kimberliteref07_Include.mono _ _ _
      | exact LeO.none _
      | refine LeO.ite ?_ ?_
      | refine LeO.bind ?_ (fun _ => ?_)
set_option maxHeartbeats 8000000 in
set_option maxRecDepth 100000 in
theorem kimberliteref07_Log_Include.calls (k : Nat) (A0_0 : Option Addr) (c0_0 : Nat) (l0_0 : List (List Int)) (a1 : Int) (a2 : Int) (r1 : List (S54)) (r2 : Int) (w : World) (hr0_0 : Kd.C (Kd.slice 5 (Kd.int .u8)) w A0_0 l0_0.length l0_0) (hc0_0 : l0_0.length ≤ c0_0) (h : kimberliteref07_Log_Include.f k l0_0 a1 a2 = some (r1, r2)) :
    Calls Try.prog 77 #[.agg #[.slice A0_0 l0_0.length c0_0], .int .i64 a1, .int .i64 a2] w fun e w' => ∃ v0_ : Value, e = .returned (.tuple #[v0_, .int .i64 r2]) ∧ Kd.R k54 54 w' w.heap.size (fun _ => True) v0_ r1 ∧ Below w.heap.size w w' := by
  have hu64 := Try.underlying64
  have HR0_0 := Aside0.mk hr0_0
  have HC0_0 := Aside0.mk hc0_0
  clear hr0_0 hc0_0
  have HB := Aside0.mk (Below.refl w.heap.size w)
  have H : (if a2 < 1 then (some (([] : List (S54)), 6)) else (if a2 > (l0_0.length : Int) then (some (([] : List (S54)), 6)) else (if 0 ≤ a2 then (if a2 ≤ (l0_0.length : Int) then ((kimberliteref07_Include.f k (l0_0.take (a2 : Int).toNat) a1).bind fun bt667 => (some (bt667.1, bt667.2))) else (none)) else (none)))) = some (r1, r2) := h
  clear h
  by_cases c4 : a2 < 1
  · rw [if_pos c4] at H
    have c4b0 : decide (a2 < 1) = true := decide_eq_true c4
    clear c4
    simp only [Option.some.injEq, Prod.mk.injEq] at H
    obtain ⟨rfl, rfl⟩ := H
    go_enter Try.func77, Try.ntmps77
    go_wp2_with (first | ((with_reducible refine gate_dst (N := 3) rfl ?_); (try (refine gate_guard (by rfl) ?_; dsimp only)); refine box_event ?hg (N := 3) ?hd (cs := #[.slice A0_0 l0_0.length c0_0]) (t := 64) ?hr ?_; (case hd => rfl); (case hg => rfl); (case hr => first | (go_simp; done) | (go_simp; rfl)); intro gb662 hg w5 hbox hb; have n0_ := Aside0.mk (below_step (by repeat (first | (with_reducible first | exact HB.out | apply below_alloc | apply pw_below_drewN | apply below_drew1) | exact HB.out)) hb); have n1_ := Aside0.mk (hbox); have n2_ := Aside0.mk ((by rw [hg]; exact (below_size (by repeat (first | (with_reducible first | exact HB.out | apply below_alloc | apply pw_below_drewN | apply below_drew1) | exact HB.out))) : w.heap.size ≤ gb662)); have n3_ := Aside0.mk ((by rw [hg]; exact (below_size (by repeat (first | (with_reducible first | exact HB.out | apply below_alloc | apply pw_below_drewN | apply below_drew1) | exact HB.out))) : w.heap.size ≤ gb662)); clear HB; have HB := n0_; have BK662 := n1_; have GW662 := n2_; have GE662 := n3_; clear n0_ n1_ n2_ n3_; clear hb hbox hg))
    go_ret2
    exact ⟨_, by first | rfl | (simp [errW_none, errW_some] <;> rfl) | (simp [*, errW_none, errW_some] <;> rfl), by first | exact Kd.R_nil _ _ _ _ _ | exact Kd.N_nil _ _ _ _ _ | exact Kd.V_nil _ _ _ _ _ | exact Kd.Q_nil _ _ _ _ _ | exact Kd.S_nil _ _ _ _ _, by repeat (first | (with_reducible first | exact HB.out | apply below_alloc | apply pw_below_drewN | apply below_drew1 | refine below_set ?_ GE662.out) | exact HB.out)⟩
  · rw [if_neg c4] at H
    have c4b0 : decide (a2 < 1) = false := decide_eq_false c4
    clear c4
    by_cases c6 : a2 > (l0_0.length : Int)
    · rw [if_pos c6] at H
      have c6b0 : decide ((l0_0.length : Int) < a2) = true := decide_eq_true c6
      clear c6
      simp only [Option.some.injEq, Prod.mk.injEq] at H
      obtain ⟨rfl, rfl⟩ := H
      go_enter Try.func77, Try.ntmps77
      go_wp2_with (first | ((with_reducible refine gate_dst (N := 3) rfl ?_); (try (refine gate_guard (by rfl) ?_; dsimp only)); refine box_event ?hg (N := 3) ?hd (cs := #[.slice A0_0 l0_0.length c0_0]) (t := 64) ?hr ?_; (case hd => rfl); (case hg => rfl); (case hr => first | (go_simp; done) | (go_simp; rfl)); intro gb662 hg w7 hbox hb; have n0_ := Aside0.mk (below_step (by repeat (first | (with_reducible first | exact HB.out | apply below_alloc | apply pw_below_drewN | apply below_drew1) | exact HB.out)) hb); have n1_ := Aside0.mk (hbox); have n2_ := Aside0.mk ((by rw [hg]; exact (below_size (by repeat (first | (with_reducible first | exact HB.out | apply below_alloc | apply pw_below_drewN | apply below_drew1) | exact HB.out))) : w.heap.size ≤ gb662)); have n3_ := Aside0.mk ((by rw [hg]; exact (below_size (by repeat (first | (with_reducible first | exact HB.out | apply below_alloc | apply pw_below_drewN | apply below_drew1) | exact HB.out))) : w.heap.size ≤ gb662)); clear HB; have HB := n0_; have BK662 := n1_; have GW662 := n2_; have GE662 := n3_; clear n0_ n1_ n2_ n3_; clear hb hbox hg; have hcz8_0 : w7.cell? ⟨gb662, 0, none⟩ = some (.slice A0_0 l0_0.length c0_0) := (blk_cell BK662.out 0).trans rfl; have hfz8_0 := blk_frozen BK662.out 0))
      go_ret2
      exact ⟨_, by first | rfl | (simp [errW_none, errW_some] <;> rfl) | (simp [*, errW_none, errW_some] <;> rfl), by first | exact Kd.R_nil _ _ _ _ _ | exact Kd.N_nil _ _ _ _ _ | exact Kd.V_nil _ _ _ _ _ | exact Kd.Q_nil _ _ _ _ _ | exact Kd.S_nil _ _ _ _ _, by repeat (first | (with_reducible first | exact HB.out | apply below_alloc | apply pw_below_drewN | apply below_drew1 | refine below_set ?_ GE662.out) | exact HB.out)⟩
    · rw [if_neg c6] at H
      have c6b0 : decide ((l0_0.length : Int) < a2) = false := decide_eq_false c6
      clear c6
      by_cases c9 : 0 ≤ a2
      · rw [if_pos c9] at H
        have c9b0 := eq_true c9
        have c9b1 : decide (0 ≤ a2) = true := decide_eq_true c9
        clear c9
        by_cases c10 : a2 ≤ (l0_0.length : Int)
        · rw [if_pos c10] at H
          have c10b0 := eq_true c10
          have c10b1 : decide (a2 ≤ (l0_0.length : Int)) = true := decide_eq_true c10
          clear c10
          obtain ⟨y663, hy663⟩ : ∃ y_ : List (List Int), y_ = (l0_0.take (a2 : Int).toNat) := ⟨_, rfl⟩
          replace H : ((kimberliteref07_Include.f k y663 a1).bind fun bt667 => (some (bt667.1, bt667.2))) = some (r1, r2) := by first | (rw [hy663]; with_reducible exact H) | (have H2_ := (Option.bind_some _ _).symm.trans H; rw [hy663]; with_reducible exact H2_) | (have H2_ := (Option.bind_some _ _).symm.trans H; with_reducible exact H2_) | with_reducible exact H | (rw [hy663]; exact H) | exact H
          have Ny663 := Aside0.mk hy663
          clear hy663
          replace H := Option.bind_eq_some_iff.mp H
          obtain ⟨⟨t667, t668⟩, A110, H⟩ := H
          replace H : (some (t667, t668)) = some (r1, r2) := H
          have A11 := Aside0.mk A110
          clear A110
          simp only [Option.some.injEq, Prod.mk.injEq] at H
          obtain ⟨rfl, rfl⟩ := H
          go_enter Try.func77, Try.ntmps77
          go_wp2_with (first | ((with_reducible refine gate_dst (N := 3) rfl ?_); (try (refine gate_guard (by rfl) ?_; dsimp only)); refine box_event ?hg (N := 3) ?hd (cs := #[.slice A0_0 l0_0.length c0_0]) (t := 64) ?hr ?_; (case hd => rfl); (case hg => rfl); (case hr => first | (go_simp; done) | (go_simp; rfl)); intro gb662 hg w12 hbox hb; have n0_ := Aside0.mk (below_step (by repeat (first | (with_reducible first | exact HB.out | apply below_alloc | apply pw_below_drewN | apply below_drew1) | exact HB.out)) hb); have n1_ := Aside0.mk (hbox); have n2_ := Aside0.mk ((by rw [hg]; exact (below_size (by repeat (first | (with_reducible first | exact HB.out | apply below_alloc | apply pw_below_drewN | apply below_drew1) | exact HB.out))) : w.heap.size ≤ gb662)); have n3_ := Aside0.mk ((by rw [hg]; exact (below_size (by repeat (first | (with_reducible first | exact HB.out | apply below_alloc | apply pw_below_drewN | apply below_drew1) | exact HB.out))) : w.heap.size ≤ gb662)); clear HB; have HB := n0_; have BK662 := n1_; have GW662 := n2_; have GE662 := n3_; clear n0_ n1_ n2_ n3_; clear hb hbox hg; have hcz13_0 : w12.cell? ⟨gb662, 0, none⟩ = some (.slice A0_0 l0_0.length c0_0) := (blk_cell BK662.out 0).trans rfl; have hfz13_0 := blk_frozen BK662.out 0; have q14 : (a2 : Int) ≤ ((l0_0.length : Int) : Int) := of_decide_eq_true (by first | (with_reducible assumption) | assumption); obtain ⟨i014, hi014, _, hsz14, _⟩ := info_parts info22; have hroom14 : l0_0.length ≤ c0_0 := HC0_0.out; have hC14 : Kd.C (Kd.slice 5 (Kd.int .u8)) _ A0_0 l0_0.length l0_0 := HR0_0.out; have hcut14 := cut_to (P := Try.prog) 39 22 .i64 Try.underlying39 hi014 A0_0 l0_0.length c0_0 a2 (of_decide_eq_true (by first | (with_reducible assumption) | assumption)) q14 hroom14; have hr14 := Kd.C_take (m := (a2 : Int).toNat) hC14 (by omega); have hy14 : y663.length = (a2 : Int).toNat := (by rw [Ny663.out, List.length_take]; omega); rw [← Ny663.out] at hr14; rw [← hy14] at hcut14; have HR666 := Aside0.mk hr14; have HC666 := Aside0.mk (show y663.length ≤ c0_0 from by omega); clear hr14 hC14 hroom14 hi014 hsz14; have KY14 := Aside0.mk hy14; clear hy14; replace q14 := eq_true q14) | ((with_reducible refine gate_callee (f := 38) rfl ?_); refine goesL_ (some 22) rfl rfl Try.func38 (by kernel_rfl) rfl #[.slice A0_0 y663.length c0_0, .int .i64 a1] rfl (by (try simp only [List.map_toArray, List.map_cons, List.map_nil]); first | done | rfl | (simp only [List.length_drop, List.length_take]; rfl)) ?_; (with_reducible refine (kimberliteref07_Include.calls k _ _ y663 a1 t667 t668 _ ?side1 ?side2 A11.out).mono ?_); (case side1 => repeat (first | exact (Kd.C_below HR666.out HB.out) | (with_reducible refine Kd.C_alloc ?_ _) | (with_reducible refine Kd.C_drewN ?_ _) | (with_reducible refine Kd.C_drew ?_))); (case side2 => exact HC666.out); rintro e w15 ⟨v669, rfl, ho0, hb⟩; refine ⟨_, rfl, ?_⟩; have n0_ := Aside0.mk (Kd.R_lower ho0 (below_size (by repeat (first | (with_reducible first | exact HB.out | apply below_alloc | apply pw_below_drewN | apply below_drew1 | refine below_set ?_ GE662.out) | exact HB.out)))); have n1_ := Aside0.mk (blk_below (g := gb662) (o := .cells #[.slice A0_0 l0_0.length c0_0] 64 (0, 0)) (by (with_reducible repeat (first | refine blk_drewN ?_ _ | refine blk_drew ?_ | refine blk_alloc ?_ _)); exact BK662.out) hb); have n2_ := Aside0.mk (below_step (by repeat (first | (with_reducible first | exact HB.out | apply below_alloc | apply pw_below_drewN | apply below_drew1 | refine below_set ?_ GE662.out) | exact HB.out)) hb); clear BK662; clear HB; have HO670 := n0_; have BK662 := n1_; have HB := n2_; clear n0_ n1_ n2_; (try clear hb); (try clear hb2); (try clear hk); (try clear hi); (try clear ho0)))
          go_ret2
          exact ⟨_, by first | rfl | (simp [errW_none, errW_some] <;> rfl) | (simp [*, errW_none, errW_some] <;> rfl), by (with_reducible repeat (first | apply Kd.R_alloc | apply Kd.R_drewN | apply Kd.R_drew)); exact HO670.out, by repeat (first | (with_reducible first | exact HB.out | apply below_alloc | apply pw_below_drewN | apply below_drew1 | refine below_set ?_ GE662.out) | exact HB.out)⟩
        · rw [if_neg c10] at H
          exact absurd H (by simp)
      · rw [if_neg c9] at H
        exact absurd H (by simp)
def kimberliteref07_Log_Extend.f (k : Nat) (l0_0 : List (List Int)) (a1 : Int) (a2 : Int) : Option (List Int × Int) := if a2 < 1 then (some (([] : List Int), 6)) else (if a2 > (l0_0.length : Int) then (some (([] : List Int), 6)) else (if 0 ≤ a2 then (if a2 ≤ (l0_0.length : Int) then ((kimberliteref07_Extend.f k (l0_0.take (a2 : Int).toNat) a1).bind fun bt676 => (some (bt676.1, bt676.2))) else (none)) else (none)))
theorem kimberliteref07_Log_Extend.mono : ∀ a0 a1 a2 k, LeO (kimberliteref07_Log_Extend.f k a0 a1 a2) (kimberliteref07_Log_Extend.f (k + 1) a0 a1 a2) := by
  intro a0 a1 a2 k
  unfold kimberliteref07_Log_Extend.f
  repeat' first
      | (with_reducible exact kimberliteref07_Extend.mono _ _ _)
      | (with_reducible exact LeO.refl _)
      | (with_reducible exact LeO.none _)
      | (with_reducible refine LeO.ite ?_ ?_)
      | (with_reducible refine LeO.bind ?_ (fun _ => ?_))
      | exact kimberliteref07_Extend.mono _ _ _
      | exact LeO.none _
      | refine LeO.ite ?_ ?_
      | refine LeO.bind ?_ (fun _ => ?_)
set_option maxHeartbeats 8000000 in
set_option maxRecDepth 100000 in
theorem kimberliteref07_Log_Extend.calls (k : Nat) (A0_0 : Option Addr) (c0_0 : Nat) (l0_0 : List (List Int)) (a1 : Int) (a2 : Int) (r1 : List Int) (r2 : Int) (w : World) (hr0_0 : Kd.C (Kd.slice 5 (Kd.int .u8)) w A0_0 l0_0.length l0_0) (hc0_0 : l0_0.length ≤ c0_0) (h : kimberliteref07_Log_Extend.f k l0_0 a1 a2 = some (r1, r2)) :
    Calls Try.prog 78 #[.agg #[.slice A0_0 l0_0.length c0_0], .int .i64 a1, .int .i64 a2] w fun e w' => ∃ v0_ : Value, e = .returned (.tuple #[v0_, .int .i64 r2]) ∧ Kd.R (Kd.int .u64) 33 w' w.heap.size (fun _ => True) v0_ r1 ∧ Below w.heap.size w w' := by
  have hu64 := Try.underlying64
  have HR0_0 := Aside0.mk hr0_0
  have HC0_0 := Aside0.mk hc0_0
  clear hr0_0 hc0_0
  have HB := Aside0.mk (Below.refl w.heap.size w)
  have H : (if a2 < 1 then (some (([] : List Int), 6)) else (if a2 > (l0_0.length : Int) then (some (([] : List Int), 6)) else (if 0 ≤ a2 then (if a2 ≤ (l0_0.length : Int) then ((kimberliteref07_Extend.f k (l0_0.take (a2 : Int).toNat) a1).bind fun bt676 => (some (bt676.1, bt676.2))) else (none)) else (none)))) = some (r1, r2) := h
  clear h
  by_cases c4 : a2 < 1
  · rw [if_pos c4] at H
    have c4b0 : decide (a2 < 1) = true := decide_eq_true c4
    clear c4
    simp only [Option.some.injEq, Prod.mk.injEq] at H
    obtain ⟨rfl, rfl⟩ := H
    go_enter Try.func78, Try.ntmps78
    go_wp2_with (first | ((with_reducible refine gate_dst (N := 3) rfl ?_); (try (refine gate_guard (by rfl) ?_; dsimp only)); refine box_event ?hg (N := 3) ?hd (cs := #[.slice A0_0 l0_0.length c0_0]) (t := 64) ?hr ?_; (case hd => rfl); (case hg => rfl); (case hr => first | (go_simp; done) | (go_simp; rfl)); intro gb671 hg w5 hbox hb; have n0_ := Aside0.mk (below_step (by repeat (first | (with_reducible first | exact HB.out | apply below_alloc | apply pw_below_drewN | apply below_drew1) | exact HB.out)) hb); have n1_ := Aside0.mk (hbox); have n2_ := Aside0.mk ((by rw [hg]; exact (below_size (by repeat (first | (with_reducible first | exact HB.out | apply below_alloc | apply pw_below_drewN | apply below_drew1) | exact HB.out))) : w.heap.size ≤ gb671)); have n3_ := Aside0.mk ((by rw [hg]; exact (below_size (by repeat (first | (with_reducible first | exact HB.out | apply below_alloc | apply pw_below_drewN | apply below_drew1) | exact HB.out))) : w.heap.size ≤ gb671)); clear HB; have HB := n0_; have BK671 := n1_; have GW671 := n2_; have GE671 := n3_; clear n0_ n1_ n2_ n3_; clear hb hbox hg))
    go_ret2
    exact ⟨_, by first | rfl | (simp [errW_none, errW_some] <;> rfl) | (simp [*, errW_none, errW_some] <;> rfl), by first | exact Kd.R_nil _ _ _ _ _ | exact Kd.N_nil _ _ _ _ _ | exact Kd.V_nil _ _ _ _ _ | exact Kd.Q_nil _ _ _ _ _ | exact Kd.S_nil _ _ _ _ _, by repeat (first | (with_reducible first | exact HB.out | apply below_alloc | apply pw_below_drewN | apply below_drew1 | refine below_set ?_ GE671.out) | exact HB.out)⟩
  · rw [if_neg c4] at H
    have c4b0 : decide (a2 < 1) = false := decide_eq_false c4
    clear c4
    by_cases c6 : a2 > (l0_0.length : Int)
    · rw [if_pos c6] at H
      have c6b0 : decide ((l0_0.length : Int) < a2) = true := decide_eq_true c6
      clear c6
      simp only [Option.some.injEq, Prod.mk.injEq] at H
      obtain ⟨rfl, rfl⟩ := H
      go_enter Try.func78, Try.ntmps78
      go_wp2_with (first | ((with_reducible refine gate_dst (N := 3) rfl ?_); (try (refine gate_guard (by rfl) ?_; dsimp only)); refine box_event ?hg (N := 3) ?hd (cs := #[.slice A0_0 l0_0.length c0_0]) (t := 64) ?hr ?_; (case hd => rfl); (case hg => rfl); (case hr => first | (go_simp; done) | (go_simp; rfl)); intro gb671 hg w7 hbox hb; have n0_ := Aside0.mk (below_step (by repeat (first | (with_reducible first | exact HB.out | apply below_alloc | apply pw_below_drewN | apply below_drew1) | exact HB.out)) hb); have n1_ := Aside0.mk (hbox); have n2_ := Aside0.mk ((by rw [hg]; exact (below_size (by repeat (first | (with_reducible first | exact HB.out | apply below_alloc | apply pw_below_drewN | apply below_drew1) | exact HB.out))) : w.heap.size ≤ gb671)); have n3_ := Aside0.mk ((by rw [hg]; exact (below_size (by repeat (first | (with_reducible first | exact HB.out | apply below_alloc | apply pw_below_drewN | apply below_drew1) | exact HB.out))) : w.heap.size ≤ gb671)); clear HB; have HB := n0_; have BK671 := n1_; have GW671 := n2_; have GE671 := n3_; clear n0_ n1_ n2_ n3_; clear hb hbox hg; have hcz8_0 : w7.cell? ⟨gb671, 0, none⟩ = some (.slice A0_0 l0_0.length c0_0) := (blk_cell BK671.out 0).trans rfl; have hfz8_0 := blk_frozen BK671.out 0))
      go_ret2
      exact ⟨_, by first | rfl | (simp [errW_none, errW_some] <;> rfl) | (simp [*, errW_none, errW_some] <;> rfl), by first | exact Kd.R_nil _ _ _ _ _ | exact Kd.N_nil _ _ _ _ _ | exact Kd.V_nil _ _ _ _ _ | exact Kd.Q_nil _ _ _ _ _ | exact Kd.S_nil _ _ _ _ _, by repeat (first | (with_reducible first | exact HB.out | apply below_alloc | apply pw_below_drewN | apply below_drew1 | refine below_set ?_ GE671.out) | exact HB.out)⟩
    · rw [if_neg c6] at H
      have c6b0 : decide ((l0_0.length : Int) < a2) = false := decide_eq_false c6
      clear c6
      by_cases c9 : 0 ≤ a2
      · rw [if_pos c9] at H
        have c9b0 := eq_true c9
        have c9b1 : decide (0 ≤ a2) = true := decide_eq_true c9
        clear c9
        by_cases c10 : a2 ≤ (l0_0.length : Int)
        · rw [if_pos c10] at H
          have c10b0 := eq_true c10
          have c10b1 : decide (a2 ≤ (l0_0.length : Int)) = true := decide_eq_true c10
          clear c10
          obtain ⟨y672, hy672⟩ : ∃ y_ : List (List Int), y_ = (l0_0.take (a2 : Int).toNat) := ⟨_, rfl⟩
          replace H : ((kimberliteref07_Extend.f k y672 a1).bind fun bt676 => (some (bt676.1, bt676.2))) = some (r1, r2) := by first | (rw [hy672]; with_reducible exact H) | (have H2_ := (Option.bind_some _ _).symm.trans H; rw [hy672]; with_reducible exact H2_) | (have H2_ := (Option.bind_some _ _).symm.trans H; with_reducible exact H2_) | with_reducible exact H | (rw [hy672]; exact H) | exact H
          have Ny672 := Aside0.mk hy672
          clear hy672
          replace H := Option.bind_eq_some_iff.mp H
          obtain ⟨⟨t676, t677⟩, A110, H⟩ := H
          replace H : (some (t676, t677)) = some (r1, r2) := H
          have A11 := Aside0.mk A110
          clear A110
          simp only [Option.some.injEq, Prod.mk.injEq] at H
          obtain ⟨rfl, rfl⟩ := H
          go_enter Try.func78, Try.ntmps78
          go_wp2_with (first | ((with_reducible refine gate_dst (N := 3) rfl ?_); (try (refine gate_guard (by rfl) ?_; dsimp only)); refine box_event ?hg (N := 3) ?hd (cs := #[.slice A0_0 l0_0.length c0_0]) (t := 64) ?hr ?_; (case hd => rfl); (case hg => rfl); (case hr => first | (go_simp; done) | (go_simp; rfl)); intro gb671 hg w12 hbox hb; have n0_ := Aside0.mk (below_step (by repeat (first | (with_reducible first | exact HB.out | apply below_alloc | apply pw_below_drewN | apply below_drew1) | exact HB.out)) hb); have n1_ := Aside0.mk (hbox); have n2_ := Aside0.mk ((by rw [hg]; exact (below_size (by repeat (first | (with_reducible first | exact HB.out | apply below_alloc | apply pw_below_drewN | apply below_drew1) | exact HB.out))) : w.heap.size ≤ gb671)); have n3_ := Aside0.mk ((by rw [hg]; exact (below_size (by repeat (first | (with_reducible first | exact HB.out | apply below_alloc | apply pw_below_drewN | apply below_drew1) | exact HB.out))) : w.heap.size ≤ gb671)); clear HB; have HB := n0_; have BK671 := n1_; have GW671 := n2_; have GE671 := n3_; clear n0_ n1_ n2_ n3_; clear hb hbox hg; have hcz13_0 : w12.cell? ⟨gb671, 0, none⟩ = some (.slice A0_0 l0_0.length c0_0) := (blk_cell BK671.out 0).trans rfl; have hfz13_0 := blk_frozen BK671.out 0; have q14 : (a2 : Int) ≤ ((l0_0.length : Int) : Int) := of_decide_eq_true (by first | (with_reducible assumption) | assumption); obtain ⟨i014, hi014, _, hsz14, _⟩ := info_parts info22; have hroom14 : l0_0.length ≤ c0_0 := HC0_0.out; have hC14 : Kd.C (Kd.slice 5 (Kd.int .u8)) _ A0_0 l0_0.length l0_0 := HR0_0.out; have hcut14 := cut_to (P := Try.prog) 39 22 .i64 Try.underlying39 hi014 A0_0 l0_0.length c0_0 a2 (of_decide_eq_true (by first | (with_reducible assumption) | assumption)) q14 hroom14; have hr14 := Kd.C_take (m := (a2 : Int).toNat) hC14 (by omega); have hy14 : y672.length = (a2 : Int).toNat := (by rw [Ny672.out, List.length_take]; omega); rw [← Ny672.out] at hr14; rw [← hy14] at hcut14; have HR675 := Aside0.mk hr14; have HC675 := Aside0.mk (show y672.length ≤ c0_0 from by omega); clear hr14 hC14 hroom14 hi014 hsz14; have KY14 := Aside0.mk hy14; clear hy14; replace q14 := eq_true q14) | ((with_reducible refine gate_callee (f := 39) rfl ?_); refine goesL_ (some 22) rfl rfl Try.func39 (by kernel_rfl) rfl #[.slice A0_0 y672.length c0_0, .int .i64 a1] rfl (by (try simp only [List.map_toArray, List.map_cons, List.map_nil]); first | done | rfl | (simp only [List.length_drop, List.length_take]; rfl)) ?_; (with_reducible refine (kimberliteref07_Extend.calls k _ _ y672 a1 t676 t677 _ ?side1 ?side2 A11.out).mono ?_); (case side1 => repeat (first | exact (Kd.C_below HR675.out HB.out) | (with_reducible refine Kd.C_alloc ?_ _) | (with_reducible refine Kd.C_drewN ?_ _) | (with_reducible refine Kd.C_drew ?_))); (case side2 => exact HC675.out); rintro e w15 ⟨v678, rfl, ho0, hb⟩; refine ⟨_, rfl, ?_⟩; have n0_ := Aside0.mk (Kd.R_lower ho0 (below_size (by repeat (first | (with_reducible first | exact HB.out | apply below_alloc | apply pw_below_drewN | apply below_drew1 | refine below_set ?_ GE671.out) | exact HB.out)))); have n1_ := Aside0.mk (blk_below (g := gb671) (o := .cells #[.slice A0_0 l0_0.length c0_0] 64 (0, 0)) (by (with_reducible repeat (first | refine blk_drewN ?_ _ | refine blk_drew ?_ | refine blk_alloc ?_ _)); exact BK671.out) hb); have n2_ := Aside0.mk (below_step (by repeat (first | (with_reducible first | exact HB.out | apply below_alloc | apply pw_below_drewN | apply below_drew1 | refine below_set ?_ GE671.out) | exact HB.out)) hb); clear BK671; clear HB; have HO679 := n0_; have BK671 := n1_; have HB := n2_; clear n0_ n1_ n2_; (try clear hb); (try clear hb2); (try clear hk); (try clear hi); (try clear ho0)))
          go_ret2
          exact ⟨_, by first | rfl | (simp [errW_none, errW_some] <;> rfl) | (simp [*, errW_none, errW_some] <;> rfl), by (with_reducible repeat (first | apply Kd.R_alloc | apply Kd.R_drewN | apply Kd.R_drew)); exact HO679.out, by repeat (first | (with_reducible first | exact HB.out | apply below_alloc | apply pw_below_drewN | apply below_drew1 | refine below_set ?_ GE671.out) | exact HB.out)⟩
        · rw [if_neg c10] at H
          exact absurd H (by simp)
      · rw [if_neg c9] at H
        exact absurd H (by simp)
end Go.Proofs.Ytacjdoekgmmfoaa.PL
end
section
namespace Go.Proofs.Ytacjdoekgmmfoaa.PL
open Go.RowKit Go.Proofs.YtacjdoekgmmfoaaW.PrintWords Go.Proofs.YtacjdoekgmmfoaaW.PrintLast Go.Proofs.YtacjdoekgmmfoaaW.PrintMore Go.Proofs.Ytacjdoekgmmfoaa.Opn
set_option linter.unusedVariables false
set_option linter.unusedSimpArgs false
def rootV (ls : List Int) (n : Int) : Int × Int := if 0 ≤ n ∧ n ≤ ls.length then (top (ls.take n.toNat), 0) else (0, 6)
def entryV (es : List (List Int)) (i : Int) : List Int × Int := if 0 ≤ i ∧ i < es.length then (rd_L1 es i, 0) else ([], 6)
def incV (ls : List Int) (i n : Int) : List S54 × Int := if 1 ≤ n ∧ n ≤ ls.length then (if 0 ≤ i ∧ i < n then (wayS (ls.take n.toNat) i.toNat, 0) else ([], 6)) else ([], 6)
def extV (ls : List Int) (m n : Int) : List Int × Int := if 1 ≤ n ∧ n ≤ ls.length then (if 1 ≤ m ∧ m ≤ n then (extS (ls.take n.toNat) m.toNat true, 0) else ([], 2)) else ([], 6)
set_option maxHeartbeats 1600000 in
set_option maxRecDepth 100000 in
/-- Include of what is no entry. -/
theorem include_out (base : Nat) (w : World) (g : Nat) (es : List (List Int)) (ls : List Int) (i n : Int) (h : LG base w g es ls) (h1 : 1 ≤ n) (h2 : n ≤ ls.length) (hm : ¬ (0 ≤ i ∧ i < n)) :
    Calls Try.prog 50 #[.pointer (some ⟨g, 0, none⟩), .int .i64 i, .int .i64 n] w fun e w' => e = .returned (.tuple #[.slice none 0 0, .int .i64 6]) ∧ w = w' := by
  have HF := lhid (first_calls base w g es ls n h h1 h2)
  clear h
  by_cases c : i < 0
  · have hd1 : decide (i < 0) = true := decide_eq_true c
    clear hm
    go_enter Try.func50, Try.ntmps50
    go_wp2_with fail
    refine HF.out.mono ?_
    rintro e w' ⟨⟨A, rfl, hC⟩, rfl⟩
    clear hC HF
    go_wp2_with fail
    go_ret2
    exact ⟨rfl, rfl⟩
  · have hd1 : decide (i < 0) = false := decide_eq_false c
    have hd2 : decide (i ≥ n) = true := decide_eq_true (by omega)
    clear hm
    go_enter Try.func50, Try.ntmps50
    go_wp2_with fail
    refine HF.out.mono ?_
    rintro e w' ⟨⟨A, rfl, hC⟩, rfl⟩
    clear hC HF
    go_wp2_with fail
    go_ret2
    exact ⟨rfl, rfl⟩
set_option maxHeartbeats 1600000 in
set_option maxRecDepth 100000 in
/-- Include to a length that there was not. -/
theorem include_none (base : Nat) (w : World) (g : Nat) (es : List (List Int)) (ls : List Int) (i n : Int) (h : LG base w g es ls) (hn : ¬ (1 ≤ n ∧ n ≤ ls.length)) :
    Calls Try.prog 50 #[.pointer (some ⟨g, 0, none⟩), .int .i64 i, .int .i64 n] w fun e w' => e = .returned (.tuple #[.slice none 0 0, .int .i64 6]) ∧ w = w' := by
  have HF := lhid (first_none base w g es ls n h hn)
  clear h hn
  go_enter Try.func50, Try.ntmps50
  go_wp2_with fail
  refine HF.out.mono ?_
  rintro e w' ⟨rfl, rfl⟩
  clear HF
  go_wp2_with fail
  go_ret2
  exact ⟨rfl, rfl⟩
section
variable {base : Nat} {w : World} {g : Nat} {es : List (List Int)} {ls : List Int}
theorem take_okH {ls : List Int} (h : ∀ x ∈ ls, okH x) (n : Nat) : ∀ x ∈ ls.take n, okH x := fun x hx => h x (List.mem_of_mem_take hx)
theorem rootAtL (h : LG base w g es ls) (hl : ls.length ≤ 4096) (hok : ∀ x ∈ ls, okH x) (n : Int) :
    Calls Try.prog 48 #[.pointer (some ⟨g, 0, none⟩), .int .i64 n] w fun e w' => e = .returned (.tuple #[.int .u64 (rootV ls n).1, .int .i64 (rootV ls n).2]) ∧ Below w.heap.size w w' := by
  unfold rootV
  by_cases c : 0 ≤ n ∧ n ≤ ls.length
  · rw [if_pos c]
    obtain ⟨k, hk⟩ := Ev.rounds (ev_rootL (ls.take n.toNat) (by rw [List.length_take]; omega) (take_okH hok _))
    exact rootAt_calls k base w g es ls n _ h c.1 c.2 hk
  · rw [if_neg c]
    exact (rootAt_none base w g es ls n h c).mono (fun e w' hh => ⟨hh.1, hh.2 ▸ Below.refl _ _⟩)
theorem rootL (h : LG base w g es ls) (hl : ls.length ≤ 4096) (hok : ∀ x ∈ ls, okH x) :
    Calls Try.prog 53 #[.pointer (some ⟨g, 0, none⟩)] w fun e w' => e = .returned (.int .u64 (top ls)) ∧ Below w.heap.size w w' := by
  obtain ⟨k, hk⟩ := Ev.rounds (ev_rootL ls hl hok)
  exact root_calls k base w g es ls _ h hk
theorem rd_mem {es : List (List Int)} {i : Int} (h0 : 0 ≤ i) (h1 : i < es.length) : rd_L1 es i ∈ es := by
  obtain ⟨m, rfl⟩ := Int.eq_ofNat_of_zero_le h0
  rw [rdL_at es m (by omega)]
  exact List.getElem_mem _
theorem entryL (h : LG base w g es ls) (hx : ∀ x ∈ es, x.length ≤ 256) (i : Int) :
    Calls Try.prog 49 #[.pointer (some ⟨g, 0, none⟩), .int .i64 i] w fun e w' => ∃ v, e = .returned (.tuple #[v, .int .i64 (entryV es i).2]) ∧ Kd.R (Kd.int .u8) 5 w' w.heap.size (fun _ => True) v (entryV es i).1 ∧ Below w.heap.size w w' := by
  unfold entryV
  by_cases c : 0 ≤ i ∧ i < es.length
  · rw [if_pos c]
    exact entry_calls base w g es ls i h c.1 c.2 (by have := hx _ (rd_mem c.1 c.2); omega)
  · rw [if_neg c]
    exact (entry_none base w g es ls i h c).mono (fun e w' hh => ⟨_, hh.1, Kd.R_nil _ _ _ _ _, hh.2 ▸ Below.refl _ _⟩)
theorem incL (h : LG base w g es ls) (hl : ls.length ≤ 4096) (hok : ∀ x ∈ ls, okH x) (i n : Int) :
    Calls Try.prog 50 #[.pointer (some ⟨g, 0, none⟩), .int .i64 i, .int .i64 n] w fun e w' => ∃ v, e = .returned (.tuple #[v, .int .i64 (incV ls i n).2]) ∧ Kd.R k54 54 w' w.heap.size (fun _ => True) v (incV ls i n).1 ∧ Below w.heap.size w w' := by
  unfold incV
  by_cases c : 1 ≤ n ∧ n ≤ ls.length
  · rw [if_pos c]
    by_cases d : 0 ≤ i ∧ i < n
    · rw [if_pos d]
      have hlen : (ls.take n.toNat).length = n.toNat := by rw [List.length_take]; omega
      obtain ⟨k, hk⟩ := Ev.rounds (ev_proof_include _ (ls.take n.toNat) i.toNat (Nat.le_refl _) (by omega) (by omega) (take_okH hok _))
      exact include_calls k base w g es ls i n _ h c.1 c.2 d.1 d.2 (by rw [← hk]; rw [Int.toNat_of_nonneg d.1])
    · rw [if_neg d]
      exact (include_out base w g es ls i n h c.1 c.2 d).mono (fun e w' hh => ⟨_, hh.1, Kd.R_nil _ _ _ _ _, hh.2 ▸ Below.refl _ _⟩)
  · rw [if_neg c]
    exact (include_none base w g es ls i n h c).mono (fun e w' hh => ⟨_, hh.1, Kd.R_nil _ _ _ _ _, hh.2 ▸ Below.refl _ _⟩)
theorem extL (h : LG base w g es ls) (hl : ls.length ≤ 4096) (hok : ∀ x ∈ ls, okH x) (m n : Int) :
    Calls Try.prog 51 #[.pointer (some ⟨g, 0, none⟩), .int .i64 m, .int .i64 n] w fun e w' => ∃ v, e = .returned (.tuple #[v, .int .i64 (extV ls m n).2]) ∧ Kd.R (Kd.int .u64) 33 w' w.heap.size (fun _ => True) v (extV ls m n).1 ∧ Below w.heap.size w w' := by
  unfold extV
  by_cases c : 1 ≤ n ∧ n ≤ ls.length
  · rw [if_pos c]
    by_cases d : 1 ≤ m ∧ m ≤ n
    · rw [if_pos d]
      have hlen : (ls.take n.toNat).length = n.toNat := by rw [List.length_take]; omega
      obtain ⟨k, hk⟩ := Ev.rounds (ev_extL (ls.take n.toNat) (by omega) (take_okH hok _) m d.1 (by omega))
      exact extend_calls k base w g es ls m n _ h d.1 d.2 c.2 hk
    · rw [if_neg d]
      exact (extend_arg base w g es ls m n h c.1 c.2 d).mono (fun e w' hh => ⟨_, hh.1, Kd.R_nil _ _ _ _ _, hh.2 ▸ Below.refl _ _⟩)
  · rw [if_neg c]
    exact (extend_none base w g es ls m n h c).mono (fun e w' hh => ⟨_, hh.1, Kd.R_nil _ _ _ _ _, hh.2 ▸ Below.refl _ _⟩)
end
section
variable {es : List (List Int)}
theorem ev_TopL (es : List (List Int)) (hl : es.length ≤ 4096) (hx : ∀ x ∈ es, x.length ≤ 256) : Ev (fun k => kimberliteref07_Top.f k es) (top (es.map leafS)) := ev_Top _ es (Nat.le_refl _) (by omega) (fun x hm => by have := hx x hm; omega)
theorem take_256 (hx : ∀ x ∈ es, x.length ≤ 256) (n : Nat) : ∀ x ∈ es.take n, x.length ≤ 256 := fun x hm => hx x (List.mem_of_mem_take hm)
theorem ev_rRootAt (hl : es.length ≤ 4096) (hx : ∀ x ∈ es, x.length ≤ 256) (n : Int) : Ev (fun k => kimberliteref07_Log_RootAt.f k es n) (rootV (es.map leafS) n) := by
  unfold kimberliteref07_Log_RootAt.f rootV
  rw [List.length_map]
  by_cases c : 0 ≤ n ∧ n ≤ es.length
  · rw [if_pos c]
    simp only [if_neg (show ¬ n < 0 by omega), if_neg (show ¬ n > (es.length : Int) by omega), if_pos c.1, if_pos c.2]
    have h := ev_TopL (es.take n.toNat) (by rw [List.length_take]; omega) (take_256 hx _)
    rw [List.map_take] at h
    exact Ev.bind h (Ev.now _)
  · rw [if_neg c]
    by_cases d : n < 0
    · simp only [if_pos d]; exact Ev.now _
    · simp only [if_neg d, if_pos (show n > (es.length : Int) by omega)]; exact Ev.now _
theorem rEntryV (es : List (List Int)) (i : Int) : kimberliteref07_Log_Entry.f es i = some ((entryV es i).1, (entryV es i).2) := by
  unfold kimberliteref07_Log_Entry.f entryV
  by_cases c : 0 ≤ i ∧ i < es.length
  · rw [if_pos c, if_neg (by omega), if_neg (by omega), if_pos c.1, if_pos c.2]
  · rw [if_neg c]
    by_cases d : i < 0
    · rw [if_pos d]
    · rw [if_neg d, if_pos (by omega)]
theorem listE_take (hl : es.length ≤ 4096) (hx : ∀ x ∈ es, x.length ≤ 256) (n : Nat) : listE (es.take n) = 0 := listE_zero.2 ⟨by rw [List.length_take]; omega, take_256 hx n⟩
theorem ev_rLInc (hl : es.length ≤ 4096) (hx : ∀ x ∈ es, x.length ≤ 256) (i n : Int) : Ev (fun k => kimberliteref07_Log_Include.f k es i n) (incV (es.map leafS) i n) := by
  unfold kimberliteref07_Log_Include.f incV
  rw [List.length_map]
  by_cases c : 1 ≤ n ∧ n ≤ es.length
  · rw [if_pos c]
    simp only [if_neg (show ¬ n < 1 by omega), if_neg (show ¬ n > (es.length : Int) by omega), if_pos (show 0 ≤ n by omega), if_pos c.2]
    have h := ev_rInclude (es.take n.toNat) i
    have e : incS (es.take n.toNat) i = (if 0 ≤ i ∧ i < n then (wayS ((es.map leafS).take n.toNat) i.toNat, 0) else ([], 6)) := by
      unfold incS
      rw [if_pos (listE_take hl hx _), List.length_take, List.map_take, show (((min n.toNat es.length : Nat)) : Int) = n by omega]
    rw [e] at h
    exact Ev.bind h (Ev.now _)
  · rw [if_neg c]
    by_cases d : n < 1
    · simp only [if_pos d]; exact Ev.now _
    · simp only [if_neg d, if_pos (show n > (es.length : Int) by omega)]; exact Ev.now _
theorem ev_rLExt (hl : es.length ≤ 4096) (hx : ∀ x ∈ es, x.length ≤ 256) (m n : Int) : Ev (fun k => kimberliteref07_Log_Extend.f k es m n) (extV (es.map leafS) m n) := by
  unfold kimberliteref07_Log_Extend.f extV
  rw [List.length_map]
  by_cases c : 1 ≤ n ∧ n ≤ es.length
  · rw [if_pos c]
    simp only [if_neg (show ¬ n < 1 by omega), if_neg (show ¬ n > (es.length : Int) by omega), if_pos (show 0 ≤ n by omega), if_pos c.2]
    have h := ev_rExtend (es.take n.toNat) m
    have e : exS (es.take n.toNat) m = (if 1 ≤ m ∧ m ≤ n then (extS ((es.map leafS).take n.toNat) m.toNat true, 0) else ([], 2)) := by
      unfold exS
      rw [if_pos (listE_take hl hx _), List.length_take, List.map_take, show (((min n.toNat es.length : Nat)) : Int) = n by omega]
    rw [e] at h
    exact Ev.bind h (Ev.now _)
  · rw [if_neg c]
    by_cases d : n < 1
    · simp only [if_pos d]; exact Ev.now _
    · simp only [if_neg d, if_pos (show n > (es.length : Int) by omega)]; exact Ev.now _
theorem inc_len (ls : List Int) (hl : ls.length ≤ 4096) (i n : Int) : (incV ls i n).1.length < 100 := by
  unfold incV
  split
  · split
    · exact way_small _ _ (by rw [List.length_take]; omega)
    · decide
  · decide
theorem ext_len' (ls : List Int) (hl : ls.length ≤ 4096) (m n : Int) : (extV ls m n).1.length < 100 := by
  unfold extV
  split
  · split
    · exact ext_small _ _ _ (by rw [List.length_take]; omega)
    · decide
  · decide
theorem entry_256 (hx : ∀ x ∈ es, x.length ≤ 256) (i : Int) : (entryV es i).1.length ≤ 256 := by
  unfold entryV
  split
  · rename_i c; exact hx _ (rd_mem c.1 c.2)
  · decide
end
end Go.Proofs.Ytacjdoekgmmfoaa.PL
end
section
namespace Go.Proofs.Ytacjdoekgmmfoaa.PL
open Go.RowKit Go.Proofs.YtacjdoekgmmfoaaW.PrintWords Go.Proofs.YtacjdoekgmmfoaaW.PrintLast Go.Proofs.YtacjdoekgmmfoaaW.PrintMore Go.Proofs.Ytacjdoekgmmfoaa.Opn
set_option linter.unusedVariables false
set_option linter.unusedSimpArgs false
def addV (es : List (List Int)) (x : List Int) : Int × Int := if x.length ≤ 256 then ((es.length : Int), 0) else (0, 3)
def addE (es : List (List Int)) (x : List Int) : List (List Int) := if x.length ≤ 256 then es ++ [x] else es
theorem addE_len (es : List (List Int)) (x : List Int) : (addE es x).length ≤ es.length + 1 := by
  unfold addE; split <;> simp
theorem addE_256 {es : List (List Int)} (h : ∀ x ∈ es, x.length ≤ 256) (x : List Int) : ∀ y ∈ addE es x, y.length ≤ 256 := fun y hy => by
  unfold addE at hy
  split at hy
  · rename_i c
    rcases List.mem_append.1 hy with q | q
    · exact h y q
    · rw [List.mem_singleton] at q; subst q; exact c
  · exact h y hy
theorem rAddV (es : List (List Int)) (xs : List Int) (hn : es.length < 4096) (hl : xs.length < 1000000) : kimberliteref07_Log_Add.f es xs = some (addE es xs, (addV es xs).1, (addV es xs).2) := by
  unfold kimberliteref07_Log_Add.f addE addV
  by_cases c : xs.length ≤ 256
  · rw [if_neg (by omega), if_neg (by omega), if_pos (by simp; omega), if_pos c, if_pos c]
    simp only [Option.bind_some, List.nil_append, List.length_nil, Nat.zero_add]
    rw [if_pos (by omega), if_pos (by omega)]
    simp only [Option.bind_some, List.length_append, List.length_singleton]
    rw [show wrap64 (((es.length + 1 : Nat) : Int) - 1) = (es.length : Int) by unfold wrap64; omega]
  · rw [if_pos (by omega), if_neg c, if_neg c]
theorem LX.bound' {base g : Nat} {O M : Nat → Prop} {w : World} {es : List (List Int)} {ls : List Int} (h : LX base O M w g es ls) : LX base (fun k => O k ∧ k < w.heap.size) (fun k => (M k ∧ O k) ∧ k < w.heap.size) w g es ls := h.bound.mono (fun _ q => q) (fun _ q => ⟨q.1, q.2.1⟩)
/-- Add, accepted or refused. -/
theorem addB_calls (base : Nat) (O M : Nat → Prop) (w : World) (g : Nat) (es : List (List Int)) (A : Option Addr) (c : Nat) (xs : List Int) (h : LX base O M w g es (es.map leafS))
    (hX : ∀ W, KeepX M w W → Kd.C (Kd.int .u8) W A xs.length xs) (hc : xs.length ≤ c) (hn : es.length < 4096) :
    Calls Try.prog 47 #[.pointer (some ⟨g, 0, none⟩), .slice A xs.length c] w fun e w' => e = .returned (.tuple #[.int .i64 (addV es xs).1, .int .i64 (addV es xs).2]) ∧ LX base (fun k => O k ∨ w.heap.size ≤ k) (fun k => M k ∨ w.heap.size ≤ k) w' g (addE es xs) ((addE es xs).map leafS) ∧ Below base w w' ∧ KeepX M w w' := by
  unfold addV addE
  by_cases c256 : xs.length ≤ 256
  · rw [if_pos c256, if_pos c256]
    obtain ⟨k, hk⟩ := Ev.rounds (ev_Leaf xs (by omega))
    have hh := addX_calls k base O M w g es (es.map leafS) A c xs (leafS xs) h hX hc c256 hn (by rw [List.length_map]; exact hn) hk
    rw [List.map_append]
    exact hh
  · rw [if_neg c256, if_neg c256]
    exact (add_long base w g es (es.map leafS) A xs.length c h.lg (by omega)).mono (fun e w' hh => ⟨hh.1, hh.2 ▸ ⟨h.mono (fun _ q => .inl q) (fun _ q => .inl q), Below.refl _ _, KeepX.refl _ _⟩⟩)
/-- A log (its blocks O, of which its calls write to M) and the reference's (its blocks P), since w0; the blocks B belong to neither. -/
structure AD (base : Nat) (M0 P0 B : Nat → Prop) (w0 w : World) (g : Nat) (es er : List (List Int)) (v : Value) (O M P : Nat → Prop) : Prop where
  lx : LX base O M w g es (es.map leafS)
  rv : Kd.V (Kd.slice 5 (Kd.int .u8)) 22 w base P v er
  mo : ∀ k, M k → O k
  pm : ∀ k, P k → ¬ M k
  ob : ∀ k, O k → k < w.heap.size
  pb : ∀ k, P k → k < w.heap.size
  m0 : ∀ k, M k → M0 k ∨ w0.heap.size ≤ k
  p0 : ∀ k, P k → P0 k ∨ w0.heap.size ≤ k
  nb : ∀ k, B k → ¬ O k ∧ ¬ P k ∧ k < w.heap.size
  kp : KeepX M0 w0 w
  bl : Below base w0 w
  bz : base ≤ w0.heap.size
def ADx (base : Nat) (M0 P0 B : Nat → Prop) (w0 w : World) (g : Nat) (es er : List (List Int)) (v : Value) : Prop := ∃ O M P, AD base M0 P0 B w0 w g es er v O M P
section
variable {base g : Nat} {M0 P0 B B' S : Nat → Prop} {w0 w W : World} {es er : List (List Int)} {v : Value}
theorem ADx.next (h : ADx base M0 P0 B w0 w g es er v) (hb : Below w.heap.size w W) : ADx base M0 P0 B w0 W g es er v := by
  obtain ⟨O, M, P, h⟩ := h
  exact ⟨O, M, P, h.lx.next hb, Kd.V_below h.rv hb, h.mo, h.pm, fun k q => Nat.lt_of_lt_of_le (h.ob k q) hb.size, fun k q => Nat.lt_of_lt_of_le (h.pb k q) hb.size, h.m0, h.p0, fun k q => ⟨(h.nb k q).1, (h.nb k q).2.1, Nat.lt_of_lt_of_le (h.nb k q).2.2 hb.size⟩, h.kp.next hb, below_then h.bl (Nat.le_trans h.bz h.kp.1) hb, h.bz⟩
theorem ADx.fresh (h : ADx base M0 P0 B w0 w g es er v) (hb : Below w.heap.size w W) (hS : ∀ k, S k → w.heap.size ≤ k ∧ k < W.heap.size) : ADx base M0 P0 (fun k => B k ∨ S k) w0 W g es er v := by
  obtain ⟨O, M, P, h⟩ := h
  obtain ⟨O', M', P', h'⟩ : ADx base M0 P0 B w0 W g es er v := ADx.next ⟨O, M, P, h⟩ hb
  refine ⟨O, M, P, h.lx.next hb, Kd.V_below h.rv hb, h.mo, h.pm, fun k q => Nat.lt_of_lt_of_le (h.ob k q) hb.size, fun k q => Nat.lt_of_lt_of_le (h.pb k q) hb.size, h.m0, h.p0, fun k q => ?_, h'.kp, h'.bl, h.bz⟩
  rcases q with q | q
  · exact ⟨(h.nb k q).1, (h.nb k q).2.1, Nat.lt_of_lt_of_le (h.nb k q).2.2 hb.size⟩
  · have hk := hS k q
    exact ⟨fun z => by have := h.ob k z; omega, fun z => by have := h.pb k z; omega, hk.2⟩
theorem ADx.drop (h : ADx base M0 P0 B w0 w g es er v) (hB : ∀ k, B' k → B k) : ADx base M0 P0 B' w0 w g es er v := by
  obtain ⟨O, M, P, h⟩ := h
  exact ⟨O, M, P, h.lx, h.rv, h.mo, h.pm, h.ob, h.pb, h.m0, h.p0, fun k q => h.nb k (hB k q), h.kp, h.bl, h.bz⟩
theorem ADx.set (h : ADx base M0 P0 B w0 w g es er v) {b : Nat} (hB : B b) (hge : w0.heap.size ≤ b) (j : Nat) (u : Value) : ADx base M0 P0 B w0 (w.setCell ⟨b, j, none⟩ u) g es er v := by
  obtain ⟨O, M, P, h⟩ := h
  have hn := h.nb b hB
  have hz : (w.setCell ⟨b, j, none⟩ u).heap.size = w.heap.size := by simp [World.setCell]
  have hm : ∀ k, k ≠ b → (w.setCell ⟨b, j, none⟩ u).heap[k]? = w.heap[k]? := fun k hk => Below.heap_setCell w _ u k hk
  refine ⟨O, M, P, h.lx.step (by rw [hz]; exact Nat.le_refl _) (fun k hk _ => hm k (fun e => hn.1 (e ▸ hk))), Kd.V_step h.rv (fun k hk _ => hm k (fun e => hn.2.1 (e ▸ hk))), h.mo, h.pm, fun k q => by rw [hz]; exact h.ob k q, fun k q => by rw [hz]; exact h.pb k q, h.m0, h.p0, fun k q => by rw [hz]; exact h.nb k q, h.kp.set (.inr hge) (fun q => ?_) j u, h.bl.setCell (p := ⟨b, j, none⟩) (Nat.le_trans h.bz hge) u, h.bz⟩
  obtain ⟨cs, fr, q⟩ := q
  rw [Array.getElem?_eq_none hge] at q
  cases q
theorem ADx.lg (h : ADx base M0 P0 B w0 w g es er v) : LG base w g es (es.map leafS) := by
  obtain ⟨O, M, P, h⟩ := h
  exact h.lx.lg
theorem ADx.bl (h : ADx base M0 P0 B w0 w g es er v) : Below base w0 w := by
  obtain ⟨O, M, P, h⟩ := h
  exact h.bl
theorem ADx.size (h : ADx base M0 P0 B w0 w g es er v) : w0.heap.size ≤ w.heap.size := by
  obtain ⟨O, M, P, h⟩ := h
  exact h.kp.1
theorem ADx.V (h : ADx base M0 P0 B w0 w g es er v) : ∃ A c, v = .slice A er.length c ∧ er.length ≤ c ∧ Kd.C (Kd.slice 5 (Kd.int .u8)) w A er.length er := by
  obtain ⟨O, M, P, h⟩ := h
  obtain ⟨A, c, rfl, hc, hf⟩ := h.rv
  exact ⟨A, c, rfl, hc, Kd.F_now hf⟩
/-- l.Add. -/
theorem ADx.add_calls (h : ADx base M0 P0 B w0 w g es er v) (A : Option Addr) (c : Nat) (xs : List Int)
    (hX : ∀ W, (∀ k, B k → W.heap[k]? = w.heap[k]?) → Kd.C (Kd.int .u8) W A xs.length xs) (hc : xs.length ≤ c) (hn : es.length < 4096) :
    Calls Try.prog 47 #[.pointer (some ⟨g, 0, none⟩), .slice A xs.length c] w fun e w' => e = .returned (.tuple #[.int .i64 (addV es xs).1, .int .i64 (addV es xs).2]) ∧ ADx base M0 P0 B w0 w' g (addE es xs) er v ∧ (∀ k, B k → w'.heap[k]? = w.heap[k]?) := by
  obtain ⟨O, M, P, h⟩ := h
  have hB : ∀ k, B k → ¬ M k := fun k hk hm => (h.nb k hk).1 (h.mo k hm)
  refine (addB_calls base O M w g es A c xs h.lx (fun W hW => hX W (fun k hk => hW.2 k (h.nb k hk).2.2 (.inl (hB k hk)))) hc hn).mono ?_
  rintro e w' ⟨rfl, hL, hbl, hK⟩
  refine ⟨rfl, ⟨_, _, P, hL.bound', Kd.V_step h.rv (fun k hk hlt => hK.2 k hlt (.inl (h.pm k hk))), fun k q => ⟨q.1.2, q.2⟩, fun k hk q => ?_, fun k q => q.2, fun k q => Nat.lt_of_lt_of_le (h.pb k q) hK.1, fun k q => ?_, h.p0, fun k q => ⟨fun z => ?_, (h.nb k q).2.1, Nat.lt_of_lt_of_le (h.nb k q).2.2 hK.1⟩, h.kp.trans hK h.m0, h.bl.trans hbl, h.bz⟩, fun k hk => hK.2 k (h.nb k hk).2.2 (.inl (hB k hk))⟩
  · rcases q.1.1 with z | z
    · exact h.pm k hk z
    · have := h.pb k hk; omega
  · rcases q.1.1 with z | z
    · exact h.m0 k z
    · exact .inr (Nat.le_trans h.kp.1 z)
  · rcases z.1 with z | z
    · exact (h.nb k q).1 z
    · have := (h.nb k q).2.2; omega
/-- r.Add. -/
theorem ADx.ref_calls (A0 : Option Addr) (c0 : Nat) (h : ADx base M0 P0 B w0 w g es er (.slice A0 er.length c0)) (A : Option Addr) (c : Nat) (xs : List Int) (hX : Kd.C (Kd.int .u8) w A xs.length xs) (hc : xs.length ≤ c) (hn : er.length < 4096) (hl : xs.length < 1000000) :
    Calls Try.prog 74 #[.agg #[.slice A0 er.length c0], .slice A xs.length c] w fun e w' => ∃ v', e = .returned (.tuple #[.agg #[v'], .int .i64 (addV er xs).1, .int .i64 (addV er xs).2]) ∧ ADx base M0 P0 B w0 w' g es (addE er xs) v' ∧ Below w.heap.size w w' := by
  obtain ⟨O, M, P, h⟩ := h
  refine (kimberliteref07_Log_Add.calls P A0 c0 er A c xs (addE er xs) (addV er xs).1 (addV er xs).2 w h.rv hX hc (rAddV er xs hn hl)).mono ?_
  rintro e w' ⟨v', rfl, hV, hb⟩
  obtain ⟨O', M', P', h'⟩ : ADx base M0 P0 B w0 w' g es er _ := ADx.next ⟨O, M, P, h⟩ hb
  refine ⟨v', rfl, ⟨O, M, _, h.lx.next hb, Kd.V_bound hV, h.mo, fun k hk q => ?_, fun k q => Nat.lt_of_lt_of_le (h.ob k q) hb.size, fun k q => q.2, h.m0, fun k q => ?_, fun k q => ⟨(h.nb k q).1, fun z => ?_, Nat.lt_of_lt_of_le (h.nb k q).2.2 hb.size⟩, h'.kp, h'.bl, h.bz⟩, hb⟩
  · rcases hk.1 with z | z
    · exact h.pm k z q
    · have := h.ob k (h.mo k q); omega
  · rcases q.1 with z | z
    · exact h.p0 k z
    · exact .inr (Nat.le_trans h.kp.1 z)
  · rcases z.1 with z | z
    · exact (h.nb k q).2.1 z
    · have := (h.nb k q).2.2; omega
end
end Go.Proofs.Ytacjdoekgmmfoaa.PL
end
