/-
  The texts that the theorem in YtacjdoekgmmfoaaZRowLg rests on, merged (part 6); only what it reaches.
-/
import Derived.Test.YtacjdoekgmmfoaaZLg2
import Derived.Test.YtacjdoekgmmfoaaZLg3
import Derived.Test.YtacjdoekgmmfoaaZLg4
section
namespace Go.Proofs.Ytacjdoekgmmfoaa.PL
open Go.RowKit Go.Proofs.YtacjdoekgmmfoaaW.PrintWords Go.Proofs.YtacjdoekgmmfoaaW.PrintLast Go.Proofs.YtacjdoekgmmfoaaW.PrintMore
attribute [local go_sem] max2_int min2_int max_two min_two max_three min_three max_four min_four   -- for this text's walks alone
set_option linter.unusedVariables false
set_option linter.unusedSimpArgs false
def kimberliteref07_Levels.l0 : Nat → List (S54) → List (List Int) → Int → Option ((List (List Int)))
  | 0, _, _, _ => none
  | k + 1, x1, x5, x6 => if x6 < (x1.length : Int) then (if 0 ≤ x6 then (if x6 < (x5.length : Int) then ((kimberliteref07_Mix.f k (rd_L1 x5 x6)).bind fun t234 => (if (rd_T54 x1 x6).f1 = true then ((kimberliteref07_NodeBytes.f k ((rd_T54 x1 x6).f0) t234).bind fun t237 => (if x5.length < 5864062014805 then (kimberliteref07_Levels.l0 k x1 (x5 ++ [t237]) (wrap64 (x6 + 1))) else (none))) else ((kimberliteref07_NodeBytes.f k t234 ((rd_T54 x1 x6).f0)).bind fun t244 => (if x5.length < 5864062014805 then (kimberliteref07_Levels.l0 k x1 (x5 ++ [t244]) (wrap64 (x6 + 1))) else (none))))) else (none)) else (none)) else (some x5)
def kimberliteref07_Levels.f (k : Nat) (l0 : List Int) (l1 : List (S54)) : Option ((List (List Int))) := (kimberliteref07_LeafBytes.f l0).bind fun t227 => (kimberliteref07_Levels.l0 k l1 (([t227] : List (List Int))) 0)
theorem kimberliteref07_Levels.mono_l : ∀ k, (∀ y0 y1 y2, LeO (kimberliteref07_Levels.l0 k y0 y1 y2) (kimberliteref07_Levels.l0 (k + 1) y0 y1 y2))
  | 0 => fun _ _ _ r h => by simp [kimberliteref07_Levels.l0] at h
  | k + 1 => by
    have ih0 := kimberliteref07_Levels.mono_l k
    · intro y0 y1 y2
      unfold kimberliteref07_Levels.l0
      repeat' first
      | (with_reducible exact ih0 _ _ _)
      | (with_reducible exact kimberliteref07_Mix.mono _ _)
      | (with_reducible exact kimberliteref07_NodeBytes.mono _ _ _)
      | (with_reducible exact LeO.refl _)
      | (with_reducible exact LeO.none _)
      | (with_reducible refine LeO.ite ?_ ?_)
      | (with_reducible refine LeO.bind ?_ (fun _ => ?_))
      | exact ih0 _ _ _
      | exact kimberliteref07_Mix.mono _ _
      | exact kimberliteref07_NodeBytes.mono _ _ _
      | exact LeO.none _
      | refine LeO.ite ?_ ?_
      | refine LeO.bind ?_ (fun _ => ?_)
theorem kimberliteref07_Levels.mono : ∀ a0 a1 k, LeO (kimberliteref07_Levels.f k a0 a1) (kimberliteref07_Levels.f (k + 1) a0 a1) := by
  intro a0 a1 k
  have ih0 := kimberliteref07_Levels.mono_l k
  unfold kimberliteref07_Levels.f
  repeat' first
      | (with_reducible exact ih0 _ _ _)
      | (with_reducible exact kimberliteref07_Mix.mono _ _)
      | (with_reducible exact kimberliteref07_NodeBytes.mono _ _ _)
      | (with_reducible exact LeO.refl _)
      | (with_reducible exact LeO.none _)
      | (with_reducible refine LeO.ite ?_ ?_)
      | (with_reducible refine LeO.bind ?_ (fun _ => ?_))
      | exact ih0 _ _ _
      | exact kimberliteref07_Mix.mono _ _
      | exact kimberliteref07_NodeBytes.mono _ _ _
      | exact LeO.none _
      | refine LeO.ite ?_ ?_
      | refine LeO.bind ?_ (fun _ => ?_)
set_option maxHeartbeats 8000000 in
set_option maxRecDepth 100000 in
theorem kimberliteref07_Levels.calls (k : Nat) (A0 : Option Addr) (c0 : Nat) (l0 : List Int) (A1 : Option Addr) (c1 : Nat) (l1 : List (S54)) (r : List (List Int)) (w : World) (hr0 : Kd.C (Kd.int .u8) w A0 l0.length l0) (hc0 : l0.length ≤ c0) (hr1 : Kd.C k54 w A1 l1.length l1) (hc1 : l1.length ≤ c1) (h : kimberliteref07_Levels.f k l0 l1 = some r) :
    Calls Try.prog 23 #[.slice A0 l0.length c0, .slice A1 l1.length c1] w fun e w' => ∃ v0_ : Value, e = .returned (v0_) ∧ Kd.N (Kd.slice 5 (Kd.int .u8)) 22 w' w.heap.size (fun k_ => (w.heap.size ≤ k_)) v0_ r ∧ Below w.heap.size w w' := by
  have HR0 := Aside0.mk hr0
  have HC0 := Aside0.mk hc0
  clear hr0 hc0
  have HR1 := Aside0.mk hr1
  have HC1 := Aside0.mk hc1
  clear hr1 hc1
  have HB := Aside0.mk (Below.refl w.heap.size w)
  have H : ((kimberliteref07_LeafBytes.f l0).bind fun t227 => (kimberliteref07_Levels.l0 k l1 (([t227] : List (List Int))) 0)) = some r := h
  clear h
  replace H := Option.bind_eq_some_iff.mp H
  obtain ⟨t227, A30, H⟩ := H
  replace H : (kimberliteref07_Levels.l0 k l1 (([t227] : List (List Int))) 0) = some r := H
  have A3 := Aside0.mk A30
  clear A30
  obtain ⟨y230, hy230⟩ : ∃ y_ : List (List Int), y_ = (([t227] : List (List Int))) := ⟨_, rfl⟩
  replace H : (kimberliteref07_Levels.l0 k l1 y230 0) = some r := by first | (rw [hy230]; with_reducible exact H) | (have H2_ := (Option.bind_some _ _).symm.trans H; rw [hy230]; with_reducible exact H2_) | (have H2_ := (Option.bind_some _ _).symm.trans H; with_reducible exact H2_) | with_reducible exact H | (rw [hy230]; exact H) | exact H
  have Ny230 := Aside0.mk hy230
  clear hy230
  have H' := Aside0.mk H
  clear H
  go_enter Try.func23, Try.ntmps23
  go_wp2_with (first | ((with_reducible refine gate_callee (f := 61) rfl ?_); refine goesL_ (some 9) rfl rfl Try.func61 (by kernel_rfl) rfl #[.slice A0 l0.length c0] rfl (by (try simp only [List.map_toArray, List.map_cons, List.map_nil]); first | done | rfl | (simp only [List.length_drop, List.length_take]; rfl)) ?_; (with_reducible refine (kimberliteref07_LeafBytes.calls _ _ l0 t227 _ ?side1 ?side2 A3.out).mono ?_); (case side1 => repeat (first | exact HR0.out | (with_reducible refine Kd.C_alloc ?_ _) | (with_reducible refine Kd.C_drewN ?_ _) | (with_reducible refine Kd.C_drew ?_))); (case side2 => exact HC0.out); rintro e w4 ⟨v228, rfl, ho0, hb⟩; refine ⟨_, rfl, ?_⟩; have n0_ := Aside0.mk (Kd.R_lower (Kd.R_newM (M := fun k_ => (w.heap.size ≤ k_)) ho0 (below_size (by repeat (first | (with_reducible first | exact HB.out | apply below_alloc | apply pw_below_drewN | apply below_drew1) | exact HB.out))) (fun k_ h_ => h_)) (below_size (by repeat (first | (with_reducible first | exact HB.out | apply below_alloc | apply pw_below_drewN | apply below_drew1) | exact HB.out)))); have n1_ := Aside0.mk (below_step (by repeat (first | (with_reducible first | exact HB.out | apply below_alloc | apply pw_below_drewN | apply below_drew1) | exact HB.out)) hb); clear HB; have HO229 := n0_; have HB := n1_; clear n0_ n1_; (try clear hb); (try clear hb2); (try clear hk); (try clear hi); (try clear ho0); obtain ⟨Ao5, co5, eo5⟩ := Kd.R_slice HO229.out; subst eo5) | ((with_reducible refine gate_dst (N := 10) rfl ?_); refine Kd.N_lit (Kd.slice 5 (Kd.int .u8)) _ 22 ?hg (N' := 10) ?hd (xs := ([t227] : List (List Int))) (inner := [.slice Ao5 t227.length co5]) (ok := (fun k_ => (w.heap.size ≤ k_))) (okp := (fun k_ => (w.heap.size ≤ k_))) ?hr ?hp (fun _ hk => hk) ((show ∀ k_, w4.heap.size ≤ k_ → (fun k_ => (w.heap.size ≤ k_)) k_ from fun k_ hk => (Nat.le_trans (below_size (by repeat (first | (with_reducible first | exact HB.out | apply below_alloc | apply pw_below_drewN | apply below_drew1) | exact HB.out))) hk)) _ (Nat.le_refl _)) (Below.refl _ _) (Nat.le_refl _) (by simp) ?_; (case hd => rfl); (case hg => rfl); (case hr => first | (go_simp; done) | (go_simp; rfl)); (case hp => exact (Reps.one (show Kd.FK (Kd.slice 5 (Kd.int .u8)) _ _ t227 [.slice Ao5 t227.length co5] from (Kd.FK_slice_mk (Kd.R_reads' (Kd.R_mono (ok' := (fun k_ => (w.heap.size ≤ k_))) (HO229.out) (fun k_ hk => hk.1))).2.1 (Kd.R_F (Kd.R_mono (ok' := (fun k_ => (w.heap.size ≤ k_))) (HO229.out) (fun k_ hk => hk.1))))) (Reps.none _ _))); intro v231 w6 ho7 hb hg_ hnew_; clear hg_ hnew_; (first | rw [← Ny230.out] at ho7 | (simp only [Int.reduceToNat] at ho7; rw [← Ny230.out] at ho7)); have n0_ := Aside0.mk (Kd.N_lower ho7 (below_size (by repeat (first | (with_reducible first | exact HB.out | apply below_alloc | apply pw_below_drewN | apply below_drew1) | exact HB.out)))); have n1_ := Aside0.mk (below_step (by repeat (first | (with_reducible first | exact HB.out | apply below_alloc | apply pw_below_drewN | apply below_drew1) | exact HB.out)) hb); clear HB; clear HO229; have HO232 := n0_; have HB := n1_; clear n0_ n1_; clear hb ho7))
  go_loopg [5, 6] k (fun kq v5 v6 w' => ∃ (x5_1 : List (List Int)) (x6_1 : Int), v6 = .int .i64 x6_1 ∧ Aside0 (kimberliteref07_Levels.l0 kq l1 x5_1 x6_1 = some r) ∧ Aside0 (kq ≤ k) ∧ Aside0 (Kd.N (Kd.slice 5 (Kd.int .u8)) 22 w' w.heap.size (fun k_ => (w.heap.size ≤ k_)) v5 x5_1) ∧ Aside0 (Below w.heap.size w w'))
  case atStart => exact ⟨(y230), (0), (by first | rfl | (simp; done) | (simp [*]; done)), H', ⟨Nat.le_refl _⟩, ⟨by (with_reducible repeat (first | apply Kd.N_alloc | apply Kd.N_drewN | apply Kd.N_drew)); exact HO232.out⟩, ⟨by repeat (first | (with_reducible first | exact HB.out | apply below_alloc | apply pw_below_drewN | apply below_drew1) | exact HB.out)⟩⟩
  case round =>
    clear H'
    try clear c1
    try clear c2
    try clear p2
    try clear c6
    obtain ⟨x5_1, x6_1, rfl, HA, HK1, HO_5, HB⟩ := hrel
    cases gk with
    | zero => exact absurd HA.out (by simp [kimberliteref07_Levels.l0])
    | succ k1 =>
      have H := HA.out
      clear HA
      simp only [kimberliteref07_Levels.l0] at H
      by_cases c8 : x6_1 < (l1.length : Int)
      · rw [if_pos c8] at H
        have c8b0 : decide (x6_1 < (l1.length : Int)) = true := decide_eq_true c8
        clear c8
        by_cases c9 : 0 ≤ x6_1
        · rw [if_pos c9] at H
          have c9b0 : decide (0 ≤ x6_1) = true := decide_eq_true c9
          clear c9
          by_cases c10 : x6_1 < (x5_1.length : Int)
          · rw [if_pos c10] at H
            have c10b0 : decide (x6_1 < (x5_1.length : Int)) = true := decide_eq_true c10
            clear c10
            replace H := Option.bind_eq_some_iff.mp H
            obtain ⟨t234, A110, H⟩ := H
            replace H : (if (rd_T54 l1 x6_1).f1 = true then ((kimberliteref07_NodeBytes.f k1 ((rd_T54 l1 x6_1).f0) t234).bind fun t237 => (if x5_1.length < 5864062014805 then (kimberliteref07_Levels.l0 k1 l1 (x5_1 ++ [t237]) (wrap64 (x6_1 + 1))) else (none))) else ((kimberliteref07_NodeBytes.f k1 t234 ((rd_T54 l1 x6_1).f0)).bind fun t244 => (if x5_1.length < 5864062014805 then (kimberliteref07_Levels.l0 k1 l1 (x5_1 ++ [t244]) (wrap64 (x6_1 + 1))) else (none)))) = some r := H
            have A11 := Aside0.mk A110
            clear A110
            obtain ⟨bq12, hbq12⟩ : ∃ b_ : Bool, b_ = ((rd_T54 l1 x6_1).f1) := ⟨_, rfl⟩
            replace H : (if bq12 = true then ((kimberliteref07_NodeBytes.f k1 ((rd_T54 l1 x6_1).f0) t234).bind fun t237 => (if x5_1.length < 5864062014805 then (kimberliteref07_Levels.l0 k1 l1 (x5_1 ++ [t237]) (wrap64 (x6_1 + 1))) else (none))) else ((kimberliteref07_NodeBytes.f k1 t234 ((rd_T54 l1 x6_1).f0)).bind fun t244 => (if x5_1.length < 5864062014805 then (kimberliteref07_Levels.l0 k1 l1 (x5_1 ++ [t244]) (wrap64 (x6_1 + 1))) else (none)))) = some r := by rw [← hbq12] at H; exact H
            have Nbq12 := Aside0.mk hbq12
            clear hbq12
            by_cases c13 : bq12 = true
            · subst c13
              have H1 : ((kimberliteref07_NodeBytes.f k1 ((rd_T54 l1 x6_1).f0) t234).bind fun t237 => (if x5_1.length < 5864062014805 then (kimberliteref07_Levels.l0 k1 l1 (x5_1 ++ [t237]) (wrap64 (x6_1 + 1))) else (none))) = some r := by rw [if_pos rfl] at H; exact H
              clear H
              have H := H1
              clear H1
              replace H := Option.bind_eq_some_iff.mp H
              obtain ⟨t237, A140, H⟩ := H
              replace H : (if x5_1.length < 5864062014805 then (kimberliteref07_Levels.l0 k1 l1 (x5_1 ++ [t237]) (wrap64 (x6_1 + 1))) else (none)) = some r := H
              have A14 := Aside0.mk A140
              clear A140
              by_cases c15 : x5_1.length < 5864062014805
              · rw [if_pos c15] at H
                have LMc15 := Aside0.mk c15
                clear c15
                obtain ⟨y240, hy240⟩ : ∃ y_ : List (List Int), y_ = (x5_1 ++ [t237]) := ⟨_, rfl⟩
                replace H : (kimberliteref07_Levels.l0 k1 l1 y240 (wrap64 (x6_1 + 1))) = some r := by first | (rw [hy240]; with_reducible exact H) | (have H2_ := (Option.bind_some _ _).symm.trans H; rw [hy240]; with_reducible exact H2_) | (have H2_ := (Option.bind_some _ _).symm.trans H; with_reducible exact H2_) | with_reducible exact H | (rw [hy240]; exact H) | exact H
                have Ny240 := Aside0.mk hy240
                clear hy240
                have H' := Aside0.mk H
                clear H
                obtain ⟨Ao16, co16, eo16⟩ := Kd.N_slice HO_5.out
                subst eo16
                have p233 : 0 ≤ (x6_1 : Int) := of_decide_eq_true (by first | (with_reducible assumption) | assumption)
                have q233 : x6_1 < (x5_1.length : Int) := of_decide_eq_true (by first | (with_reducible assumption) | assumption)
                obtain ⟨ad233, A233_0, c233_0, e233, hx233_0, hl233_0, hi233_0⟩ := at_L1 (Kd.N_reads' HO_5.out).2.2 x6_1 p233 q233
                cases e233
                obtain ⟨ce233, hce233, hMe233, hcc233⟩ := Kd.N_get HO_5.out [] x6_1 p233 (by first | exact q233 | exact of_decide_eq_true (by first | (with_reducible assumption) | assumption) | (have e_ := (Kd.N_reads' HO_5.out).1; omega))
                obtain ⟨ua233_0, uc233_0, rfl, ul233_0, ge233_0⟩ := Kd.FK_slice_open hMe233
                have hv233_0 := hcc233 0 _ rfl
                rw [Nat.add_zero, show ((Kd.slice 5 (Kd.int .u8))).sz = 1 from rfl, Nat.mul_one] at hv233_0
                replace hv233_0 := Option.some.inj (hv233_0.symm.trans hx233_0)
                injection hv233_0 with hva_ hvn_ hvc_
                rw [hva_] at ge233_0
                rw [hvc_] at ul233_0
                have HL233_0 := Aside0.mk (show Kd.V (Kd.int .u8) 5 _ w.heap.size _ _ (rd_L1 x5_1 x6_1) from Kd.V_mk ul233_0 ge233_0)
                clear hva_ hvn_ hvc_ ge233_0 ul233_0
                clear hcc233 hce233
                have HR233_0 := Aside0.mk hi233_0
                have HC233_0 := Aside0.mk hl233_0
                clear hi233_0 hl233_0
                replace p233 := eq_true p233
                replace q233 := eq_true q233
                go_wp2_with (first | ((with_reducible refine gate_callee (f := 27) rfl ?_); refine goesL_ (some 21) rfl rfl Try.func27 (by kernel_rfl) rfl #[.slice A233_0 (rd_L1 x5_1 x6_1).length c233_0] rfl (by (try simp only [List.map_toArray, List.map_cons, List.map_nil]); first | done | rfl | (simp only [List.length_drop, List.length_take]; rfl)) ?_; (with_reducible refine (kimberliteref07_Mix.calls k1 _ _ (rd_L1 x5_1 x6_1) t234 _ ?side1 ?side2 A11.out).mono ?_); (case side1 => repeat (first | exact (by repeat (first | (with_reducible exact HR233_0.out) | (with_reducible refine Kd.C_alloc ?_ _) | (with_reducible refine Kd.C_drewN ?_ _) | (with_reducible refine Kd.C_drew ?_) | exact HR233_0.out)) | (with_reducible refine Kd.C_alloc ?_ _) | (with_reducible refine Kd.C_drewN ?_ _) | (with_reducible refine Kd.C_drew ?_))); (case side2 => exact HC233_0.out); rintro e w' ⟨rfl, ⟨nd, rfl⟩⟩; refine ⟨_, rfl, ?_⟩; have p235 : 0 ≤ (x6_1 : Int) := of_decide_eq_true (by first | (with_reducible assumption) | assumption); have q235 : x6_1 < (l1.length : Int) := of_decide_eq_true (by first | (with_reducible assumption) | assumption); obtain ⟨ad235, e235, hx235_0, hx235_1⟩ := at_T54 HR1.out x6_1 p235 q235; (try rw [← Nbq12.out] at hx235_1); cases e235; replace hx235_0 := (HB.out.cell (World.block_lt_of_cell? w _ hx235_0)).trans hx235_0; replace hx235_1 := (HB.out.cell (World.block_lt_of_cell? w _ hx235_1)).trans hx235_1; replace p235 := eq_true p235; replace q235 := eq_true q235; have p236 : 0 ≤ (x6_1 : Int) := of_decide_eq_true (by first | (with_reducible assumption) | assumption); have q236 : x6_1 < (l1.length : Int) := of_decide_eq_true (by first | (with_reducible assumption) | assumption); obtain ⟨ad236, e236, hx236_0, hx236_1⟩ := at_T54 HR1.out x6_1 p236 q236; (try rw [← Nbq12.out] at hx236_1); obtain rfl : ad235 = ad236 := (by injection e236); replace hx236_0 := (HB.out.cell (World.block_lt_of_cell? w _ hx236_0)).trans hx236_0; replace hx236_1 := (HB.out.cell (World.block_lt_of_cell? w _ hx236_1)).trans hx236_1; replace p236 := eq_true p236; replace q236 := eq_true q236) | ((with_reducible refine gate_callee (f := 62) rfl ?_); refine goesL_ (some 34) rfl rfl Try.func62 (by kernel_rfl) rfl #[.int .u64 ((rd_T54 l1 x6_1).f0), .int .u64 t234] rfl (by (try simp only [List.map_toArray, List.map_cons, List.map_nil]); first | done | rfl | (simp only [List.length_drop, List.length_take]; rfl)) ?_; (with_reducible refine (kimberliteref07_NodeBytes.calls k1 ((rd_T54 l1 x6_1).f0) t234 t237 _ A14.out).mono ?_); rintro e w17 ⟨v238, rfl, ho0, hb⟩; refine ⟨_, rfl, ?_⟩; have n0_ := Aside0.mk (Kd.N_elder' (by (with_reducible repeat (first | apply Kd.N_alloc | apply Kd.N_drewN | apply Kd.N_drew)); exact HO_5.out) (Kd.R_base ho0) hb); have n1_ := Aside0.mk (Kd.V_elder' (by (with_reducible repeat (first | apply Kd.V_alloc | apply Kd.V_drewN | apply Kd.V_drew)); exact HL233_0.out) (Kd.R_base ho0) hb); have n2_ := Aside0.mk (Kd.R_lower (Kd.R_newM (M := fun k_ => (w.heap.size ≤ k_)) ho0 (below_size (by repeat (first | (with_reducible first | exact HB.out | apply below_alloc | apply pw_below_drewN | apply below_drew1) | exact HB.out))) (fun k_ h_ => h_)) (below_size (by repeat (first | (with_reducible first | exact HB.out | apply below_alloc | apply pw_below_drewN | apply below_drew1) | exact HB.out)))); have n3_ := Aside0.mk (Kd.C_below (by repeat (first | (with_reducible exact HR233_0.out) | (with_reducible refine Kd.C_alloc ?_ _) | (with_reducible refine Kd.C_drewN ?_ _) | (with_reducible refine Kd.C_drew ?_) | exact HR233_0.out)) hb); have n4_ := Aside0.mk (below_step (by repeat (first | (with_reducible first | exact HB.out | apply below_alloc | apply pw_below_drewN | apply below_drew1) | exact HB.out)) hb); clear HO_5; clear HL233_0; clear HR233_0; clear HB; have HO_5 := n0_; have HL233_0 := n1_; have HO239 := n2_; have HR233_0 := n3_; have HB := n4_; clear n0_ n1_ n2_ n3_ n4_; (try clear hb); (try clear hb2); (try clear hk); (try clear hi); (try clear ho0); obtain ⟨Ao19, co19, eo19⟩ := Kd.R_slice HO239.out; subst eo19) | ((with_reducible refine gate_builtin (b := .append) (xs := #[.tmp 27, .tmp 35]) rfl ?_); at_builtin; refine Kd.N_append (Kd.slice 5 (Kd.int .u8)) (w0 := w) w.heap.size rfl (.tmp 27) (.tmp 35) 39 22 (.slice none 0 0) 24 rfl Try.underlying39 info22 rfl (by decide) (by omega) (.slice (some ad233) x5_1.length co16) x5_1 t237 [.slice Ao19 t237.length co19] (fun k_ => (w.heap.size ≤ k_)) (fun k_ => ((fun k_ => (w.heap.size ≤ k_))) k_ ∧ some k_ ≠ (.slice (some ad233) x5_1.length co16 : Value).ownBlock) rfl rfl ?aP (fun _ hk => hk) ?aF ?aO ?aB ?aS ?aL ?_; (case aP => exact (Kd.FK_slice_mk (Kd.R_reads' (Kd.R_mono (ok' := (fun k_ => ((fun k_ => (w.heap.size ≤ k_))) k_ ∧ some k_ ≠ (.slice (some ad233) x5_1.length co16 : Value).ownBlock)) (Kd.R_apart' (HO239.out) (Kd.N_typed HO_5.out) (by decide)) (fun k_ hk => ⟨hk.1.1, hk.2⟩))).2.1 (Kd.R_F (Kd.R_mono (ok' := (fun k_ => ((fun k_ => (w.heap.size ≤ k_))) k_ ∧ some k_ ≠ (.slice (some ad233) x5_1.length co16 : Value).ownBlock)) (Kd.R_apart' (HO239.out) (Kd.N_typed HO_5.out) (by decide)) (fun k_ hk => ⟨hk.1.1, hk.2⟩))))); (case aB => exact (by repeat (first | (with_reducible first | exact HB.out | apply below_alloc | apply pw_below_drewN | apply below_drew1) | exact HB.out))); (case aF => exact (fun k_ hk => (Nat.le_trans (below_size (by repeat (first | (with_reducible first | exact HB.out | apply below_alloc | apply pw_below_drewN | apply below_drew1) | exact HB.out))) hk))); (case aO => exact (by (with_reducible repeat (first | apply Kd.N_alloc | apply Kd.N_drewN | apply Kd.N_drew)); exact Kd.N_mono HO_5.out (fun _ hk => hk.1))); (case aS => exact (below_size (by repeat (first | (with_reducible first | exact HB.out | apply below_alloc | apply pw_below_drewN | apply below_drew1) | exact HB.out)))); (case aL => have := LMc15.out; omega); intro v241 w18 ho hb hg hat; rw [← Ny240.out] at ho; have n0_ := Aside0.mk (Kd.V_afterv (ok := (fun k_ => (w.heap.size ≤ k_) ∧ some k_ ≠ (.slice Ao19 t237.length co19 : Value).ownBlock)) (by (with_reducible repeat (first | apply Kd.V_alloc | apply Kd.V_drewN | apply Kd.V_drew)); exact Kd.V_mono HL233_0.out (fun _ hk => ⟨⟨hk.1.1, hk.2⟩, hk.1.2⟩)) hg hat); have n1_ := Aside0.mk (hb); have n2_ := Aside0.mk (ho); clear HL233_0; clear HB; clear HO_5; clear HO239; have HL233_0 := n0_; have HB := n1_; have HO242 := n2_; clear n0_ n1_ n2_; clear ho hb hg hat))
                go_roundg k1
                case measure => have := HK1.out; omega
                case rel => exact ⟨(y240), (wrap64 (x6_1 + 1)), (by first | rfl | (simp; done) | (simp [*]; done)), H', ⟨by have := HK1.out; omega⟩, ⟨by (with_reducible repeat (first | apply Kd.N_alloc | apply Kd.N_drewN | apply Kd.N_drew)); exact HO242.out⟩, ⟨by repeat (first | (with_reducible first | exact HB.out | apply below_alloc | apply pw_below_drewN | apply below_drew1) | exact HB.out)⟩⟩
              · rw [if_neg c15] at H
                exact absurd H (by simp)
            · replace c13 := Bool.eq_false_iff.mpr c13
              subst c13
              have H1 : ((kimberliteref07_NodeBytes.f k1 t234 ((rd_T54 l1 x6_1).f0)).bind fun t244 => (if x5_1.length < 5864062014805 then (kimberliteref07_Levels.l0 k1 l1 (x5_1 ++ [t244]) (wrap64 (x6_1 + 1))) else (none))) = some r := by rw [if_neg (show ¬ (false = true) by decide)] at H; exact H
              clear H
              have H := H1
              clear H1
              replace H := Option.bind_eq_some_iff.mp H
              obtain ⟨t244, A200, H⟩ := H
              replace H : (if x5_1.length < 5864062014805 then (kimberliteref07_Levels.l0 k1 l1 (x5_1 ++ [t244]) (wrap64 (x6_1 + 1))) else (none)) = some r := H
              have A20 := Aside0.mk A200
              clear A200
              by_cases c21 : x5_1.length < 5864062014805
              · rw [if_pos c21] at H
                have LMc21 := Aside0.mk c21
                clear c21
                obtain ⟨y247, hy247⟩ : ∃ y_ : List (List Int), y_ = (x5_1 ++ [t244]) := ⟨_, rfl⟩
                replace H : (kimberliteref07_Levels.l0 k1 l1 y247 (wrap64 (x6_1 + 1))) = some r := by first | (rw [hy247]; with_reducible exact H) | (have H2_ := (Option.bind_some _ _).symm.trans H; rw [hy247]; with_reducible exact H2_) | (have H2_ := (Option.bind_some _ _).symm.trans H; with_reducible exact H2_) | with_reducible exact H | (rw [hy247]; exact H) | exact H
                have Ny247 := Aside0.mk hy247
                clear hy247
                have H' := Aside0.mk H
                clear H
                obtain ⟨Ao22, co22, eo22⟩ := Kd.N_slice HO_5.out
                subst eo22
                have p233 : 0 ≤ (x6_1 : Int) := of_decide_eq_true (by first | (with_reducible assumption) | assumption)
                have q233 : x6_1 < (x5_1.length : Int) := of_decide_eq_true (by first | (with_reducible assumption) | assumption)
                obtain ⟨ad233, A233_0, c233_0, e233, hx233_0, hl233_0, hi233_0⟩ := at_L1 (Kd.N_reads' HO_5.out).2.2 x6_1 p233 q233
                cases e233
                obtain ⟨ce233, hce233, hMe233, hcc233⟩ := Kd.N_get HO_5.out [] x6_1 p233 (by first | exact q233 | exact of_decide_eq_true (by first | (with_reducible assumption) | assumption) | (have e_ := (Kd.N_reads' HO_5.out).1; omega))
                obtain ⟨ua233_0, uc233_0, rfl, ul233_0, ge233_0⟩ := Kd.FK_slice_open hMe233
                have hv233_0 := hcc233 0 _ rfl
                rw [Nat.add_zero, show ((Kd.slice 5 (Kd.int .u8))).sz = 1 from rfl, Nat.mul_one] at hv233_0
                replace hv233_0 := Option.some.inj (hv233_0.symm.trans hx233_0)
                injection hv233_0 with hva_ hvn_ hvc_
                rw [hva_] at ge233_0
                rw [hvc_] at ul233_0
                have HL233_0 := Aside0.mk (show Kd.V (Kd.int .u8) 5 _ w.heap.size _ _ (rd_L1 x5_1 x6_1) from Kd.V_mk ul233_0 ge233_0)
                clear hva_ hvn_ hvc_ ge233_0 ul233_0
                clear hcc233 hce233
                have HR233_0 := Aside0.mk hi233_0
                have HC233_0 := Aside0.mk hl233_0
                clear hi233_0 hl233_0
                replace p233 := eq_true p233
                replace q233 := eq_true q233
                go_wp2_with (first | ((with_reducible refine gate_callee (f := 27) rfl ?_); refine goesL_ (some 21) rfl rfl Try.func27 (by kernel_rfl) rfl #[.slice A233_0 (rd_L1 x5_1 x6_1).length c233_0] rfl (by (try simp only [List.map_toArray, List.map_cons, List.map_nil]); first | done | rfl | (simp only [List.length_drop, List.length_take]; rfl)) ?_; (with_reducible refine (kimberliteref07_Mix.calls k1 _ _ (rd_L1 x5_1 x6_1) t234 _ ?side1 ?side2 A11.out).mono ?_); (case side1 => repeat (first | exact (by repeat (first | (with_reducible exact HR233_0.out) | (with_reducible refine Kd.C_alloc ?_ _) | (with_reducible refine Kd.C_drewN ?_ _) | (with_reducible refine Kd.C_drew ?_) | exact HR233_0.out)) | (with_reducible refine Kd.C_alloc ?_ _) | (with_reducible refine Kd.C_drewN ?_ _) | (with_reducible refine Kd.C_drew ?_))); (case side2 => exact HC233_0.out); rintro e w' ⟨rfl, ⟨nd, rfl⟩⟩; refine ⟨_, rfl, ?_⟩; have p235 : 0 ≤ (x6_1 : Int) := of_decide_eq_true (by first | (with_reducible assumption) | assumption); have q235 : x6_1 < (l1.length : Int) := of_decide_eq_true (by first | (with_reducible assumption) | assumption); obtain ⟨ad235, e235, hx235_0, hx235_1⟩ := at_T54 HR1.out x6_1 p235 q235; (try rw [← Nbq12.out] at hx235_1); cases e235; replace hx235_0 := (HB.out.cell (World.block_lt_of_cell? w _ hx235_0)).trans hx235_0; replace hx235_1 := (HB.out.cell (World.block_lt_of_cell? w _ hx235_1)).trans hx235_1; replace p235 := eq_true p235; replace q235 := eq_true q235; have p243 : 0 ≤ (x6_1 : Int) := of_decide_eq_true (by first | (with_reducible assumption) | assumption); have q243 : x6_1 < (l1.length : Int) := of_decide_eq_true (by first | (with_reducible assumption) | assumption); obtain ⟨ad243, e243, hx243_0, hx243_1⟩ := at_T54 HR1.out x6_1 p243 q243; (try rw [← Nbq12.out] at hx243_1); obtain rfl : ad235 = ad243 := (by injection e243); replace hx243_0 := (HB.out.cell (World.block_lt_of_cell? w _ hx243_0)).trans hx243_0; replace hx243_1 := (HB.out.cell (World.block_lt_of_cell? w _ hx243_1)).trans hx243_1; replace p243 := eq_true p243; replace q243 := eq_true q243) | ((with_reducible refine gate_callee (f := 62) rfl ?_); refine goesL_ (some 44) rfl rfl Try.func62 (by kernel_rfl) rfl #[.int .u64 t234, .int .u64 ((rd_T54 l1 x6_1).f0)] rfl (by (try simp only [List.map_toArray, List.map_cons, List.map_nil]); first | done | rfl | (simp only [List.length_drop, List.length_take]; rfl)) ?_; (with_reducible refine (kimberliteref07_NodeBytes.calls k1 t234 ((rd_T54 l1 x6_1).f0) t244 _ A20.out).mono ?_); rintro e w23 ⟨v245, rfl, ho0, hb⟩; refine ⟨_, rfl, ?_⟩; have n0_ := Aside0.mk (Kd.N_elder' (by (with_reducible repeat (first | apply Kd.N_alloc | apply Kd.N_drewN | apply Kd.N_drew)); exact HO_5.out) (Kd.R_base ho0) hb); have n1_ := Aside0.mk (Kd.V_elder' (by (with_reducible repeat (first | apply Kd.V_alloc | apply Kd.V_drewN | apply Kd.V_drew)); exact HL233_0.out) (Kd.R_base ho0) hb); have n2_ := Aside0.mk (Kd.R_lower (Kd.R_newM (M := fun k_ => (w.heap.size ≤ k_)) ho0 (below_size (by repeat (first | (with_reducible first | exact HB.out | apply below_alloc | apply pw_below_drewN | apply below_drew1) | exact HB.out))) (fun k_ h_ => h_)) (below_size (by repeat (first | (with_reducible first | exact HB.out | apply below_alloc | apply pw_below_drewN | apply below_drew1) | exact HB.out)))); have n3_ := Aside0.mk (Kd.C_below (by repeat (first | (with_reducible exact HR233_0.out) | (with_reducible refine Kd.C_alloc ?_ _) | (with_reducible refine Kd.C_drewN ?_ _) | (with_reducible refine Kd.C_drew ?_) | exact HR233_0.out)) hb); have n4_ := Aside0.mk (below_step (by repeat (first | (with_reducible first | exact HB.out | apply below_alloc | apply pw_below_drewN | apply below_drew1) | exact HB.out)) hb); clear HO_5; clear HL233_0; clear HR233_0; clear HB; have HO_5 := n0_; have HL233_0 := n1_; have HO246 := n2_; have HR233_0 := n3_; have HB := n4_; clear n0_ n1_ n2_ n3_ n4_; (try clear hb); (try clear hb2); (try clear hk); (try clear hi); (try clear ho0); obtain ⟨Ao25, co25, eo25⟩ := Kd.R_slice HO246.out; subst eo25) | ((with_reducible refine gate_builtin (b := .append) (xs := #[.tmp 37, .tmp 45]) rfl ?_); at_builtin; refine Kd.N_append (Kd.slice 5 (Kd.int .u8)) (w0 := w) w.heap.size rfl (.tmp 37) (.tmp 45) 39 22 (.slice none 0 0) 24 rfl Try.underlying39 info22 rfl (by decide) (by omega) (.slice (some ad233) x5_1.length co22) x5_1 t244 [.slice Ao25 t244.length co25] (fun k_ => (w.heap.size ≤ k_)) (fun k_ => ((fun k_ => (w.heap.size ≤ k_))) k_ ∧ some k_ ≠ (.slice (some ad233) x5_1.length co22 : Value).ownBlock) rfl rfl ?aP (fun _ hk => hk) ?aF ?aO ?aB ?aS ?aL ?_; (case aP => exact (Kd.FK_slice_mk (Kd.R_reads' (Kd.R_mono (ok' := (fun k_ => ((fun k_ => (w.heap.size ≤ k_))) k_ ∧ some k_ ≠ (.slice (some ad233) x5_1.length co22 : Value).ownBlock)) (Kd.R_apart' (HO246.out) (Kd.N_typed HO_5.out) (by decide)) (fun k_ hk => ⟨hk.1.1, hk.2⟩))).2.1 (Kd.R_F (Kd.R_mono (ok' := (fun k_ => ((fun k_ => (w.heap.size ≤ k_))) k_ ∧ some k_ ≠ (.slice (some ad233) x5_1.length co22 : Value).ownBlock)) (Kd.R_apart' (HO246.out) (Kd.N_typed HO_5.out) (by decide)) (fun k_ hk => ⟨hk.1.1, hk.2⟩))))); (case aB => exact (by repeat (first | (with_reducible first | exact HB.out | apply below_alloc | apply pw_below_drewN | apply below_drew1) | exact HB.out))); (case aF => exact (fun k_ hk => (Nat.le_trans (below_size (by repeat (first | (with_reducible first | exact HB.out | apply below_alloc | apply pw_below_drewN | apply below_drew1) | exact HB.out))) hk))); (case aO => exact (by (with_reducible repeat (first | apply Kd.N_alloc | apply Kd.N_drewN | apply Kd.N_drew)); exact Kd.N_mono HO_5.out (fun _ hk => hk.1))); (case aS => exact (below_size (by repeat (first | (with_reducible first | exact HB.out | apply below_alloc | apply pw_below_drewN | apply below_drew1) | exact HB.out)))); (case aL => have := LMc21.out; omega); intro v248 w24 ho hb hg hat; rw [← Ny247.out] at ho; have n0_ := Aside0.mk (Kd.V_afterv (ok := (fun k_ => (w.heap.size ≤ k_) ∧ some k_ ≠ (.slice Ao25 t244.length co25 : Value).ownBlock)) (by (with_reducible repeat (first | apply Kd.V_alloc | apply Kd.V_drewN | apply Kd.V_drew)); exact Kd.V_mono HL233_0.out (fun _ hk => ⟨⟨hk.1.1, hk.2⟩, hk.1.2⟩)) hg hat); have n1_ := Aside0.mk (hb); have n2_ := Aside0.mk (ho); clear HL233_0; clear HB; clear HO_5; clear HO246; have HL233_0 := n0_; have HB := n1_; have HO249 := n2_; clear n0_ n1_ n2_; clear ho hb hg hat))
                go_roundg k1
                case measure => have := HK1.out; omega
                case rel => exact ⟨(y247), (wrap64 (x6_1 + 1)), (by first | rfl | (simp; done) | (simp [*]; done)), H', ⟨by have := HK1.out; omega⟩, ⟨by (with_reducible repeat (first | apply Kd.N_alloc | apply Kd.N_drewN | apply Kd.N_drew)); exact HO249.out⟩, ⟨by repeat (first | (with_reducible first | exact HB.out | apply below_alloc | apply pw_below_drewN | apply below_drew1) | exact HB.out)⟩⟩
              · rw [if_neg c21] at H
                exact absurd H (by simp)
          · rw [if_neg c10] at H
            exact absurd H (by simp)
        · rw [if_neg c9] at H
          exact absurd H (by simp)
      · rw [if_neg c8] at H
        have c8b0 : decide (x6_1 < (l1.length : Int)) = false := decide_eq_false c8
        clear c8
        obtain rfl := Option.some.inj H
        go_wp2
        go_ret
        exact ⟨_, by first | rfl | (simp [errW_none, errW_some] <;> rfl) | (simp [*, errW_none, errW_some] <;> rfl), by (with_reducible repeat (first | apply Kd.N_alloc | apply Kd.N_drewN | apply Kd.N_drew)); exact HO_5.out, by repeat (first | (with_reducible first | exact HB.out | apply below_alloc | apply pw_below_drewN | apply below_drew1) | exact HB.out)⟩
def kimberliteref07_Follow.f (k : Nat) (l0 : List Int) (l1 : List (S54)) : Option (Int) := (kimberliteref07_Levels.f k l0 l1).bind fun t250 => (if 0 ≤ (wrap64 ((t250.length : Int) - 1)) then (if (wrap64 ((t250.length : Int) - 1)) < (t250.length : Int) then ((kimberliteref07_Mix.f k (rd_L1 t250 (wrap64 ((t250.length : Int) - 1)))).bind fun t254 => (some t254)) else (none)) else (none))
theorem kimberliteref07_Follow.mono : ∀ a0 a1 k, LeO (kimberliteref07_Follow.f k a0 a1) (kimberliteref07_Follow.f (k + 1) a0 a1) := by
  intro a0 a1 k
  unfold kimberliteref07_Follow.f
  repeat' first
      | (with_reducible exact kimberliteref07_Levels.mono _ _ _)
      | (with_reducible exact kimberliteref07_Mix.mono _ _)
      | (with_reducible exact LeO.refl _)
      | (with_reducible exact LeO.none _)
      | (with_reducible refine LeO.ite ?_ ?_)
      | (with_reducible refine LeO.bind ?_ (fun _ => ?_))
      | exact kimberliteref07_Levels.mono _ _ _
      | exact kimberliteref07_Mix.mono _ _
      | exact LeO.none _
      | refine LeO.ite ?_ ?_
      | refine LeO.bind ?_ (fun _ => ?_)
set_option maxHeartbeats 8000000 in
set_option maxRecDepth 100000 in
theorem kimberliteref07_Follow.calls (k : Nat) (A0 : Option Addr) (c0 : Nat) (l0 : List Int) (A1 : Option Addr) (c1 : Nat) (l1 : List (S54)) (r : Int) (w : World) (hr0 : Kd.C (Kd.int .u8) w A0 l0.length l0) (hc0 : l0.length ≤ c0) (hr1 : Kd.C k54 w A1 l1.length l1) (hc1 : l1.length ≤ c1) (h : kimberliteref07_Follow.f k l0 l1 = some r) :
    Calls Try.prog 33 #[.slice A0 l0.length c0, .slice A1 l1.length c1] w fun e w' => e = .returned (.int .u64 r) ∧ Below w.heap.size w w' := by
  have HR0 := Aside0.mk hr0
  have HC0 := Aside0.mk hc0
  clear hr0 hc0
  have HR1 := Aside0.mk hr1
  have HC1 := Aside0.mk hc1
  clear hr1 hc1
  have HB := Aside0.mk (Below.refl w.heap.size w)
  have H : ((kimberliteref07_Levels.f k l0 l1).bind fun t250 => (if 0 ≤ (wrap64 ((t250.length : Int) - 1)) then (if (wrap64 ((t250.length : Int) - 1)) < (t250.length : Int) then ((kimberliteref07_Mix.f k (rd_L1 t250 (wrap64 ((t250.length : Int) - 1)))).bind fun t254 => (some t254)) else (none)) else (none))) = some r := h
  clear h
  replace H := Option.bind_eq_some_iff.mp H
  obtain ⟨t250, A30, H⟩ := H
  replace H : (if 0 ≤ (wrap64 ((t250.length : Int) - 1)) then (if (wrap64 ((t250.length : Int) - 1)) < (t250.length : Int) then ((kimberliteref07_Mix.f k (rd_L1 t250 (wrap64 ((t250.length : Int) - 1)))).bind fun t254 => (some t254)) else (none)) else (none)) = some r := H
  have A3 := Aside0.mk A30
  clear A30
  obtain ⟨ji4, hji4⟩ : ∃ j_ : Int, (wrap64 ((t250.length : Int) - 1)) = j_ := ⟨_, rfl⟩
  replace H : (if 0 ≤ (ji4) then (if (ji4) < (t250.length : Int) then ((kimberliteref07_Mix.f k (rd_L1 t250 (ji4))).bind fun t254 => (some t254)) else (none)) else (none)) = some r := by first | (rw [hji4] at H; exact H) | (simp only [hji4] at H ⊢; exact H)
  (try rw [hji4] at A3)
  have hji4w : (IntKind.i64.wrap ((t250.length : Int) - 1)) = ji4 := (i64_w _).trans hji4
  by_cases c5 : 0 ≤ (ji4)
  · rw [if_pos c5] at H
    have c5b0 : decide (0 ≤ (ji4)) = true := decide_eq_true c5
    clear c5
    by_cases c6 : (ji4) < (t250.length : Int)
    · rw [if_pos c6] at H
      have c6b0 : decide ((ji4) < (t250.length : Int)) = true := decide_eq_true c6
      clear c6
      replace H := Option.bind_eq_some_iff.mp H
      obtain ⟨t254, A70, H⟩ := H
      replace H : (some t254) = some r := H
      have A7 := Aside0.mk A70
      clear A70
      obtain rfl := Option.some.inj H
      go_enter Try.func33, Try.ntmps33
      go_wp2_with (first | ((with_reducible refine gate_callee (f := 23) rfl ?_); refine goesL_ (some 8) rfl rfl Try.func23 (by kernel_rfl) rfl #[.slice A0 l0.length c0, .slice A1 l1.length c1] rfl (by (try simp only [List.map_toArray, List.map_cons, List.map_nil]); first | done | rfl | (simp only [List.length_drop, List.length_take]; rfl)) ?_; (with_reducible refine (kimberliteref07_Levels.calls k _ _ l0 _ _ l1 t250 _ ?side1 ?side2 ?side3 ?side4 A3.out).mono ?_); (case side1 => repeat (first | exact HR0.out | (with_reducible refine Kd.C_alloc ?_ _) | (with_reducible refine Kd.C_drewN ?_ _) | (with_reducible refine Kd.C_drew ?_))); (case side2 => exact HC0.out); (case side3 => repeat (first | exact HR1.out | (with_reducible refine Kd.C_alloc ?_ _) | (with_reducible refine Kd.C_drewN ?_ _) | (with_reducible refine Kd.C_drew ?_))); (case side4 => exact HC1.out); rintro e w8 ⟨v251, rfl, ho0, hb⟩; refine ⟨_, rfl, ?_⟩; have n0_ := Aside0.mk (Kd.N_lower (Kd.N_mono (ok' := fun k_ => True) ho0 (fun k_ hk_ => trivial)) (below_size (by repeat (first | (with_reducible first | exact HB.out | apply below_alloc | apply pw_below_drewN | apply below_drew1) | exact HB.out)))); have n1_ := Aside0.mk (below_step (by repeat (first | (with_reducible first | exact HB.out | apply below_alloc | apply pw_below_drewN | apply below_drew1) | exact HB.out)) hb); clear HB; have HO252 := n0_; have HB := n1_; clear n0_ n1_; (try clear hb); (try clear hb2); (try clear hk); (try clear hi); (try clear ho0); obtain ⟨Ao9, co9, eo9⟩ := Kd.N_slice HO252.out; subst eo9; have p253 : 0 ≤ ((ji4) : Int) := of_decide_eq_true (by first | (with_reducible assumption) | assumption); have q253 : (ji4) < (t250.length : Int) := of_decide_eq_true (by first | (with_reducible assumption) | assumption); obtain ⟨ad253, A253_0, c253_0, e253, hx253_0, hl253_0, hi253_0⟩ := at_L1 (Kd.N_reads' HO252.out).2.2 (ji4) p253 q253; cases e253; obtain ⟨ce253, hce253, hMe253, hcc253⟩ := Kd.N_get HO252.out [] (ji4) p253 (by first | exact q253 | exact of_decide_eq_true (by first | (with_reducible assumption) | assumption) | (have e_ := (Kd.N_reads' HO252.out).1; omega)); obtain ⟨ua253_0, uc253_0, rfl, ul253_0, ge253_0⟩ := Kd.FK_slice_open hMe253; have hv253_0 := hcc253 0 _ rfl; rw [Nat.add_zero, show ((Kd.slice 5 (Kd.int .u8))).sz = 1 from rfl, Nat.mul_one] at hv253_0; replace hv253_0 := Option.some.inj (hv253_0.symm.trans hx253_0); injection hv253_0 with hva_ hvn_ hvc_; rw [hva_] at ge253_0; rw [hvc_] at ul253_0; have HL253_0 := Aside0.mk (show Kd.V (Kd.int .u8) 5 _ w.heap.size _ _ (rd_L1 t250 (ji4)) from Kd.V_mk ul253_0 ge253_0); clear hva_ hvn_ hvc_ ge253_0 ul253_0; clear hcc253 hce253; have HR253_0 := Aside0.mk hi253_0; have HC253_0 := Aside0.mk hl253_0; clear hi253_0 hl253_0; replace p253 := eq_true p253; replace q253 := eq_true q253) | ((with_reducible refine gate_callee (f := 27) rfl ?_); refine goesL_ (some 15) rfl rfl Try.func27 (by kernel_rfl) rfl #[.slice A253_0 (rd_L1 t250 (ji4)).length c253_0] rfl (by (try simp only [List.map_toArray, List.map_cons, List.map_nil]); first | done | (simp only [hji4]; rfl) | rfl | (simp only [List.length_drop, List.length_take]; rfl)) ?_; (with_reducible refine (kimberliteref07_Mix.calls k _ _ (rd_L1 t250 (ji4)) t254 _ ?side1 ?side2 A7.out).mono ?_); (case side1 => repeat (first | exact (by repeat (first | (with_reducible exact HR253_0.out) | (with_reducible refine Kd.C_alloc ?_ _) | (with_reducible refine Kd.C_drewN ?_ _) | (with_reducible refine Kd.C_drew ?_) | exact HR253_0.out)) | (with_reducible refine Kd.C_alloc ?_ _) | (with_reducible refine Kd.C_drewN ?_ _) | (with_reducible refine Kd.C_drew ?_))); (case side2 => exact HC253_0.out); rintro e w' ⟨rfl, ⟨nd, rfl⟩⟩; refine ⟨_, rfl, ?_⟩))
      go_ret
      exact ⟨by first | rfl | (simp [errW_none, errW_some] <;> rfl) | (simp only [← hji4]; first | rfl | (simp [errW_none, errW_some] <;> rfl)) | (simp [*, errW_none, errW_some] <;> rfl), by repeat (first | (with_reducible first | exact HB.out | apply below_alloc | apply pw_below_drewN | apply below_drew1) | exact HB.out)⟩
    · rw [if_neg c6] at H
      exact absurd H (by simp)
  · rw [if_neg c5] at H
    exact absurd H (by simp)
def kimberliteref07_place.f (a0 : Int) (a1 : Int) : Option (Bool) := if a1 ≥ 1 then (if a1 ≤ 4096 then (if a0 ≥ 0 then (some (decide (a0 < a1))) else (some false)) else (some false)) else (some false)
set_option maxHeartbeats 8000000 in
set_option maxRecDepth 100000 in
theorem kimberliteref07_place.calls (a0 : Int) (a1 : Int) (r : Bool) (w : World) (h : kimberliteref07_place.f a0 a1 = some r) :
    Calls Try.prog 58 #[.int .i64 a0, .int .i64 a1] w fun e w' => e = .returned (.bool r) ∧ Drawn0 w w' := by
  have H : (if a1 ≥ 1 then (if a1 ≤ 4096 then (if a0 ≥ 0 then (some (decide (a0 < a1))) else (some false)) else (some false)) else (some false)) = some r := h
  clear h
  by_cases c3 : a1 ≥ 1
  · rw [if_pos c3] at H
    have c3b0 : decide (1 ≤ a1) = true := decide_eq_true c3
    clear c3
    by_cases c4 : a1 ≤ 4096
    · rw [if_pos c4] at H
      have c4b0 : decide (a1 ≤ 4096) = true := decide_eq_true c4
      clear c4
      by_cases c5 : a0 ≥ 0
      · rw [if_pos c5] at H
        have c5b0 : decide (0 ≤ a0) = true := decide_eq_true c5
        clear c5
        obtain rfl := Option.some.inj H
        go_enter Try.func58, Try.ntmps58
        go_wp2
        go_ret
        exact ⟨by first | rfl | (simp; done) | (simp [*]; done), by repeat (first | exact Drawn0.refl _ | apply Drawn0.step)⟩
      · rw [if_neg c5] at H
        have c5b0 : decide (0 ≤ a0) = false := decide_eq_false c5
        clear c5
        obtain rfl := Option.some.inj H
        go_enter Try.func58, Try.ntmps58
        go_wp2
        go_ret
        exact ⟨by first | rfl | (simp; done) | (simp [*]; done), by repeat (first | exact Drawn0.refl _ | apply Drawn0.step)⟩
    · rw [if_neg c4] at H
      have c4b0 : decide (a1 ≤ 4096) = false := decide_eq_false c4
      clear c4
      obtain rfl := Option.some.inj H
      go_enter Try.func58, Try.ntmps58
      go_wp2
      go_ret
      exact ⟨by first | rfl | (simp; done) | (simp [*]; done), by repeat (first | exact Drawn0.refl _ | apply Drawn0.step)⟩
  · rw [if_neg c3] at H
    have c3b0 : decide (1 ≤ a1) = false := decide_eq_false c3
    clear c3
    obtain rfl := Option.some.inj H
    go_enter Try.func58, Try.ntmps58
    go_wp2
    go_ret
    exact ⟨by first | rfl | (simp; done) | (simp [*]; done), by repeat (first | exact Drawn0.refl _ | apply Drawn0.step)⟩
def kimberliteref07_same.f (l0 : List Int) (l1 : List Int) : Option (Bool) := some ((strOfNums l0).toList == (strOfNums l1).toList)
set_option maxHeartbeats 8000000 in
set_option maxRecDepth 100000 in
theorem kimberliteref07_same.calls (A0 : Option Addr) (c0 : Nat) (l0 : List Int) (A1 : Option Addr) (c1 : Nat) (l1 : List Int) (r : Bool) (w : World) (hr0 : Kd.C (Kd.int .u8) w A0 l0.length l0) (hc0 : l0.length ≤ c0) (hr1 : Kd.C (Kd.int .u8) w A1 l1.length l1) (hc1 : l1.length ≤ c1) (h : kimberliteref07_same.f l0 l1 = some r) :
    Calls Try.prog 59 #[.slice A0 l0.length c0, .slice A1 l1.length c1] w fun e w' => e = .returned (.bool r) ∧ Drawn0 w w' := by
  have HR0 := Aside0.mk hr0
  have HC0 := Aside0.mk hc0
  clear hr0 hc0
  have HR1 := Aside0.mk hr1
  have HC1 := Aside0.mk hc1
  clear hr1 hc1
  have H : (some ((strOfNums l0).toList == (strOfNums l1).toList)) = some r := h
  clear h
  obtain rfl := Option.some.inj H
  have hcv3 := Kd.C_string (P := Try.prog) (A := A0) (c := c0) Try.underlying22 Try.underlying5 Try.underlying9 HR0.out
  have hcv3n := fun n_ => Kd.C_string (P := Try.prog) (A := A0) (c := c0) Try.underlying22 Try.underlying5 Try.underlying9 (Kd.C_drewN HR0.out n_)
  have hcv4 := Kd.C_string (P := Try.prog) (A := A1) (c := c1) Try.underlying22 Try.underlying5 Try.underlying9 HR1.out
  have hcv4n := fun n_ => Kd.C_string (P := Try.prog) (A := A1) (c := c1) Try.underlying22 Try.underlying5 Try.underlying9 (Kd.C_drewN HR1.out n_)
  go_enter Try.func59, Try.ntmps59
  go_wp2
  go_ret
  exact ⟨by first | rfl | (simp; done) | (simp [*]; done), by repeat (first | exact Drawn0.refl _ | apply Drawn0.step)⟩
def kimberliteref07_half.l0 : Nat → Int → Int → Option (Int)
  | 0, _, _ => none
  | k + 1, x0, x3 => if (wrap64 (2 * x3)) < x0 then (kimberliteref07_half.l0 k x0 (wrap64 (2 * x3))) else (some x3)
def kimberliteref07_half.f (k : Nat) (a0 : Int) : Option (Int) := kimberliteref07_half.l0 k a0 1
theorem kimberliteref07_half.mono_l : ∀ k, (∀ y0 y1, LeO (kimberliteref07_half.l0 k y0 y1) (kimberliteref07_half.l0 (k + 1) y0 y1))
  | 0 => fun _ _ r h => by simp [kimberliteref07_half.l0] at h
  | k + 1 => by
    have ih0 := kimberliteref07_half.mono_l k
    · intro y0 y1
      unfold kimberliteref07_half.l0
      repeat' first
      | (with_reducible exact ih0 _ _)
      | (with_reducible exact LeO.refl _)
      | (with_reducible exact LeO.none _)
      | (with_reducible refine LeO.ite ?_ ?_)
      | (with_reducible refine LeO.bind ?_ (fun _ => ?_))
      | exact ih0 _ _
      | exact LeO.none _
      | refine LeO.ite ?_ ?_
      | refine LeO.bind ?_ (fun _ => ?_)
theorem kimberliteref07_half.mono : ∀ a0 k, LeO (kimberliteref07_half.f k a0) (kimberliteref07_half.f (k + 1) a0) := by
  intro a0 k
  have ih0 := kimberliteref07_half.mono_l k
  unfold kimberliteref07_half.f
  repeat' first
      | (with_reducible exact ih0 _ _)
      | (with_reducible exact LeO.refl _)
      | (with_reducible exact LeO.none _)
      | (with_reducible refine LeO.ite ?_ ?_)
      | (with_reducible refine LeO.bind ?_ (fun _ => ?_))
      | exact ih0 _ _
      | exact LeO.none _
      | refine LeO.ite ?_ ?_
      | refine LeO.bind ?_ (fun _ => ?_)
set_option maxHeartbeats 8000000 in
set_option maxRecDepth 100000 in
theorem kimberliteref07_half.calls (k : Nat) (a0 : Int) (r : Int) (w : World) (h : kimberliteref07_half.f k a0 = some r) :
    Calls Try.prog 87 #[.int .i64 a0] w fun e w' => e = .returned (.int .i64 r) ∧ Drawn0 w w' := by
  have H : (kimberliteref07_half.l0 k a0 1) = some r := h
  clear h
  have H' := Aside0.mk H
  clear H
  go_enter Try.func87, Try.ntmps87
  go_wp2
  go_loopg [3] k (fun kq v3 w' => ∃ (x3_1 : Int), v3 = .int .i64 x3_1 ∧ Aside0 (kimberliteref07_half.l0 kq a0 x3_1 = some r) ∧ Aside0 (kq ≤ k) ∧ Drawn0 w w')
  case atStart => exact ⟨(1), (by first | rfl | (simp; done) | (simp [*]; done)), H', ⟨Nat.le_refl _⟩, by repeat (first | exact Drawn0.refl _ | apply Drawn0.step)⟩
  case round =>
    clear H'
    obtain ⟨x3_1, rfl, HA, HK1, ⟨m1, rfl⟩⟩ := hrel
    cases gk with
    | zero => exact absurd HA.out (by simp [kimberliteref07_half.l0])
    | succ k1 =>
      have H := HA.out
      clear HA
      simp only [kimberliteref07_half.l0] at H
      by_cases c2 : (wrap64 (2 * x3_1)) < a0
      · rw [if_pos c2] at H
        have c2b0 : decide ((wrap64 (2 * x3_1)) < a0) = true := decide_eq_true c2
        clear c2
        have H' := Aside0.mk H
        clear H
        go_wp2
        go_roundg k1
        case measure => have := HK1.out; omega
        case rel => exact ⟨(wrap64 (2 * x3_1)), (by first | rfl | (simp; done) | (simp [*]; done)), H', ⟨by have := HK1.out; omega⟩, by repeat (first | exact Drawn0.refl _ | apply Drawn0.step)⟩
      · rw [if_neg c2] at H
        have c2b0 : decide ((wrap64 (2 * x3_1)) < a0) = false := decide_eq_false c2
        clear c2
        obtain rfl := Option.some.inj H
        go_wp2
        go_ret
        exact ⟨by first | rfl | (simp; done) | (simp [*]; done), by repeat (first | exact Drawn0.refl _ | apply Drawn0.step)⟩
def kimberliteref07_Lefts.f : Nat → Int → Int → Option (List Bool)
  | 0, _, _ => none
  | k + 1, a0, a1 => if a1 < 2 then (some ([] : List Bool)) else ((kimberliteref07_half.f k a1).bind fun t255 => (if a0 < t255 then ((kimberliteref07_Lefts.f k a0 t255).bind fun t256 => (if t256.length < 140737488355328 then (some (t256 ++ [false])) else (none))) else ((kimberliteref07_Lefts.f k (wrap64 (a0 - t255)) (wrap64 (a1 - t255))).bind fun t262 => (if t262.length < 140737488355328 then (some (t262 ++ [true])) else (none)))))
theorem kimberliteref07_Lefts.mono_l : ∀ k, (∀ y0 y1, LeO (kimberliteref07_Lefts.f k y0 y1) (kimberliteref07_Lefts.f (k + 1) y0 y1))
  | 0 => fun _ _ r h => by simp [kimberliteref07_Lefts.f] at h
  | k + 1 => by
    have ih0 := kimberliteref07_Lefts.mono_l k
    · intro y0 y1
      unfold kimberliteref07_Lefts.f
      repeat' first
      | (with_reducible exact ih0 _ _)
      | (with_reducible exact kimberliteref07_half.mono _ _)
      | (with_reducible exact LeO.refl _)
      | (with_reducible exact LeO.none _)
      | (with_reducible refine LeO.ite ?_ ?_)
      | (with_reducible refine LeO.bind ?_ (fun _ => ?_))
      | exact ih0 _ _
      | exact kimberliteref07_half.mono _ _
      | exact LeO.none _
      | refine LeO.ite ?_ ?_
      | refine LeO.bind ?_ (fun _ => ?_)
theorem kimberliteref07_Lefts.mono : ∀ a0 a1 k, LeO (kimberliteref07_Lefts.f k a0 a1) (kimberliteref07_Lefts.f (k + 1) a0 a1) := by
  intro a0 a1 k
  have ih0 := kimberliteref07_Lefts.mono_l k
  exact ih0 a0 a1
set_option maxHeartbeats 8000000 in
set_option maxRecDepth 100000 in
theorem kimberliteref07_Lefts.calls (k : Nat) : ∀ (a0 : Int) (a1 : Int) (r : List Bool) (w : World) (h : kimberliteref07_Lefts.f k a0 a1 = some r),
    Calls Try.prog 84 #[.int .i64 a0, .int .i64 a1] w fun e w' => ∃ v0_ : Value, e = .returned (v0_) ∧ Kd.R Kd.bool 4 w' w.heap.size (fun _ => True) v0_ r ∧ Below w.heap.size w w' := by
  induction k using Nat.strongRecOn with
  | _ k ih =>
  intro a0 a1 r w h
  cases k with
  | zero => exact absurd h (by simp [kimberliteref07_Lefts.f])
  | succ k =>
  simp only [kimberliteref07_Lefts.f] at h
  have HB := Aside0.mk (Below.refl w.heap.size w)
  have H : (if a1 < 2 then (some ([] : List Bool)) else ((kimberliteref07_half.f k a1).bind fun t255 => (if a0 < t255 then ((kimberliteref07_Lefts.f k a0 t255).bind fun t256 => (if t256.length < 140737488355328 then (some (t256 ++ [false])) else (none))) else ((kimberliteref07_Lefts.f k (wrap64 (a0 - t255)) (wrap64 (a1 - t255))).bind fun t262 => (if t262.length < 140737488355328 then (some (t262 ++ [true])) else (none)))))) = some r := h
  clear h
  by_cases c3 : a1 < 2
  · rw [if_pos c3] at H
    have c3b0 : decide (a1 < 2) = true := decide_eq_true c3
    clear c3
    obtain rfl := Option.some.inj H
    go_enter Try.func84, Try.ntmps84
    go_wp2
    go_ret
    exact ⟨_, by first | rfl | (simp [errW_none, errW_some] <;> rfl) | (simp [*, errW_none, errW_some] <;> rfl), by first | exact Kd.R_nil _ _ _ _ _ | exact Kd.N_nil _ _ _ _ _ | exact Kd.V_nil _ _ _ _ _ | exact Kd.Q_nil _ _ _ _ _ | exact Kd.S_nil _ _ _ _ _, by repeat (first | (with_reducible first | exact HB.out | apply below_alloc | apply pw_below_drewN | apply below_drew1) | exact HB.out)⟩
  · rw [if_neg c3] at H
    have c3b0 : decide (a1 < 2) = false := decide_eq_false c3
    clear c3
    replace H := Option.bind_eq_some_iff.mp H
    obtain ⟨t255, A40, H⟩ := H
    replace H : (if a0 < t255 then ((kimberliteref07_Lefts.f k a0 t255).bind fun t256 => (if t256.length < 140737488355328 then (some (t256 ++ [false])) else (none))) else ((kimberliteref07_Lefts.f k (wrap64 (a0 - t255)) (wrap64 (a1 - t255))).bind fun t262 => (if t262.length < 140737488355328 then (some (t262 ++ [true])) else (none)))) = some r := H
    have A4 := Aside0.mk A40
    clear A40
    by_cases c5 : a0 < t255
    · rw [if_pos c5] at H
      have c5b0 : decide (a0 < t255) = true := decide_eq_true c5
      clear c5
      replace H := Option.bind_eq_some_iff.mp H
      obtain ⟨t256, A60, H⟩ := H
      replace H : (if t256.length < 140737488355328 then (some (t256 ++ [false])) else (none)) = some r := H
      have A6 := Aside0.mk A60
      clear A60
      by_cases c7 : t256.length < 140737488355328
      · rw [if_pos c7] at H
        have LMc7 := Aside0.mk c7
        clear c7
        obtain ⟨y259, hy259⟩ : ∃ y_ : List Bool, y_ = (t256 ++ [false]) := ⟨_, rfl⟩
        replace H : (some y259) = some r := by first | (rw [hy259]; with_reducible exact H) | (have H2_ := (Option.bind_some _ _).symm.trans H; rw [hy259]; with_reducible exact H2_) | (have H2_ := (Option.bind_some _ _).symm.trans H; with_reducible exact H2_) | with_reducible exact H | (rw [hy259]; exact H) | exact H
        have Ny259 := Aside0.mk hy259
        clear hy259
        obtain rfl := Option.some.inj H
        go_enter Try.func84, Try.ntmps84
        go_wp2_with (first | ((with_reducible refine gate_callee (f := 87) rfl ?_); refine goesL_ (some 9) rfl rfl Try.func87 (by kernel_rfl) rfl #[.int .i64 a1] rfl (by (try simp only [List.map_toArray, List.map_cons, List.map_nil]); first | done | rfl | (simp only [List.length_drop, List.length_take]; rfl)) ?_; (with_reducible refine (kimberliteref07_half.calls k a1 t255 _ A4.out).mono ?_); rintro e w' ⟨rfl, ⟨nd, rfl⟩⟩; refine ⟨_, rfl, ?_⟩) | ((with_reducible refine gate_callee (f := 84) rfl ?_); refine goesL_ (some 15) rfl rfl Try.func84 (by kernel_rfl) rfl #[.int .i64 a0, .int .i64 t255] rfl (by (try simp only [List.map_toArray, List.map_cons, List.map_nil]); first | done | rfl | (simp only [List.length_drop, List.length_take]; rfl)) ?_; (with_reducible refine (ih k (by omega) a0 t255 t256 _ A6.out).mono ?_); rintro e w8 ⟨v257, rfl, ho0, hb⟩; refine ⟨_, rfl, ?_⟩; have n0_ := Aside0.mk (Kd.R_lower ho0 (below_size (by repeat (first | (with_reducible first | exact HB.out | apply below_alloc | apply pw_below_drewN | apply below_drew1) | exact HB.out)))); have n1_ := Aside0.mk (below_step (by repeat (first | (with_reducible first | exact HB.out | apply below_alloc | apply pw_below_drewN | apply below_drew1) | exact HB.out)) hb); clear HB; have HO258 := n0_; have HB := n1_; clear n0_ n1_; (try clear hb); (try clear hb2); (try clear hk); (try clear hi); (try clear ho0)) | ((with_reducible refine gate_builtin (b := .append) (xs := #[.tmp 15, .tmp 16]) rfl ?_); at_builtin; refine Kd.R_append Kd.bool (w0 := w) w.heap.size rfl (.tmp 15) (.tmp 16) 110 4 (.bool false) 1 rfl Try.underlying110 info4 rfl (by decide) (by omega) v257 t256 false [.bool false] (fun _ => True) (fun _ => False) rfl rfl ?aP (fun _ hk => hk.elim) ?aF ?aO ?aB ?aS ?aL ?_; (case aP => exact rfl); (case aB => exact (by repeat (first | (with_reducible first | exact HB.out | apply below_alloc | apply pw_below_drewN | apply below_drew1) | exact HB.out))); (case aF => exact (fun _ _ => trivial)); (case aO => exact (by (with_reducible repeat (first | apply Kd.R_alloc | apply Kd.R_drewN | apply Kd.R_drew)); exact HO258.out)); (case aS => exact (below_size (by repeat (first | (with_reducible first | exact HB.out | apply below_alloc | apply pw_below_drewN | apply below_drew1) | exact HB.out)))); (case aL => have := LMc7.out; omega); intro v260 w9 ho hb hg hat; rw [← Ny259.out] at ho; have n0_ := Aside0.mk (hb); have n1_ := Aside0.mk (ho); clear HB; clear HO258; have HB := n0_; have HO261 := n1_; clear n0_ n1_; clear ho hb hg hat))
        go_ret
        exact ⟨_, by first | rfl | (simp [errW_none, errW_some] <;> rfl) | (simp [*, errW_none, errW_some] <;> rfl), by (with_reducible repeat (first | apply Kd.R_alloc | apply Kd.R_drewN | apply Kd.R_drew)); exact HO261.out, by repeat (first | (with_reducible first | exact HB.out | apply below_alloc | apply pw_below_drewN | apply below_drew1) | exact HB.out)⟩
      · rw [if_neg c7] at H
        exact absurd H (by simp)
    · rw [if_neg c5] at H
      have c5b0 : decide (a0 < t255) = false := decide_eq_false c5
      clear c5
      replace H := Option.bind_eq_some_iff.mp H
      obtain ⟨t262, A100, H⟩ := H
      replace H : (if t262.length < 140737488355328 then (some (t262 ++ [true])) else (none)) = some r := H
      have A10 := Aside0.mk A100
      clear A100
      by_cases c11 : t262.length < 140737488355328
      · rw [if_pos c11] at H
        have LMc11 := Aside0.mk c11
        clear c11
        obtain ⟨y265, hy265⟩ : ∃ y_ : List Bool, y_ = (t262 ++ [true]) := ⟨_, rfl⟩
        replace H : (some y265) = some r := by first | (rw [hy265]; with_reducible exact H) | (have H2_ := (Option.bind_some _ _).symm.trans H; rw [hy265]; with_reducible exact H2_) | (have H2_ := (Option.bind_some _ _).symm.trans H; with_reducible exact H2_) | with_reducible exact H | (rw [hy265]; exact H) | exact H
        have Ny265 := Aside0.mk hy265
        clear hy265
        obtain rfl := Option.some.inj H
        go_enter Try.func84, Try.ntmps84
        go_wp2_with (first | ((with_reducible refine gate_callee (f := 87) rfl ?_); refine goesL_ (some 9) rfl rfl Try.func87 (by kernel_rfl) rfl #[.int .i64 a1] rfl (by (try simp only [List.map_toArray, List.map_cons, List.map_nil]); first | done | rfl | (simp only [List.length_drop, List.length_take]; rfl)) ?_; (with_reducible refine (kimberliteref07_half.calls k a1 t255 _ A4.out).mono ?_); rintro e w' ⟨rfl, ⟨nd, rfl⟩⟩; refine ⟨_, rfl, ?_⟩) | ((with_reducible refine gate_callee (f := 84) rfl ?_); refine goesL_ (some 24) rfl rfl Try.func84 (by kernel_rfl) rfl #[.int .i64 (wrap64 (a0 - t255)), .int .i64 (wrap64 (a1 - t255))] rfl (by (try simp only [List.map_toArray, List.map_cons, List.map_nil]); first | done | rfl | (simp only [List.length_drop, List.length_take]; rfl)) ?_; (with_reducible refine (ih k (by omega) (wrap64 (a0 - t255)) (wrap64 (a1 - t255)) t262 _ A10.out).mono ?_); rintro e w12 ⟨v263, rfl, ho0, hb⟩; refine ⟨_, rfl, ?_⟩; have n0_ := Aside0.mk (Kd.R_lower ho0 (below_size (by repeat (first | (with_reducible first | exact HB.out | apply below_alloc | apply pw_below_drewN | apply below_drew1) | exact HB.out)))); have n1_ := Aside0.mk (below_step (by repeat (first | (with_reducible first | exact HB.out | apply below_alloc | apply pw_below_drewN | apply below_drew1) | exact HB.out)) hb); clear HB; have HO264 := n0_; have HB := n1_; clear n0_ n1_; (try clear hb); (try clear hb2); (try clear hk); (try clear hi); (try clear ho0)) | ((with_reducible refine gate_builtin (b := .append) (xs := #[.tmp 24, .tmp 25]) rfl ?_); at_builtin; refine Kd.R_append Kd.bool (w0 := w) w.heap.size rfl (.tmp 24) (.tmp 25) 110 4 (.bool false) 1 rfl Try.underlying110 info4 rfl (by decide) (by omega) v263 t262 true [.bool true] (fun _ => True) (fun _ => False) rfl rfl ?aP (fun _ hk => hk.elim) ?aF ?aO ?aB ?aS ?aL ?_; (case aP => exact rfl); (case aB => exact (by repeat (first | (with_reducible first | exact HB.out | apply below_alloc | apply pw_below_drewN | apply below_drew1) | exact HB.out))); (case aF => exact (fun _ _ => trivial)); (case aO => exact (by (with_reducible repeat (first | apply Kd.R_alloc | apply Kd.R_drewN | apply Kd.R_drew)); exact HO264.out)); (case aS => exact (below_size (by repeat (first | (with_reducible first | exact HB.out | apply below_alloc | apply pw_below_drewN | apply below_drew1) | exact HB.out)))); (case aL => have := LMc11.out; omega); intro v266 w13 ho hb hg hat; rw [← Ny265.out] at ho; have n0_ := Aside0.mk (hb); have n1_ := Aside0.mk (ho); clear HB; clear HO264; have HB := n0_; have HO267 := n1_; clear n0_ n1_; clear ho hb hg hat))
        go_ret
        exact ⟨_, by first | rfl | (simp [errW_none, errW_some] <;> rfl) | (simp [*, errW_none, errW_some] <;> rfl), by (with_reducible repeat (first | apply Kd.R_alloc | apply Kd.R_drewN | apply Kd.R_drew)); exact HO267.out, by repeat (first | (with_reducible first | exact HB.out | apply below_alloc | apply pw_below_drewN | apply below_drew1) | exact HB.out)⟩
      · rw [if_neg c11] at H
        exact absurd H (by simp)
end Go.Proofs.Ytacjdoekgmmfoaa.PL
end
section
namespace Go.Proofs.Ytacjdoekgmmfoaa.PL
open Go.RowKit Go.Proofs.YtacjdoekgmmfoaaW.PrintWords Go.Proofs.YtacjdoekgmmfoaaW.PrintLast Go.Proofs.YtacjdoekgmmfoaaW.PrintMore
attribute [local go_sem] max2_int min2_int max_two min_two max_three min_three max_four min_four   -- for this text's walks alone
set_option linter.unusedVariables false
set_option linter.unusedSimpArgs false
def kimberliteref07_Top.f : Nat → List (List Int) → Option (Int)
  | 0, _ => none
  | k + 1, l0 => if (l0.length : Int) = 0 then (some 0) else (if (l0.length : Int) = 1 then (if 0 < (l0.length : Int) then ((kimberliteref07_Leaf.f k (rd_L1 l0 0)).bind fun t336 => (some t336)) else (none)) else ((kimberliteref07_half.f k (l0.length : Int)).bind fun t337 => (if 0 ≤ t337 then (if t337 ≤ (l0.length : Int) then ((kimberliteref07_Top.f k (l0.take (t337 : Int).toNat)).bind fun t342 => ((kimberliteref07_Top.f k (l0.drop (t337 : Int).toNat)).bind fun t347 => ((kimberliteref07_Node.f k t342 t347).bind fun t348 => (some t348)))) else (none)) else (none))))
theorem kimberliteref07_Top.mono_l : ∀ k, (∀ y0, LeO (kimberliteref07_Top.f k y0) (kimberliteref07_Top.f (k + 1) y0))
  | 0 => fun _ r h => by simp [kimberliteref07_Top.f] at h
  | k + 1 => by
    have ih0 := kimberliteref07_Top.mono_l k
    · intro y0
      unfold kimberliteref07_Top.f
      repeat' first
      | (with_reducible exact ih0 _)
      | (with_reducible exact kimberliteref07_Leaf.mono _ _)
      | (with_reducible exact kimberliteref07_Node.mono _ _ _)
      | (with_reducible exact kimberliteref07_half.mono _ _)
      | (with_reducible exact LeO.refl _)
      | (with_reducible exact LeO.none _)
      | (with_reducible refine LeO.ite ?_ ?_)
      | (with_reducible refine LeO.bind ?_ (fun _ => ?_))
      | exact ih0 _
      | exact kimberliteref07_Leaf.mono _ _
      | exact kimberliteref07_Node.mono _ _ _
      | exact kimberliteref07_half.mono _ _
      | exact LeO.none _
      | refine LeO.ite ?_ ?_
      | refine LeO.bind ?_ (fun _ => ?_)
theorem kimberliteref07_Top.mono : ∀ a0 k, LeO (kimberliteref07_Top.f k a0) (kimberliteref07_Top.f (k + 1) a0) := by
  intro a0 k
  have ih0 := kimberliteref07_Top.mono_l k
  exact ih0 a0
def kimberliteref07_Top.T7 : Bool × List (List Nat × List Nat) := (true, [([], []), ([], []), ([0, 1], [0, 1]), ([2], [2]), ([], []), ([], []), ([4, 5], [4, 5]), ([6, 3], [6]), ([3, 7, 7], [3, 7]), ([8, 8, 0, 1, 2, 3, 4, 5, 6, 7, 8], [8])])
def kimberliteref07_Top.B7 : List Nat := [0, 0, 3, 7, 0, 0, 48, 127, 255, 511]
theorem kimberliteref07_Top.tab7 : rtab .any (opsOf Try.f66 7) = kimberliteref07_Top.T7 := by kernel_rfl
theorem kimberliteref07_Top.bits7 : waitsOk kimberliteref07_Top.T7.2 kimberliteref07_Top.B7 = true := by kernel_rfl
set_option maxHeartbeats 8000000 in
set_option maxRecDepth 100000 in
theorem kimberliteref07_Top.calls (k : Nat) : ∀ (A0 : Option Addr) (c0 : Nat) (l0 : List (List Int)) (r : Int) (w : World) (hr0 : Kd.C (Kd.slice 5 (Kd.int .u8)) w A0 l0.length l0) (hc0 : l0.length ≤ c0) (h : kimberliteref07_Top.f k l0 = some r),
    Calls Try.prog 66 #[.slice A0 l0.length c0] w fun e w' => e = .returned (.int .u64 r) ∧ Below w.heap.size w w' := by
  induction k using Nat.strongRecOn with
  | _ k ih =>
  intro A0 c0 l0 r w hr0 hc0 h
  cases k with
  | zero => exact absurd h (by simp [kimberliteref07_Top.f])
  | succ k =>
  simp only [kimberliteref07_Top.f] at h
  have HR0 := Aside0.mk hr0
  have HC0 := Aside0.mk hc0
  clear hr0 hc0
  have HB := Aside0.mk (Below.refl w.heap.size w)
  have H : (if (l0.length : Int) = 0 then (some 0) else (if (l0.length : Int) = 1 then (if 0 < (l0.length : Int) then ((kimberliteref07_Leaf.f k (rd_L1 l0 0)).bind fun t336 => (some t336)) else (none)) else ((kimberliteref07_half.f k (l0.length : Int)).bind fun t337 => (if 0 ≤ t337 then (if t337 ≤ (l0.length : Int) then ((kimberliteref07_Top.f k (l0.take (t337 : Int).toNat)).bind fun t342 => ((kimberliteref07_Top.f k (l0.drop (t337 : Int).toNat)).bind fun t347 => ((kimberliteref07_Node.f k t342 t347).bind fun t348 => (some t348)))) else (none)) else (none))))) = some r := h
  clear h
  by_cases c2 : (l0.length : Int) = 0
  · rw [if_pos c2] at H
    have c2b0 : ((l0.length : Int) == 0) = true := beq_iff_eq.mpr c2
    have c2b1 : ((l0.length : Int) != 0) = false := bne_eq_false_iff_eq.mpr c2
    clear c2
    obtain rfl := Option.some.inj H
    go_enter Try.func66, Try.ntmps66
    go_wp2
    go_ret
    exact ⟨by first | rfl | (simp [errW_none, errW_some] <;> rfl) | (simp [*, errW_none, errW_some] <;> rfl), by repeat (first | (with_reducible first | exact HB.out | apply below_alloc | apply pw_below_drewN | apply below_drew1) | exact HB.out)⟩
  · rw [if_neg c2] at H
    have c2b0 : ((l0.length : Int) == 0) = false := beq_eq_false_iff_ne.mpr c2
    have c2b1 : ((l0.length : Int) != 0) = true := bne_iff_ne.mpr c2
    have c2b2 : ¬ (l0 = []) := fun h_ => c2 (by rw [h_]; rfl)
    by_cases c3 : (l0.length : Int) = 1
    · rw [if_pos c3] at H
      have c3b0 : ((l0.length : Int) == 1) = true := beq_iff_eq.mpr c3
      have c3b1 : ((l0.length : Int) != 1) = false := bne_eq_false_iff_eq.mpr c3
      clear c3
      by_cases c4 : 0 < (l0.length : Int)
      · rw [if_pos c4] at H
        have c4b0 : decide (0 < (l0.length : Int)) = true := decide_eq_true c4
        have c4b1 : decide (0 < l0.length) = true := decide_eq_true (by omega)
        clear c4
        replace H := Option.bind_eq_some_iff.mp H
        obtain ⟨t336, A50, H⟩ := H
        replace H : (some t336) = some r := H
        have A5 := Aside0.mk A50
        clear A50
        obtain rfl := Option.some.inj H
        have p335 : 0 ≤ (0 : Int) := (by omega)
        have q335 : 0 < (l0.length : Int) := of_decide_eq_true (by first | (with_reducible assumption) | assumption)
        obtain ⟨ad335, A335_0, c335_0, e335, hx335_0, hl335_0, hi335_0⟩ := at_L1 HR0.out 0 p335 q335
        cases e335
        have qi335 : (0 < l0.length) = True := eq_true (by omega)
        (try rw [show ((0 : Int)).toNat = 0 from rfl] at hx335_0)
        (try rw [Addr.add_zero'] at hx335_0)
        have HR335_0 := Aside0.mk hi335_0
        have HC335_0 := Aside0.mk hl335_0
        clear hi335_0 hl335_0
        replace p335 := eq_true p335
        replace q335 := eq_true q335
        go_enter Try.func66, Try.ntmps66
        go_wp2_with (first | ((with_reducible refine gate_callee (f := 29) rfl ?_); refine goesL_ (some 13) rfl rfl Try.func29 (by kernel_rfl) rfl #[.slice A335_0 (rd_L1 l0 0).length c335_0] rfl (by (try simp only [List.map_toArray, List.map_cons, List.map_nil]); first | done | rfl | (simp only [List.length_drop, List.length_take]; rfl)) ?_; (with_reducible refine (kimberliteref07_Leaf.calls k _ _ (rd_L1 l0 0) t336 _ ?side1 ?side2 A5.out).mono ?_); (case side1 => repeat (first | exact HR335_0.out | (with_reducible refine Kd.C_alloc ?_ _) | (with_reducible refine Kd.C_drewN ?_ _) | (with_reducible refine Kd.C_drew ?_))); (case side2 => exact HC335_0.out); rintro e w6 ⟨rfl, hb⟩; refine ⟨_, rfl, ?_⟩; have n0_ := Aside0.mk (below_step (by repeat (first | (with_reducible first | exact HB.out | apply below_alloc | apply pw_below_drewN | apply below_drew1) | exact HB.out)) hb); clear HB; have HB := n0_; clear n0_; (try clear hb); (try clear hb2); (try clear hk); (try clear hi)))
        go_ret
        exact ⟨by first | rfl | (simp [errW_none, errW_some] <;> rfl) | (simp [*, errW_none, errW_some] <;> rfl), by repeat (first | (with_reducible first | exact HB.out | apply below_alloc | apply pw_below_drewN | apply below_drew1) | exact HB.out)⟩
      · rw [if_neg c4] at H
        exact absurd H (by simp)
    · rw [if_neg c3] at H
      have c3b0 : ((l0.length : Int) == 1) = false := beq_eq_false_iff_ne.mpr c3
      have c3b1 : ((l0.length : Int) != 1) = true := bne_iff_ne.mpr c3
      replace H := Option.bind_eq_some_iff.mp H
      obtain ⟨t337, A70, H⟩ := H
      replace H : (if 0 ≤ t337 then (if t337 ≤ (l0.length : Int) then ((kimberliteref07_Top.f k (l0.take (t337 : Int).toNat)).bind fun t342 => ((kimberliteref07_Top.f k (l0.drop (t337 : Int).toNat)).bind fun t347 => ((kimberliteref07_Node.f k t342 t347).bind fun t348 => (some t348)))) else (none)) else (none)) = some r := H
      have A7 := Aside0.mk A70
      clear A70
      by_cases c8 : 0 ≤ t337
      · rw [if_pos c8] at H
        have c8b0 := eq_true c8
        have c8b1 : decide (0 ≤ t337) = true := decide_eq_true c8
        clear c8
        by_cases c9 : t337 ≤ (l0.length : Int)
        · rw [if_pos c9] at H
          have c9b0 := eq_true c9
          have c9b1 : decide (t337 ≤ (l0.length : Int)) = true := decide_eq_true c9
          clear c9
          obtain ⟨y338, hy338⟩ : ∃ y_ : List (List Int), y_ = (l0.take (t337 : Int).toNat) := ⟨_, rfl⟩
          replace H : ((kimberliteref07_Top.f k y338).bind fun t342 => ((kimberliteref07_Top.f k (l0.drop (t337 : Int).toNat)).bind fun t347 => ((kimberliteref07_Node.f k t342 t347).bind fun t348 => (some t348)))) = some r := by first | (rw [hy338]; with_reducible exact H) | (have H2_ := (Option.bind_some _ _).symm.trans H; rw [hy338]; with_reducible exact H2_) | (have H2_ := (Option.bind_some _ _).symm.trans H; with_reducible exact H2_) | with_reducible exact H | (rw [hy338]; exact H) | exact H
          have Ny338 := Aside0.mk hy338
          clear hy338
          replace H := Option.bind_eq_some_iff.mp H
          obtain ⟨t342, A100, H⟩ := H
          replace H : ((kimberliteref07_Top.f k (l0.drop (t337 : Int).toNat)).bind fun t347 => ((kimberliteref07_Node.f k t342 t347).bind fun t348 => (some t348))) = some r := H
          have A10 := Aside0.mk A100
          clear A100
          have c11b0 := eq_true (of_decide_eq_true (by first | (with_reducible assumption) | assumption) : 0 ≤ t337)
          have c12b0 := eq_true (of_decide_eq_true (by first | (with_reducible assumption) | assumption) : t337 ≤ (l0.length : Int))
          obtain ⟨y343, hy343⟩ : ∃ y_ : List (List Int), y_ = (l0.drop (t337 : Int).toNat) := ⟨_, rfl⟩
          replace H : ((kimberliteref07_Top.f k y343).bind fun t347 => ((kimberliteref07_Node.f k t342 t347).bind fun t348 => (some t348))) = some r := by first | (rw [hy343]; with_reducible exact H) | (have H2_ := (Option.bind_some _ _).symm.trans H; rw [hy343]; with_reducible exact H2_) | (have H2_ := (Option.bind_some _ _).symm.trans H; with_reducible exact H2_) | with_reducible exact H | (rw [hy343]; exact H) | exact H
          have Ny343 := Aside0.mk hy343
          clear hy343
          replace H := Option.bind_eq_some_iff.mp H
          obtain ⟨t347, A130, H⟩ := H
          replace H : ((kimberliteref07_Node.f k t342 t347).bind fun t348 => (some t348)) = some r := H
          have A13 := Aside0.mk A130
          clear A130
          replace H := Option.bind_eq_some_iff.mp H
          obtain ⟨t348, A140, H⟩ := H
          replace H : (some t348) = some r := H
          have A14 := Aside0.mk A140
          clear A140
          obtain rfl := Option.some.inj H
          go_enter Try.func66, Try.ntmps66
          try go_wp2_with (first | ((with_reducible refine gate_callee (f := 87) rfl ?_); refine goesL_ (some 16) rfl rfl Try.func87 (by kernel_rfl) rfl #[.int .i64 (l0.length : Int)] rfl (by (try simp only [List.map_toArray, List.map_cons, List.map_nil]); first | done | rfl | (simp only [List.length_drop, List.length_take]; rfl)) ?_; (with_reducible refine (kimberliteref07_half.calls k (l0.length : Int) t337 _ A7.out).mono ?_); rintro e w' ⟨rfl, ⟨nd, rfl⟩⟩; refine ⟨_, rfl, ?_⟩))
          (try (rw [drewN_self w]; generalize hq_ : World.drewN w _ = w15; have n0_ := Aside0.mk (below_at hq_ HB.out); clear hq_ HB; have HB := n0_; clear n0_))
          have n0_ := Aside0.mk (below_drew1 HB.out)
          clear HB
          have HB := n0_
          clear n0_
          have q17 : (t337 : Int) ≤ ((l0.length : Int) : Int) := of_decide_eq_true (by first | (with_reducible assumption) | assumption)
          obtain ⟨i017, hi017, _, hsz17, _⟩ := info_parts info22
          have hroom17 : l0.length ≤ c0 := HC0.out
          have hC17 : Kd.C (Kd.slice 5 (Kd.int .u8)) _ A0 l0.length l0 := HR0.out
          have hcut17 := cut_to (P := Try.prog) 39 22 .i64 Try.underlying39 hi017 A0 l0.length c0 t337 (of_decide_eq_true (by first | (with_reducible assumption) | assumption)) q17 hroom17
          have hr17 := Kd.C_take (m := (t337 : Int).toNat) hC17 (by omega)
          have hy17 : y338.length = (t337 : Int).toNat := (by rw [Ny338.out, List.length_take]; omega)
          rw [← Ny338.out] at hr17
          rw [← hy17] at hcut17
          have HR341 := Aside0.mk hr17
          have HC341 := Aside0.mk (show y338.length ≤ c0 from by omega)
          clear hr17 hC17 hroom17 hi017 hsz17
          have KY17 := Aside0.mk hy17
          clear hy17
          replace q17 := eq_true q17
          have q18 : (t337 : Int) ≤ ((l0.length : Int) : Int) := of_decide_eq_true (by first | (with_reducible assumption) | assumption)
          obtain ⟨i018, hi018, _, hsz18, _⟩ := info_parts info22
          have hroom18 : l0.length ≤ c0 := HC0.out
          have hC18 : Kd.C (Kd.slice 5 (Kd.int .u8)) _ A0 l0.length l0 := HR0.out
          have q018 : (0 : Int) ≤ (t337 : Int) := of_decide_eq_true (by first | (with_reducible assumption) | assumption)
          have hcut18 := cut_from (P := Try.prog) 39 22 .i64 Try.underlying39 hi018 1 hsz18 A0 l0.length c0 t337 q018 q18
          have hr18 := Kd.C_drop (m := (t337 : Int).toNat) (c := c0) hC18 (by omega) hroom18
          obtain ⟨A18, hA18⟩ : ∃ A1, A1 = (if c0 = (t337 : Int).toNat then A0 else (A0 : Option Addr).map (·.add ((t337 : Int).toNat * 1))) := ⟨_, rfl⟩
          obtain ⟨c18, hc18⟩ : ∃ c1, c1 = c0 - (t337 : Int).toNat := ⟨_, rfl⟩
          have hy18 : y343.length = l0.length - (t337 : Int).toNat := (by rw [Ny343.out, List.length_drop] <;> omega)
          rw [show (l0).drop (t337 : Int).toNat = y343 from Ny343.out.symm] at hr18
          replace hr18 : Kd.C (Kd.slice 5 (Kd.int .u8)) _ A18 y343.length y343 := (by rw [hA18]; exact hr18)
          rw [← hy18, ← hA18, ← hc18] at hcut18
          have HR346 := Aside0.mk hr18
          have HC346 := Aside0.mk (show y343.length ≤ c18 from by rw [hy18, hc18]; exact Nat.sub_le_sub_right hroom18 _)
          clear hr18 hC18 hroom18 hi018 hsz18 hc18
          have KY18 := Aside0.mk hy18
          have KA18 := Aside0.mk hA18
          clear hy18 hA18
          replace q18 := eq_true q18
          refine start_ (n := 10) (S := fun w' => True) (ds := []) #[false, false, false, false, false, false, false, false, false, false] (by kernel_rfl) rfl rfl trivial (fun hHeld => ?_); refine with_tabW kimberliteref07_Top.tab7 kimberliteref07_Top.bits7 (fun HT_ HW_ => ?_)
          generalize w15.drew = w16 at HB HR341 HR346 hHeld ⊢
          refine pure_ (i := 0) (N := some 17) (v := ?_) (a' := ?_) #[true, false, false, false, false, false, false, false, false, false] rfl rfl (any_of HT_.out (by kernel_rfl)) (fun _ _ _ h => h) (Or.inl ⟨by rfl, ?_⟩) ?_ ?_
          rotate_left
          · intro w'
            go_simp
            with_reducible rfl
          rotate_left
          · simp only [Act.put, List.setIfInBounds_toArray, List.set_cons_zero, List.set_cons_succ, i64_w, i32_w]
            rfl
          refine pure_ (i := 1) (N := some 18) (v := ?_) (a' := ?_) #[true, true, false, false, false, false, false, false, false, false] rfl rfl (any_of HT_.out (by kernel_rfl)) (fun _ _ _ h => h) (Or.inl ⟨by rfl, ?_⟩) ?_ ?_
          rotate_left
          · intro w'
            go_simp
            with_reducible rfl
          rotate_left
          · simp only [Act.put, List.setIfInBounds_toArray, List.set_cons_zero, List.set_cons_succ, i64_w, i32_w]
            rfl
          refine pure_ (i := 2) (N := some 19) (v := ?_) (a' := ?_) #[true, true, true, false, false, false, false, false, false, false] rfl rfl (any_of HT_.out (by kernel_rfl)) (fun _ _ _ h => h) (Or.inl ⟨by rfl, ?_⟩) ?_ ?_
          rotate_left
          · intro w'
            go_simp
            with_reducible rfl
          rotate_left
          · simp only [Act.put, List.setIfInBounds_toArray, List.set_cons_zero, List.set_cons_succ, i64_w, i32_w]
            rfl
          refine pure_ (i := 4) (N := some 21) (v := ?_) (a' := ?_) #[true, true, true, false, true, false, false, false, false, false] rfl rfl (any_of HT_.out (by kernel_rfl)) (fun _ _ _ h => h) (Or.inl ⟨by rfl, ?_⟩) ?_ ?_
          rotate_left
          · intro w'
            go_simp
            with_reducible rfl
          rotate_left
          · simp only [Act.put, List.setIfInBounds_toArray, List.set_cons_zero, List.set_cons_succ, i64_w, i32_w]
            rfl
          refine pure_ (i := 5) (N := some 22) (v := ?_) (a' := ?_) #[true, true, true, false, true, true, false, false, false, false] rfl rfl (any_of HT_.out (by kernel_rfl)) (fun _ _ _ h => h) (Or.inl ⟨by rfl, ?_⟩) ?_ ?_
          rotate_left
          · intro w'
            go_simp
            with_reducible rfl
          rotate_left
          · simp only [Act.put, List.setIfInBounds_toArray, List.set_cons_zero, List.set_cons_succ, i64_w, i32_w]
            rfl
          refine pure_ (i := 6) (N := some 23) (v := ?_) (a' := ?_) #[true, true, true, false, true, true, true, false, false, false] rfl rfl (any_of HT_.out (by kernel_rfl)) (fun _ _ _ h => h) (Or.inl ⟨by rfl, ?_⟩) ?_ ?_
          rotate_left
          · intro w'
            go_simp
            with_reducible rfl
          rotate_left
          · simp only [Act.put, List.setIfInBounds_toArray, List.set_cons_zero, List.set_cons_succ, i64_w, i32_w]
            rfl
          refine one_ (i := 3) (N := some 20) #[true, true, true, true, true, true, true, false, false, false] rfl rfl (one_of HT_.out (by kernel_rfl)) (by decide) (fun K hK => ?_)
          refine goes_ Try.func66 (by kernel_rfl) rfl #[.slice A0 y338.length c0] (by rfl) rfl rfl (by (try simp only [List.map_toArray, List.map_cons, List.map_nil]); first | done | rfl | (simp only [List.length_drop, List.length_take]; rfl)) ?_
          with_reducible refine (ih k (by omega) _ _ y338 t342 _ ?side1 ?side2 A10.out).mono ?_
          (case side1 => repeat (first | exact (Kd.C_below HR341.out HB.out) | (with_reducible refine Kd.C_alloc ?_ _) | (with_reducible refine Kd.C_drewN ?_ _) | (with_reducible refine Kd.C_drew ?_)))
          (case side2 => exact HC341.out)
          rintro e w19 ⟨rfl, hb⟩
          refine ⟨_, rfl, ?_⟩
          have n0_ := Aside0.mk (below_step (by repeat (first | (with_reducible first | exact HB.out | apply below_alloc | apply pw_below_drewN | apply below_drew1) | exact HB.out)) hb)
          clear HB
          have HB := n0_
          clear n0_
          (try clear hb)
          (try clear hb2)
          (try clear hk)
          (try clear hi)
          refine hK.out _ _ trivial (fun hHeld => ?_)
          clear hK K
          refine norm_ (a' := ?_) ?_ ?_
          rotate_left
          · show Act.put _ (some 20) _ = _
            simp only [Act.put, List.setIfInBounds_toArray, List.set_cons_zero, List.set_cons_succ, i64_w, i32_w]
            rfl
          refine one_ (i := 7) (N := some 24) #[true, true, true, true, true, true, true, true, false, false] rfl rfl (one_of HT_.out (by kernel_rfl)) (by decide) (fun K hK => ?_)
          refine goes_ Try.func66 (by kernel_rfl) rfl #[.slice A18 y343.length c18] (by rfl) rfl rfl (by (try simp only [List.map_toArray, List.map_cons, List.map_nil]); first | done | rfl | (simp only [List.length_drop, List.length_take]; rfl)) ?_
          with_reducible refine (ih k (by omega) _ _ y343 t347 _ ?side1 ?side2 A13.out).mono ?_
          (case side1 => repeat (first | exact (Kd.C_below HR346.out HB.out) | (with_reducible refine Kd.C_alloc ?_ _) | (with_reducible refine Kd.C_drewN ?_ _) | (with_reducible refine Kd.C_drew ?_)))
          (case side2 => exact HC346.out)
          rintro e w20 ⟨rfl, hb⟩
          refine ⟨_, rfl, ?_⟩
          have n0_ := Aside0.mk (below_step (by repeat (first | (with_reducible first | exact HB.out | apply below_alloc | apply pw_below_drewN | apply below_drew1) | exact HB.out)) hb)
          clear HB
          have HB := n0_
          clear n0_
          (try clear hb)
          (try clear hb2)
          (try clear hk)
          (try clear hi)
          refine hK.out _ _ trivial (fun hHeld => ?_)
          clear hK K
          refine norm_ (a' := ?_) ?_ ?_
          rotate_left
          · show Act.put _ (some 24) _ = _
            simp only [Act.put, List.setIfInBounds_toArray, List.set_cons_zero, List.set_cons_succ, i64_w, i32_w]
            rfl
          refine one_ (i := 8) (N := some 25) #[true, true, true, true, true, true, true, true, true, false] rfl rfl (one_of HT_.out (by kernel_rfl)) (by decide) (fun K hK => ?_)
          refine goes_ Try.func31 (by kernel_rfl) rfl #[.int .u64 t342, .int .u64 t347] (by rfl) rfl rfl (by (try simp only [List.map_toArray, List.map_cons, List.map_nil]); first | done | rfl | (simp only [List.length_drop, List.length_take]; rfl)) ?_
          with_reducible refine (kimberliteref07_Node.calls k t342 t347 t348 _ A14.out).mono ?_
          rintro e w21 ⟨rfl, hb⟩
          refine ⟨_, rfl, ?_⟩
          have n0_ := Aside0.mk (below_step (by repeat (first | (with_reducible first | exact HB.out | apply below_alloc | apply pw_below_drewN | apply below_drew1) | exact HB.out)) hb)
          clear HB
          have HB := n0_
          clear n0_
          (try clear hb)
          (try clear hb2)
          (try clear hk)
          (try clear hi)
          refine hK.out _ _ trivial (fun hHeld => ?_)
          clear hK K
          refine norm_ (a' := ?_) ?_ ?_
          rotate_left
          · show Act.put _ (some 25) _ = _
            simp only [Act.put, List.setIfInBounds_toArray, List.set_cons_zero, List.set_cons_succ, i64_w, i32_w]
            rfl
          refine pure_ (i := 9) (N := some 2) (v := ?_) (a' := ?_) #[true, true, true, true, true, true, true, true, true, true] rfl rfl (any_of HT_.out (by kernel_rfl)) (fun _ _ _ h => h) (Or.inl ⟨by rfl, ?_⟩) ?_ ?_
          rotate_left
          · intro w'
            go_simp
            with_reducible rfl
          rotate_left
          · simp only [Act.put, List.setIfInBounds_toArray, List.set_cons_zero, List.set_cons_succ, i64_w, i32_w]
            rfl
          refine done_ (done_of HT_.out (by kernel_rfl)) ?_
          try go_wp2
          go_ret
          exact ⟨by first | rfl | (simp [errW_none, errW_some] <;> rfl) | (simp [*, errW_none, errW_some] <;> rfl), by repeat (first | (with_reducible first | exact HB.out | apply below_alloc | apply pw_below_drewN | apply below_drew1) | exact HB.out)⟩
        · rw [if_neg c9] at H
          exact absurd H (by simp)
      · rw [if_neg c8] at H
        exact absurd H (by simp)
def kimberliteref07_Root.f (k : Nat) (l0 : List (List Int)) : Option (Int × Int) := (kimberliteref07_List.f k l0).bind fun t349 => (if t349 = 0 then ((kimberliteref07_Top.f k l0).bind fun t350 => (some (t350, 0))) else (some (0, t349)))
theorem kimberliteref07_Root.mono : ∀ a0 k, LeO (kimberliteref07_Root.f k a0) (kimberliteref07_Root.f (k + 1) a0) := by
  intro a0 k
  unfold kimberliteref07_Root.f
  repeat' first
      | (with_reducible exact kimberliteref07_List.mono _ _)
      | (with_reducible exact kimberliteref07_Top.mono _ _)
      | (with_reducible exact LeO.refl _)
      | (with_reducible exact LeO.none _)
      | (with_reducible refine LeO.ite ?_ ?_)
      | (with_reducible refine LeO.bind ?_ (fun _ => ?_))
      | exact kimberliteref07_List.mono _ _
      | exact kimberliteref07_Top.mono _ _
      | exact LeO.none _
      | refine LeO.ite ?_ ?_
      | refine LeO.bind ?_ (fun _ => ?_)
set_option maxHeartbeats 8000000 in
set_option maxRecDepth 100000 in
theorem kimberliteref07_Root.calls (k : Nat) (A0 : Option Addr) (c0 : Nat) (l0 : List (List Int)) (r1 : Int) (r2 : Int) (w : World) (hr0 : Kd.C (Kd.slice 5 (Kd.int .u8)) w A0 l0.length l0) (hc0 : l0.length ≤ c0) (h : kimberliteref07_Root.f k l0 = some (r1, r2)) :
    Calls Try.prog 26 #[.slice A0 l0.length c0] w fun e w' => e = .returned (.tuple #[.int .u64 r1, .int .i64 r2]) ∧ Below w.heap.size w w' := by
  have HR0 := Aside0.mk hr0
  have HC0 := Aside0.mk hc0
  clear hr0 hc0
  have HB := Aside0.mk (Below.refl w.heap.size w)
  have H : ((kimberliteref07_List.f k l0).bind fun t349 => (if t349 = 0 then ((kimberliteref07_Top.f k l0).bind fun t350 => (some (t350, 0))) else (some (0, t349)))) = some (r1, r2) := h
  clear h
  replace H := Option.bind_eq_some_iff.mp H
  obtain ⟨t349, A20, H⟩ := H
  replace H : (if t349 = 0 then ((kimberliteref07_Top.f k l0).bind fun t350 => (some (t350, 0))) else (some (0, t349))) = some (r1, r2) := H
  have A2 := Aside0.mk A20
  clear A20
  by_cases c3 : t349 = 0
  · rw [if_pos c3] at H
    have c3b0 : (t349 == 0) = true := beq_iff_eq.mpr c3
    have c3b1 : (t349 != 0) = false := bne_eq_false_iff_eq.mpr c3
    clear c3
    replace H := Option.bind_eq_some_iff.mp H
    obtain ⟨t350, A40, H⟩ := H
    replace H : (some (t350, 0)) = some (r1, r2) := H
    have A4 := Aside0.mk A40
    clear A40
    simp only [Option.some.injEq, Prod.mk.injEq] at H
    obtain ⟨rfl, rfl⟩ := H
    go_enter Try.func26, Try.ntmps26
    go_wp2_with (first | ((with_reducible refine gate_callee (f := 65) rfl ?_); refine goesL_ (some 6) rfl rfl Try.func65 (by kernel_rfl) rfl #[.slice A0 l0.length c0] rfl (by (try simp only [List.map_toArray, List.map_cons, List.map_nil]); first | done | rfl | (simp only [List.length_drop, List.length_take]; rfl)) ?_; (with_reducible refine (kimberliteref07_List.calls k _ _ l0 t349 _ ?side1 ?side2 A2.out).mono ?_); (case side1 => repeat (first | exact HR0.out | (with_reducible refine Kd.C_alloc ?_ _) | (with_reducible refine Kd.C_drewN ?_ _) | (with_reducible refine Kd.C_drew ?_))); (case side2 => exact HC0.out); rintro e w' ⟨rfl, ⟨nd, rfl⟩⟩; refine ⟨_, rfl, ?_⟩) | ((with_reducible refine gate_callee (f := 66) rfl ?_); refine goesL_ (some 11) rfl rfl Try.func66 (by kernel_rfl) rfl #[.slice A0 l0.length c0] rfl (by (try simp only [List.map_toArray, List.map_cons, List.map_nil]); first | done | rfl | (simp only [List.length_drop, List.length_take]; rfl)) ?_; (with_reducible refine (kimberliteref07_Top.calls k _ _ l0 t350 _ ?side1 ?side2 A4.out).mono ?_); (case side1 => repeat (first | exact HR0.out | (with_reducible refine Kd.C_alloc ?_ _) | (with_reducible refine Kd.C_drewN ?_ _) | (with_reducible refine Kd.C_drew ?_))); (case side2 => exact HC0.out); rintro e w5 ⟨rfl, hb⟩; refine ⟨_, rfl, ?_⟩; have n0_ := Aside0.mk (below_step (by repeat (first | (with_reducible first | exact HB.out | apply below_alloc | apply pw_below_drewN | apply below_drew1) | exact HB.out)) hb); clear HB; have HB := n0_; clear n0_; (try clear hb); (try clear hb2); (try clear hk); (try clear hi)))
    go_ret2
    exact ⟨by first | rfl | (simp [errW_none, errW_some] <;> rfl) | (simp [*, errW_none, errW_some] <;> rfl), by repeat (first | (with_reducible first | exact HB.out | apply below_alloc | apply pw_below_drewN | apply below_drew1) | exact HB.out)⟩
  · rw [if_neg c3] at H
    have c3b0 : (t349 == 0) = false := beq_eq_false_iff_ne.mpr c3
    have c3b1 : (t349 != 0) = true := bne_iff_ne.mpr c3
    simp only [Option.some.injEq, Prod.mk.injEq] at H
    obtain ⟨rfl, rfl⟩ := H
    go_enter Try.func26, Try.ntmps26
    go_wp2_with (first | ((with_reducible refine gate_callee (f := 65) rfl ?_); refine goesL_ (some 6) rfl rfl Try.func65 (by kernel_rfl) rfl #[.slice A0 l0.length c0] rfl (by (try simp only [List.map_toArray, List.map_cons, List.map_nil]); first | done | rfl | (simp only [List.length_drop, List.length_take]; rfl)) ?_; (with_reducible refine (kimberliteref07_List.calls k _ _ l0 t349 _ ?side1 ?side2 A2.out).mono ?_); (case side1 => repeat (first | exact HR0.out | (with_reducible refine Kd.C_alloc ?_ _) | (with_reducible refine Kd.C_drewN ?_ _) | (with_reducible refine Kd.C_drew ?_))); (case side2 => exact HC0.out); rintro e w' ⟨rfl, ⟨nd, rfl⟩⟩; refine ⟨_, rfl, ?_⟩))
    go_ret2
    exact ⟨by first | rfl | (simp [errW_none, errW_some] <;> rfl) | (simp [*, errW_none, errW_some] <;> rfl), by repeat (first | (with_reducible first | exact HB.out | apply below_alloc | apply pw_below_drewN | apply below_drew1) | exact HB.out)⟩
end Go.Proofs.Ytacjdoekgmmfoaa.PL
end
section
namespace Go.Proofs.Ytacjdoekgmmfoaa.PL
open Go.RowKit Go.Proofs.YtacjdoekgmmfoaaW.PrintWords Go.Proofs.YtacjdoekgmmfoaaW.PrintLast Go.Proofs.YtacjdoekgmmfoaaW.PrintMore
set_option linter.unusedVariables false
set_option linter.unusedSimpArgs false
theorem w64 (i : Nat) (h : i < 4611686018427387904) : wrap64 ((i : Int) + 1) = ((i + 1 : Nat) : Int) := by unfold wrap64; omega
theorem Ev.here {α : Type} {g : Nat → Option α} {r : α} (h : ∀ k, g (k + 1) = some r) : Ev g r := Ev.step h (Ev.now r)
theorem rd_at (l : List Int) (i : Nat) (h : i < l.length) : rd l (i : Int) = l[i] := by simp [rd, h]
theorem rdL_at (l : List (List Int)) (i : Nat) (h : i < l.length) : rd_L1 l (i : Int) = l[i] := by simp [rd_L1, h]
def okH (x : Int) : Prop := 0 ≤ x ∧ x < 18446744073709551616
def mstep (h b : Int) : Int := IntKind.u64.wrap ((Go.bits .xor .u64 h (IntKind.u64.wrap b)) * 1099511628211)
def mixS (l : List Int) : Int := l.foldl mstep 14695981039346656037
theorem mix_ok (l : List Int) : okH (mixS l) := by
  unfold mixS
  have : ∀ (l : List Int) (h : Int), okH h → okH (l.foldl mstep h) := by
    intro l
    induction l with
    | nil => intro h hh; exact hh
    | cons x l ih => intro h _; exact ih _ (u64_rangeL _)
  exact this l _ (by unfold okH; omega)
where u64_rangeL (x : Int) : okH (IntKind.u64.wrap x) := by unfold okH; rw [IntKind.wrap_u64]; omega
theorem ev_Mix_l (l : List Int) (hl : l.length < 4611686018427387904) : ∀ (d i : Nat) (h : Int), i + d = l.length → Ev (fun k => proof_Mix.l0 k h l (l.length : Int) (i : Int)) ((l.drop i).foldl mstep h)
  | 0, i, h, e => Ev.here fun k => by
      simp only [proof_Mix.l0]
      rw [if_neg (by omega), List.drop_of_length_le (by omega)]; rfl
  | d + 1, i, h, e => by
      have hi : i < l.length := by omega
      rw [List.drop_eq_getElem_cons hi, List.foldl_cons]
      refine Ev.step (fun k => ?_) (ev_Mix_l l hl d (i + 1) _ (by omega))
      simp only [proof_Mix.l0]
      rw [if_pos (by omega), if_pos (by omega), if_pos (by omega), rd_at l i hi, w64 i (by omega)]; rfl
theorem ev_Mix (l : List Int) (hl : l.length < 4611686018427387904) : Ev (fun k => proof_Mix.f k l) (mixS l) := by
  have := ev_Mix_l l hl l.length 0 14695981039346656037 (by omega)
  rw [List.drop_zero] at this; exact this
theorem ev_rMix_l (l : List Int) (hl : l.length < 4611686018427387904) : ∀ (d i : Nat) (h : Int), i + d = l.length → Ev (fun k => kimberliteref07_Mix.l0 k l h (i : Int)) ((l.drop i).foldl mstep h)
  | 0, i, h, e => Ev.here fun k => by
      simp only [kimberliteref07_Mix.l0]
      rw [if_neg (by omega), List.drop_of_length_le (by omega)]; rfl
  | d + 1, i, h, e => by
      have hi : i < l.length := by omega
      rw [List.drop_eq_getElem_cons hi, List.foldl_cons]
      refine Ev.step (fun k => ?_) (ev_rMix_l l hl d (i + 1) _ (by omega))
      simp only [kimberliteref07_Mix.l0]
      rw [if_pos (by omega), if_pos (by omega), rd_at l i hi, w64 i (by omega)]; rfl
theorem ev_rMix (l : List Int) (hl : l.length < 4611686018427387904) : Ev (fun k => kimberliteref07_Mix.f k l) (mixS l) := by
  have := ev_rMix_l l hl l.length 0 14695981039346656037 (by omega)
  rw [List.drop_zero] at this; exact this
def leafS (l : List Int) : Int := mixS (0 :: l)
def nodeB (a b : Int) : List Int := 1 :: (eights 8 a ++ eights 8 b)
def nodeS (a b : Int) : Int := mixS (nodeB a b)
theorem leaf_some (l : List Int) (h : l.length < 100000000000000) : proof_leaf.f l = some (0 :: l) := by
  simp only [proof_leaf.f, Option.bind_some]
  rw [if_pos (by simp; omega)]; rfl
theorem leafB_some (l : List Int) (h : l.length < 100000000000000) : kimberliteref07_LeafBytes.f l = some (0 :: l) := by
  simp only [kimberliteref07_LeafBytes.f, Option.bind_some]
  rw [if_pos (by simp; omega)]; rfl
theorem ev_Leaf (l : List Int) (h : l.length < 100000000000000) : Ev (fun k => proof_Leaf.f k l) (leafS l) := by
  unfold proof_Leaf.f
  simp only [leaf_some l h, Option.bind_some]
  exact Ev.bind (ev_Mix _ (by simp; omega)) (Ev.now _)
theorem ev_rLeaf (l : List Int) (h : l.length < 100000000000000) : Ev (fun k => kimberliteref07_Leaf.f k l) (leafS l) := by
  unfold kimberliteref07_Leaf.f
  simp only [leafB_some l h, Option.bind_some]
  exact Ev.bind (ev_rMix _ (by simp; omega)) (Ev.now _)
theorem node_some (a b : Int) (ha : okH a) (hb : okH b) : proof_node.f a b = some (nodeB a b) := by
  unfold proof_node.f
  rw [if_pos ⟨ha, hb⟩]; rfl
theorem nodeB_len (a b : Int) : (nodeB a b).length = 17 := by simp [nodeB, eights_len]
theorem ev_Node (a b : Int) (ha : okH a) (hb : okH b) : Ev (fun k => proof_Node.f k a b) (nodeS a b) := by
  unfold proof_Node.f
  simp only [node_some a b ha hb, Option.bind_some]
  exact Ev.bind (ev_Mix _ (by rw [nodeB_len]; omega)) (Ev.now _)
theorem ev_Eight_l : ∀ (d i : Nat) (n : Int) (x : List Int), i + d = 8 → x.length = i → okH n → Ev (fun k => kimberliteref07_Eight.l0 k n x (i : Int)) (x ++ eights d n)
  | 0, i, n, x, e, hx, hn => Ev.here fun k => by
      simp only [kimberliteref07_Eight.l0]
      rw [if_neg (by omega)]; simp [eights]
  | d + 1, i, n, x, e, hx, hn => by
      have h0 := hn.1
      have h1 := hn.2
      have ih := ev_Eight_l d (i + 1) (n / 256) (x ++ [n % 256]) (by omega) (by simp [hx]) ⟨by omega, by omega⟩
      rw [List.append_assoc] at ih
      refine Ev.step (fun k => ?_) ih
      simp only [kimberliteref07_Eight.l0]
      rw [if_pos (by omega), if_pos (by omega), w64 i (by omega), Int.tmod_eq_emod_of_nonneg hn.1, Int.tdiv_eq_ediv_of_nonneg hn.1, show n % 256 % 256 = n % 256 by omega, show IntKind.u64.wrap (n / 256) = n / 256 by rw [IntKind.wrap_u64]; omega]
theorem ev_Eight (n : Int) (hn : okH n) : Ev (fun k => kimberliteref07_Eight.f k n) (eights 8 n) := ev_Eight_l 8 0 n [] rfl rfl hn
theorem ev_NodeBytes (a b : Int) (ha : okH a) (hb : okH b) : Ev (fun k => kimberliteref07_NodeBytes.f k a b) (nodeB a b) := by
  unfold kimberliteref07_NodeBytes.f
  simp only [Option.bind_some]
  refine Ev.bind (ev_Eight a ha) ?_
  rw [show (fun n => _) = fun n => _ from rfl]
  simp only [eights_len, List.length_cons, List.length_nil, List.length_append, if_pos (show 0 + 1 + 8 < 140737488355328 by omega)]
  refine Ev.bind (ev_Eight b hb) ?_
  simp only [eights_len, if_pos (show 0 + 1 + 8 + 8 < 140737488355328 by omega)]
  exact Ev.now _
theorem ev_rNode (a b : Int) (ha : okH a) (hb : okH b) : Ev (fun k => kimberliteref07_Node.f k a b) (nodeS a b) := by
  unfold kimberliteref07_Node.f
  refine Ev.bind (ev_NodeBytes a b ha hb) ?_
  exact Ev.bind (ev_rMix _ (by rw [nodeB_len]; omega)) (Ev.now _)
/-- The greatest power of two below n. -/
def hlf : Nat → Nat → Nat → Nat
  | 0, _, k => k
  | f + 1, n, k => if 2 * k < n then hlf f n (2 * k) else k
def half (n : Nat) : Nat := hlf n n 1
theorem hlf_lt : ∀ (f n k : Nat), 1 ≤ k → k < n → 1 ≤ hlf f n k ∧ hlf f n k < n
  | 0, n, k, h1, h2 => ⟨h1, h2⟩
  | f + 1, n, k, h1, h2 => by
    simp only [hlf]
    split
    · exact hlf_lt f n (2 * k) (by omega) (by omega)
    · exact ⟨h1, h2⟩
theorem half_lt (n : Nat) (h : 2 ≤ n) : 1 ≤ half n ∧ half n < n := hlf_lt n n 1 (by omega) (by omega)
theorem ev_part_l (n : Nat) (hn : n < 1000000000) : ∀ (f k : Nat), 1 ≤ k → k < n → n ≤ k * 2 ^ f → Ev (fun q => proof_part.l0 q (n : Int) (k : Int)) ((hlf f n k : Nat) : Int)
  | 0, k, h1, h2, h3 => by omega
  | f + 1, k, h1, h2, h3 => by
    by_cases c : 2 * k < n
    · have ih := ev_part_l n hn f (2 * k) (by omega) c (by rw [Nat.pow_succ, Nat.mul_comm (2 ^ f) 2, ← Nat.mul_assoc, Nat.mul_comm k 2] at h3; exact h3)
      simp only [hlf, if_pos c]
      refine Ev.step (fun q => ?_) ih
      simp only [proof_part.l0]
      rw [show wrap64 (2 * (k : Int)) = ((2 * k : Nat) : Int) by unfold wrap64; omega, show wrap64 ((k : Int) * 2) = ((2 * k : Nat) : Int) by unfold wrap64; omega, if_pos (by omega)]
    · simp only [hlf, if_neg c]
      exact Ev.here fun q => by
        simp only [proof_part.l0]
        rw [show wrap64 (2 * (k : Int)) = ((2 * k : Nat) : Int) by unfold wrap64; omega, if_neg (by omega)]
theorem ev_part (n : Nat) (h2 : 2 ≤ n) (hn : n < 1000000000) : Ev (fun q => proof_part.f q (n : Int)) ((half n : Nat) : Int) :=
  ev_part_l n hn n 1 (by omega) (by omega) (by rw [Nat.one_mul]; exact Nat.le_of_lt Nat.lt_two_pow_self)
theorem ev_half_l (n : Nat) (hn : n < 1000000000) : ∀ (f k : Nat), 1 ≤ k → k < n → n ≤ k * 2 ^ f → Ev (fun q => kimberliteref07_half.l0 q (n : Int) (k : Int)) ((hlf f n k : Nat) : Int)
  | 0, k, h1, h2, h3 => by omega
  | f + 1, k, h1, h2, h3 => by
    by_cases c : 2 * k < n
    · have ih := ev_half_l n hn f (2 * k) (by omega) c (by rw [Nat.pow_succ, Nat.mul_comm (2 ^ f) 2, ← Nat.mul_assoc, Nat.mul_comm k 2] at h3; exact h3)
      simp only [hlf, if_pos c]
      refine Ev.step (fun q => ?_) ih
      simp only [kimberliteref07_half.l0]
      rw [show wrap64 (2 * (k : Int)) = ((2 * k : Nat) : Int) by unfold wrap64; omega, if_pos (by omega)]
    · simp only [hlf, if_neg c]
      exact Ev.here fun q => by
        simp only [kimberliteref07_half.l0]
        rw [show wrap64 (2 * (k : Int)) = ((2 * k : Nat) : Int) by unfold wrap64; omega, if_neg (by omega)]
theorem ev_half (n : Nat) (h2 : 2 ≤ n) (hn : n < 1000000000) : Ev (fun q => kimberliteref07_half.f q (n : Int)) ((half n : Nat) : Int) :=
  ev_half_l n hn n 1 (by omega) (by omega) (by rw [Nat.one_mul]; exact Nat.le_of_lt Nat.lt_two_pow_self)
/-- The root of leaves. -/
def top (l : List Int) : Int :=
  if h : l.length < 2 then l.headD 0 else nodeS (top (l.take (half l.length))) (top (l.drop (half l.length)))
termination_by l.length
decreasing_by
  · have := half_lt l.length (by omega); rw [List.length_take]; omega
  · have := half_lt l.length (by omega); rw [List.length_drop]; omega
theorem top_ok (l : List Int) (h : ∀ x ∈ l, okH x) : okH (top l) := by
  rw [top]
  split
  · cases l with
    | nil => exact ⟨by decide, by decide⟩
    | cons x l => exact h x List.mem_cons_self
  · exact mix_ok _
theorem ev_root : ∀ (n : Nat) (l : List Int), l.length ≤ n → l.length < 1000000000 → (∀ x ∈ l, okH x) → Ev (fun k => proof_root.f k l) (top l)
  | 0, l, h, _, _ => by
    have : l = [] := List.eq_nil_of_length_eq_zero (by omega)
    subst this
    rw [top]; exact Ev.here fun k => by simp only [proof_root.f]; rw [if_pos (by simp)]; rfl
  | n + 1, l, h, hb, hx => by
    rw [top]
    by_cases c : l.length < 2
    · rw [dif_pos c]
      match l, c with
      | [], _ => exact Ev.here fun k => by simp only [proof_root.f]; rw [if_pos (by simp)]; rfl
      | [x], _ => exact Ev.here fun k => by simp only [proof_root.f]; rw [if_neg (by simp), if_pos (by simp), if_pos (by simp)]; rfl
    · rw [dif_neg c]
      have hl := half_lt l.length (by omega)
      have h1 := ev_root n (l.take (half l.length)) (by rw [List.length_take]; omega) (by rw [List.length_take]; omega) (fun x hm => hx x (List.mem_of_mem_take hm))
      have h2 := ev_root n (l.drop (half l.length)) (by rw [List.length_drop]; omega) (by rw [List.length_drop]; omega) (fun x hm => hx x (List.mem_of_mem_drop hm))
      have hn := ev_Node _ _ (top_ok _ (fun x hm => hx x (List.mem_of_mem_take (l := l) (i := half l.length) hm))) (top_ok _ (fun x hm => hx x (List.mem_of_mem_drop (l := l) (i := half l.length) hm)))
      refine Ev.step (fun k => by simp only [proof_root.f]; rw [if_neg (by omega), if_neg (by omega)]) (Ev.bind (ev_part l.length (by omega) hb) ?_)
      simp only [if_pos (show (0 : Int) ≤ ((half l.length : Nat) : Int) by omega), if_pos (show ((half l.length : Nat) : Int) ≤ (l.length : Int) by omega), Int.toNat_natCast]
      exact Ev.bind h1 (Ev.bind h2 (Ev.bind hn (Ev.now _)))
theorem leafs_ok (l : List (List Int)) : ∀ x ∈ l.map leafS, okH x := fun x hx => by
  obtain ⟨y, _, rfl⟩ := List.mem_map.1 hx
  exact mix_ok _
theorem ev_Top : ∀ (n : Nat) (l : List (List Int)), l.length ≤ n → l.length < 1000000000 → (∀ x ∈ l, x.length < 100000000000000) → Ev (fun k => kimberliteref07_Top.f k l) (top (l.map leafS))
  | 0, l, h, _, _ => by
    have : l = [] := List.eq_nil_of_length_eq_zero (by omega)
    subst this
    rw [top]; exact Ev.here fun k => by simp only [kimberliteref07_Top.f]; rw [if_pos (by simp)]; rfl
  | n + 1, l, h, hb, hx => by
    rw [top, List.length_map]
    by_cases c : l.length < 2
    · rw [dif_pos c]
      match l, c, hx with
      | [], _, _ => exact Ev.here fun k => by simp only [kimberliteref07_Top.f]; rw [if_pos (by simp)]; rfl
      | [x], _, hx =>
        refine Ev.step (fun k => by simp only [kimberliteref07_Top.f]; rw [if_neg (by simp), if_pos (by simp), if_pos (by simp)]; rfl) (Ev.bind (ev_rLeaf x (hx x List.mem_cons_self)) (Ev.now _))
    · rw [dif_neg c]
      have hl := half_lt l.length (by omega)
      have h1 := ev_Top n (l.take (half l.length)) (by rw [List.length_take]; omega) (by rw [List.length_take]; omega) (fun x hm => hx x (List.mem_of_mem_take hm))
      have h2 := ev_Top n (l.drop (half l.length)) (by rw [List.length_drop]; omega) (by rw [List.length_drop]; omega) (fun x hm => hx x (List.mem_of_mem_drop hm))
      rw [List.map_take] at h1
      rw [List.map_drop] at h2
      have hn := ev_rNode _ _ (top_ok ((l.map leafS).take (half l.length)) (fun x hm => leafs_ok l x (List.mem_of_mem_take hm))) (top_ok ((l.map leafS).drop (half l.length)) (fun x hm => leafs_ok l x (List.mem_of_mem_drop hm)))
      refine Ev.step (fun k => by simp only [kimberliteref07_Top.f]; rw [if_neg (by omega), if_neg (by omega)]) (Ev.bind (ev_half l.length (by omega) hb) ?_)
      simp only [if_pos (show (0 : Int) ≤ ((half l.length : Nat) : Int) by omega), if_pos (show ((half l.length : Nat) : Int) ≤ (l.length : Int) by omega), Int.toNat_natCast]
      exact Ev.bind h1 (Ev.bind h2 (Ev.bind hn (Ev.now _)))
/-- What is let by as few. -/
theorem few_ev (l : List (List Int)) : ∃ b, Ev (fun k => kimberlitelaw07_few.f k l) b ∧ (b = true → l.length ≤ 100 ∧ ∀ x ∈ l, x.length ≤ 400) := by
  have h : ∀ (d i : Nat), i + d = 100 → (∀ j (hj : j < l.length), j < i → l[j].length ≤ 400) → ∃ b, Ev (fun k => kimberlitelaw07_few.l0 k l (i : Int)) b ∧ (b = true → l.length ≤ 100 ∧ ∀ x ∈ l, x.length ≤ 400) := by
    intro d
    induction d with
    | zero =>
      intro i hi hb
      by_cases c : i < l.length
      · exact ⟨false, Ev.here fun k => by simp only [kimberlitelaw07_few.l0]; rw [if_pos (by omega), if_pos (by omega)], fun h => by cases h⟩
      · refine ⟨true, Ev.here fun k => by simp only [kimberlitelaw07_few.l0]; rw [if_neg (by omega)], fun _ => ⟨by omega, fun x hx => ?_⟩⟩
        obtain ⟨j, hj, rfl⟩ := List.mem_iff_getElem.1 hx
        exact hb j hj (by omega)
    | succ d ih =>
      intro i hi hb
      by_cases c : i < l.length
      · by_cases c2 : i ≥ 100
        · exact ⟨false, Ev.here fun k => by simp only [kimberlitelaw07_few.l0]; rw [if_pos (by omega), if_pos (by omega)], fun h => by cases h⟩
        · by_cases c3 : l[i].length > 400
          · exact ⟨false, Ev.here fun k => by simp only [kimberlitelaw07_few.l0]; rw [if_pos (by omega), if_neg (by omega), if_pos (by omega), rdL_at l i c, if_pos (by omega)], fun h => by cases h⟩
          · obtain ⟨b, h1, h2⟩ := ih (i + 1) (by omega) (fun j hj hji => by
              rcases Nat.lt_or_ge j i with g | g
              · exact hb j hj g
              · have : j = i := by omega
                subst this; omega)
            exact ⟨b, Ev.step (fun k => by simp only [kimberlitelaw07_few.l0]; rw [if_pos (by omega), if_neg (by omega), if_pos (by omega), rdL_at l i c, if_neg (by omega), w64 i (by omega)]) h1, h2⟩
      · refine ⟨true, Ev.here fun k => by simp only [kimberlitelaw07_few.l0]; rw [if_neg (by omega)], fun _ => ⟨by omega, fun x hx => ?_⟩⟩
        obtain ⟨j, hj, rfl⟩ := List.mem_iff_getElem.1 hx
        exact hb j hj (by omega)
  exact h 100 0 rfl (fun j _ hj => by omega)
/-- A list of entries that is let by: its errors. -/
def listE (l : List (List Int)) : Int := if l.length > 4096 then 3 else if l.all (fun x => decide (x.length ≤ 256)) = true then 0 else 3
theorem ev_List (l : List (List Int)) : Ev (fun k => kimberliteref07_List.f k l) (listE l) := by
  unfold kimberliteref07_List.f listE
  by_cases c : l.length > 4096
  · simp only [if_pos (show (l.length : Int) > 4096 by omega), if_pos c]; exact Ev.now _
  · simp only [if_neg (show ¬ (l.length : Int) > 4096 by omega), if_neg c]
    have h : ∀ (d i : Nat), i + d = l.length → Ev (fun k => kimberliteref07_List.l0 k l (i : Int)) (if (l.drop i).all (fun x => decide (x.length ≤ 256)) = true then 0 else 3) := by
      intro d
      induction d with
      | zero =>
        intro i hi
        rw [List.drop_of_length_le (by omega)]
        exact Ev.here fun k => by simp only [kimberliteref07_List.l0]; rw [if_neg (by omega)]; rfl
      | succ d ih =>
        intro i hi
        have hl : i < l.length := by omega
        rw [List.drop_eq_getElem_cons hl, List.all_cons]
        by_cases c3 : l[i].length > 256
        · rw [decide_eq_false (by omega)]
          exact Ev.here fun k => by simp only [kimberliteref07_List.l0]; rw [if_pos (by omega), if_pos (by omega), rdL_at l i hl, if_pos (by omega)]; rfl
        · rw [decide_eq_true (by omega), Bool.true_and]
          exact Ev.step (fun k => by simp only [kimberliteref07_List.l0]; rw [if_pos (by omega), if_pos (by omega), rdL_at l i hl, if_neg (by omega), w64 i (by omega)]) (ih (i + 1) (by omega))
    have := h l.length 0 (by omega)
    rw [List.drop_zero] at this; exact this
theorem listE_zero {l : List (List Int)} : listE l = 0 ↔ l.length ≤ 4096 ∧ ∀ x ∈ l, x.length ≤ 256 := by
  unfold listE
  constructor
  · intro h
    split at h
    · omega
    · split at h
      · rename_i h1 h2
        exact ⟨by omega, fun x hx => by have := List.all_eq_true.1 h2 x hx; simpa using this⟩
      · omega
  · rintro ⟨h1, h2⟩
    rw [if_neg (by omega), if_pos (List.all_eq_true.2 fun x hx => by simpa using h2 x hx)]
end Go.Proofs.Ytacjdoekgmmfoaa.PL
end
section
namespace Go.Proofs.Ytacjdoekgmmfoaa.PL
open Go.RowKit Go.Proofs.YtacjdoekgmmfoaaW.PrintWords Go.Proofs.YtacjdoekgmmfoaaW.PrintLast Go.Proofs.YtacjdoekgmmfoaaW.PrintMore
set_option linter.unusedVariables false
set_option linter.unusedSimpArgs false
def sbytes (h : Int) (s : S54) : List Int := if s.f1 = true then nodeB s.f0 h else nodeB h s.f0
/-- The byte strings on the way. -/
def lv (b : List Int) : List S54 → List (List Int)
  | [] => [b]
  | s :: ss => b :: lv (sbytes (mixS b) s) ss
end Go.Proofs.Ytacjdoekgmmfoaa.PL
end
