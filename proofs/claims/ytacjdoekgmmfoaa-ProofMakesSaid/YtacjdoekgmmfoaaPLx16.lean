-- printed by wip/gprint.py of this repo out of the translation and the texts under wip/
import Derived.Test.YtacjdoekgmmfoaaPLx0
import Derived.Test.YtacjdoekgmmfoaaPLx5
import Derived.Test.YtacjdoekgmmfoaaPLx9
import Derived.Test.YtacjdoekgmmfoaaPLx15
namespace Go.Proofs.Ytacjdoekgmmfoaa.PL
open Go.RowKit Go.Proofs.YtacjdoekgmmfoaaW.PrintWords Go.Proofs.YtacjdoekgmmfoaaW.PrintLast Go.Proofs.YtacjdoekgmmfoaaW.PrintMore
attribute [local go_sem] max2_int min2_int max_two min_two max_three min_three max_four min_four   -- for this text's walks alone
set_option linter.unusedVariables false
set_option linter.unusedSimpArgs false

/-! ### kimberlitelaw07_ProofMakes: function 9 -/
mutual
def kimberlitelaw07_ProofMakes.l0 : Nat → List (List Int) → Int → Int → List (S54) → Int → List Int → Int → Int → Option (Bool)
  | 0, _, _, _, _, _, _, _, _ => none
  | k + 1, x0, x1, x2, x7, x8, x9, x10, x11 => if x11 < 2 then ((proof_Include.f k x0 x1).bind fun bt546 => ((kimberlitelaw07_steps.f k bt546.1 x7).bind fun t550 => (if t550 = true then (kimberlitelaw07_ProofMakes.j1 k x0 x1 x2 x7 x8 x9 x10 x11 bt546.1 (bt546.2 != x8)) else (kimberlitelaw07_ProofMakes.j1 k x0 x1 x2 x7 x8 x9 x10 x11 bt546.1 true)))) else ((kimberlitelaw07_alive.f k).bind fun t545 => (some t545))
def kimberlitelaw07_ProofMakes.j1 : Nat → List (List Int) → Int → Int → List (S54) → Int → List Int → Int → Int → List (S54) → Bool → Option (Bool)
  | 0, _, _, _, _, _, _, _, _, _, _ => none
  | k + 1, x0, x1, x2, x7, x8, x9, x10, x11, x12, x51 => if x51 = true then (some false) else (kimberlitelaw07_ProofMakes.l1 k x0 x1 x2 x7 x8 x9 x10 x11 x12 0)
def kimberlitelaw07_ProofMakes.l1 : Nat → List (List Int) → Int → Int → List (S54) → Int → List Int → Int → Int → List (S54) → Int → Option (Bool)
  | 0, _, _, _, _, _, _, _, _, _, _ => none
  | k + 1, x0, x1, x2, x7, x8, x9, x10, x11, x12, x14 => if x14 < (x12.length : Int) then (if 0 ≤ x14 then (kimberlitelaw07_ProofMakes.l1 k x0 x1 x2 x7 x8 x9 x10 x11 (x12.set (x14 : Int).toNat (⟨IntKind.u64.wrap (((rd_T54 x12 x14).f0) + 1), (rd_T54 x12 x14).f1⟩ : S54)) (wrap64 (x14 + 1))) else (none)) else ((proof_Extend.f k x0 x2).bind fun bt553 => ((kimberlitelaw07_hashes.f k bt553.1 x9).bind fun t557 => (if t557 = true then (kimberlitelaw07_ProofMakes.j3 k x0 x1 x2 x7 x8 x9 x10 x11 bt553.1 (bt553.2 != x10)) else (kimberlitelaw07_ProofMakes.j3 k x0 x1 x2 x7 x8 x9 x10 x11 bt553.1 true))))
def kimberlitelaw07_ProofMakes.j3 : Nat → List (List Int) → Int → Int → List (S54) → Int → List Int → Int → Int → List Int → Bool → Option (Bool)
  | 0, _, _, _, _, _, _, _, _, _, _ => none
  | k + 1, x0, x1, x2, x7, x8, x9, x10, x11, x15, x80 => if x80 = true then (some false) else (kimberlitelaw07_ProofMakes.l2 k x0 x1 x2 x7 x8 x9 x10 x11 x15 0)
def kimberlitelaw07_ProofMakes.l2 : Nat → List (List Int) → Int → Int → List (S54) → Int → List Int → Int → Int → List Int → Int → Option (Bool)
  | 0, _, _, _, _, _, _, _, _, _, _ => none
  | k + 1, x0, x1, x2, x7, x8, x9, x10, x11, x15, x16 => if x16 < (x15.length : Int) then (if 0 ≤ x16 then (kimberlitelaw07_ProofMakes.l2 k x0 x1 x2 x7 x8 x9 x10 x11 (x15.set (x16 : Int).toNat (IntKind.u64.wrap ((rd x15 x16) + 1))) (wrap64 (x16 + 1))) else (none)) else (kimberlitelaw07_ProofMakes.l0 k x0 x1 x2 x7 x8 x9 x10 (wrap64 (x11 + 1)))
end
def kimberlitelaw07_ProofMakes.f (k : Nat) (l0 : List (List Int)) (a1 : Int) (a2 : Int) : Option (Bool) := (kimberlitelaw07_few.f k l0).bind fun t535 => (if t535 = true then ((kimberliteref07_Include.f k l0 a1).bind fun bt537 => ((kimberliteref07_Extend.f k l0 a2).bind fun bt541 => (kimberlitelaw07_ProofMakes.l0 k l0 a1 a2 bt537.1 bt537.2 bt541.1 bt541.2 0))) else ((kimberlitelaw07_alive.f k).bind fun t536 => (some t536)))
theorem kimberlitelaw07_ProofMakes.mono_l : ∀ k, (∀ y0 y1 y2 y3 y4 y5 y6 y7, LeO (kimberlitelaw07_ProofMakes.l0 k y0 y1 y2 y3 y4 y5 y6 y7) (kimberlitelaw07_ProofMakes.l0 (k + 1) y0 y1 y2 y3 y4 y5 y6 y7)) ∧ (∀ y0 y1 y2 y3 y4 y5 y6 y7 y8 y9, LeO (kimberlitelaw07_ProofMakes.j1 k y0 y1 y2 y3 y4 y5 y6 y7 y8 y9) (kimberlitelaw07_ProofMakes.j1 (k + 1) y0 y1 y2 y3 y4 y5 y6 y7 y8 y9)) ∧ (∀ y0 y1 y2 y3 y4 y5 y6 y7 y8 y9, LeO (kimberlitelaw07_ProofMakes.l1 k y0 y1 y2 y3 y4 y5 y6 y7 y8 y9) (kimberlitelaw07_ProofMakes.l1 (k + 1) y0 y1 y2 y3 y4 y5 y6 y7 y8 y9)) ∧ (∀ y0 y1 y2 y3 y4 y5 y6 y7 y8 y9, LeO (kimberlitelaw07_ProofMakes.j3 k y0 y1 y2 y3 y4 y5 y6 y7 y8 y9) (kimberlitelaw07_ProofMakes.j3 (k + 1) y0 y1 y2 y3 y4 y5 y6 y7 y8 y9)) ∧ (∀ y0 y1 y2 y3 y4 y5 y6 y7 y8 y9, LeO (kimberlitelaw07_ProofMakes.l2 k y0 y1 y2 y3 y4 y5 y6 y7 y8 y9) (kimberlitelaw07_ProofMakes.l2 (k + 1) y0 y1 y2 y3 y4 y5 y6 y7 y8 y9))
  | 0 => ⟨fun _ _ _ _ _ _ _ _ r h => by simp [kimberlitelaw07_ProofMakes.l0] at h, fun _ _ _ _ _ _ _ _ _ _ r h => by simp [kimberlitelaw07_ProofMakes.j1] at h, fun _ _ _ _ _ _ _ _ _ _ r h => by simp [kimberlitelaw07_ProofMakes.l1] at h, fun _ _ _ _ _ _ _ _ _ _ r h => by simp [kimberlitelaw07_ProofMakes.j3] at h, fun _ _ _ _ _ _ _ _ _ _ r h => by simp [kimberlitelaw07_ProofMakes.l2] at h⟩
  | k + 1 => by
    obtain ⟨ih0, ih1, ih2, ih3, ih4⟩ := kimberlitelaw07_ProofMakes.mono_l k
    refine ⟨?_, ?_, ?_, ?_, ?_⟩
    · intro y0 y1 y2 y3 y4 y5 y6 y7
      unfold kimberlitelaw07_ProofMakes.l0
      repeat' first
      | (with_reducible exact ih0 _ _ _ _ _ _ _ _)
      | (with_reducible exact ih1 _ _ _ _ _ _ _ _ _ _)
      | (with_reducible exact ih2 _ _ _ _ _ _ _ _ _ _)
      | (with_reducible exact ih3 _ _ _ _ _ _ _ _ _ _)
      | (with_reducible exact ih4 _ _ _ _ _ _ _ _ _ _)
      | (with_reducible exact kimberlitelaw07_alive.mono _)
      | (with_reducible exact kimberlitelaw07_few.mono _ _)
      | (with_reducible exact kimberlitelaw07_hashes.mono _ _ _)
      | (with_reducible exact kimberlitelaw07_steps.mono _ _ _)
      | (with_reducible exact kimberliteref07_Extend.mono _ _ _)
      | (with_reducible exact kimberliteref07_Include.mono _ _ _)
      | (with_reducible exact proof_Extend.mono _ _ _)
      | (with_reducible exact proof_Include.mono _ _ _)
      | (with_reducible exact LeO.refl _)
      | (with_reducible exact LeO.none _)
      | (with_reducible refine LeO.ite ?_ ?_)
      | (with_reducible refine LeO.bind ?_ (fun _ => ?_))
      | exact ih0 _ _ _ _ _ _ _ _
      | exact ih1 _ _ _ _ _ _ _ _ _ _
      | exact ih2 _ _ _ _ _ _ _ _ _ _
      | exact ih3 _ _ _ _ _ _ _ _ _ _
      | exact ih4 _ _ _ _ _ _ _ _ _ _
      | exact kimberlitelaw07_alive.mono _
      | exact kimberlitelaw07_few.mono _ _
      | exact kimberlitelaw07_hashes.mono _ _ _
      | exact kimberlitelaw07_steps.mono _ _ _
      | exact kimberliteref07_Extend.mono _ _ _
      | exact kimberliteref07_Include.mono _ _ _
      | exact proof_Extend.mono _ _ _
      | exact proof_Include.mono _ _ _
      | exact LeO.none _
      | refine LeO.ite ?_ ?_
      | refine LeO.bind ?_ (fun _ => ?_)
    · intro y0 y1 y2 y3 y4 y5 y6 y7 y8 y9
      unfold kimberlitelaw07_ProofMakes.j1
      repeat' first
      | (with_reducible exact ih0 _ _ _ _ _ _ _ _)
      | (with_reducible exact ih1 _ _ _ _ _ _ _ _ _ _)
      | (with_reducible exact ih2 _ _ _ _ _ _ _ _ _ _)
      | (with_reducible exact ih3 _ _ _ _ _ _ _ _ _ _)
      | (with_reducible exact ih4 _ _ _ _ _ _ _ _ _ _)
      | (with_reducible exact kimberlitelaw07_alive.mono _)
      | (with_reducible exact kimberlitelaw07_few.mono _ _)
      | (with_reducible exact kimberlitelaw07_hashes.mono _ _ _)
      | (with_reducible exact kimberlitelaw07_steps.mono _ _ _)
      | (with_reducible exact kimberliteref07_Extend.mono _ _ _)
      | (with_reducible exact kimberliteref07_Include.mono _ _ _)
      | (with_reducible exact proof_Extend.mono _ _ _)
      | (with_reducible exact proof_Include.mono _ _ _)
      | (with_reducible exact LeO.refl _)
      | (with_reducible exact LeO.none _)
      | (with_reducible refine LeO.ite ?_ ?_)
      | (with_reducible refine LeO.bind ?_ (fun _ => ?_))
      | exact ih0 _ _ _ _ _ _ _ _
      | exact ih1 _ _ _ _ _ _ _ _ _ _
      | exact ih2 _ _ _ _ _ _ _ _ _ _
      | exact ih3 _ _ _ _ _ _ _ _ _ _
      | exact ih4 _ _ _ _ _ _ _ _ _ _
      | exact kimberlitelaw07_alive.mono _
      | exact kimberlitelaw07_few.mono _ _
      | exact kimberlitelaw07_hashes.mono _ _ _
      | exact kimberlitelaw07_steps.mono _ _ _
      | exact kimberliteref07_Extend.mono _ _ _
      | exact kimberliteref07_Include.mono _ _ _
      | exact proof_Extend.mono _ _ _
      | exact proof_Include.mono _ _ _
      | exact LeO.none _
      | refine LeO.ite ?_ ?_
      | refine LeO.bind ?_ (fun _ => ?_)
    · intro y0 y1 y2 y3 y4 y5 y6 y7 y8 y9
      unfold kimberlitelaw07_ProofMakes.l1
      repeat' first
      | (with_reducible exact ih0 _ _ _ _ _ _ _ _)
      | (with_reducible exact ih1 _ _ _ _ _ _ _ _ _ _)
      | (with_reducible exact ih2 _ _ _ _ _ _ _ _ _ _)
      | (with_reducible exact ih3 _ _ _ _ _ _ _ _ _ _)
      | (with_reducible exact ih4 _ _ _ _ _ _ _ _ _ _)
      | (with_reducible exact kimberlitelaw07_alive.mono _)
      | (with_reducible exact kimberlitelaw07_few.mono _ _)
      | (with_reducible exact kimberlitelaw07_hashes.mono _ _ _)
      | (with_reducible exact kimberlitelaw07_steps.mono _ _ _)
      | (with_reducible exact kimberliteref07_Extend.mono _ _ _)
      | (with_reducible exact kimberliteref07_Include.mono _ _ _)
      | (with_reducible exact proof_Extend.mono _ _ _)
      | (with_reducible exact proof_Include.mono _ _ _)
      | (with_reducible exact LeO.refl _)
      | (with_reducible exact LeO.none _)
      | (with_reducible refine LeO.ite ?_ ?_)
      | (with_reducible refine LeO.bind ?_ (fun _ => ?_))
      | exact ih0 _ _ _ _ _ _ _ _
      | exact ih1 _ _ _ _ _ _ _ _ _ _
      | exact ih2 _ _ _ _ _ _ _ _ _ _
      | exact ih3 _ _ _ _ _ _ _ _ _ _
      | exact ih4 _ _ _ _ _ _ _ _ _ _
      | exact kimberlitelaw07_alive.mono _
      | exact kimberlitelaw07_few.mono _ _
      | exact kimberlitelaw07_hashes.mono _ _ _
      | exact kimberlitelaw07_steps.mono _ _ _
      | exact kimberliteref07_Extend.mono _ _ _
      | exact kimberliteref07_Include.mono _ _ _
      | exact proof_Extend.mono _ _ _
      | exact proof_Include.mono _ _ _
      | exact LeO.none _
      | refine LeO.ite ?_ ?_
      | refine LeO.bind ?_ (fun _ => ?_)
    · intro y0 y1 y2 y3 y4 y5 y6 y7 y8 y9
      unfold kimberlitelaw07_ProofMakes.j3
      repeat' first
      | (with_reducible exact ih0 _ _ _ _ _ _ _ _)
      | (with_reducible exact ih1 _ _ _ _ _ _ _ _ _ _)
      | (with_reducible exact ih2 _ _ _ _ _ _ _ _ _ _)
      | (with_reducible exact ih3 _ _ _ _ _ _ _ _ _ _)
      | (with_reducible exact ih4 _ _ _ _ _ _ _ _ _ _)
      | (with_reducible exact kimberlitelaw07_alive.mono _)
      | (with_reducible exact kimberlitelaw07_few.mono _ _)
      | (with_reducible exact kimberlitelaw07_hashes.mono _ _ _)
      | (with_reducible exact kimberlitelaw07_steps.mono _ _ _)
      | (with_reducible exact kimberliteref07_Extend.mono _ _ _)
      | (with_reducible exact kimberliteref07_Include.mono _ _ _)
      | (with_reducible exact proof_Extend.mono _ _ _)
      | (with_reducible exact proof_Include.mono _ _ _)
      | (with_reducible exact LeO.refl _)
      | (with_reducible exact LeO.none _)
      | (with_reducible refine LeO.ite ?_ ?_)
      | (with_reducible refine LeO.bind ?_ (fun _ => ?_))
      | exact ih0 _ _ _ _ _ _ _ _
      | exact ih1 _ _ _ _ _ _ _ _ _ _
      | exact ih2 _ _ _ _ _ _ _ _ _ _
      | exact ih3 _ _ _ _ _ _ _ _ _ _
      | exact ih4 _ _ _ _ _ _ _ _ _ _
      | exact kimberlitelaw07_alive.mono _
      | exact kimberlitelaw07_few.mono _ _
      | exact kimberlitelaw07_hashes.mono _ _ _
      | exact kimberlitelaw07_steps.mono _ _ _
      | exact kimberliteref07_Extend.mono _ _ _
      | exact kimberliteref07_Include.mono _ _ _
      | exact proof_Extend.mono _ _ _
      | exact proof_Include.mono _ _ _
      | exact LeO.none _
      | refine LeO.ite ?_ ?_
      | refine LeO.bind ?_ (fun _ => ?_)
    · intro y0 y1 y2 y3 y4 y5 y6 y7 y8 y9
      unfold kimberlitelaw07_ProofMakes.l2
      repeat' first
      | (with_reducible exact ih0 _ _ _ _ _ _ _ _)
      | (with_reducible exact ih1 _ _ _ _ _ _ _ _ _ _)
      | (with_reducible exact ih2 _ _ _ _ _ _ _ _ _ _)
      | (with_reducible exact ih3 _ _ _ _ _ _ _ _ _ _)
      | (with_reducible exact ih4 _ _ _ _ _ _ _ _ _ _)
      | (with_reducible exact kimberlitelaw07_alive.mono _)
      | (with_reducible exact kimberlitelaw07_few.mono _ _)
      | (with_reducible exact kimberlitelaw07_hashes.mono _ _ _)
      | (with_reducible exact kimberlitelaw07_steps.mono _ _ _)
      | (with_reducible exact kimberliteref07_Extend.mono _ _ _)
      | (with_reducible exact kimberliteref07_Include.mono _ _ _)
      | (with_reducible exact proof_Extend.mono _ _ _)
      | (with_reducible exact proof_Include.mono _ _ _)
      | (with_reducible exact LeO.refl _)
      | (with_reducible exact LeO.none _)
      | (with_reducible refine LeO.ite ?_ ?_)
      | (with_reducible refine LeO.bind ?_ (fun _ => ?_))
      | exact ih0 _ _ _ _ _ _ _ _
      | exact ih1 _ _ _ _ _ _ _ _ _ _
      | exact ih2 _ _ _ _ _ _ _ _ _ _
      | exact ih3 _ _ _ _ _ _ _ _ _ _
      | exact ih4 _ _ _ _ _ _ _ _ _ _
      | exact kimberlitelaw07_alive.mono _
      | exact kimberlitelaw07_few.mono _ _
      | exact kimberlitelaw07_hashes.mono _ _ _
      | exact kimberlitelaw07_steps.mono _ _ _
      | exact kimberliteref07_Extend.mono _ _ _
      | exact kimberliteref07_Include.mono _ _ _
      | exact proof_Extend.mono _ _ _
      | exact proof_Include.mono _ _ _
      | exact LeO.none _
      | refine LeO.ite ?_ ?_
      | refine LeO.bind ?_ (fun _ => ?_)
theorem kimberlitelaw07_ProofMakes.mono : ∀ a0 a1 a2 k, LeO (kimberlitelaw07_ProofMakes.f k a0 a1 a2) (kimberlitelaw07_ProofMakes.f (k + 1) a0 a1 a2) := by
  intro a0 a1 a2 k
  obtain ⟨ih0, ih1, ih2, ih3, ih4⟩ := kimberlitelaw07_ProofMakes.mono_l k
  unfold kimberlitelaw07_ProofMakes.f
  repeat' first
      | (with_reducible exact ih0 _ _ _ _ _ _ _ _)
      | (with_reducible exact ih1 _ _ _ _ _ _ _ _ _ _)
      | (with_reducible exact ih2 _ _ _ _ _ _ _ _ _ _)
      | (with_reducible exact ih3 _ _ _ _ _ _ _ _ _ _)
      | (with_reducible exact ih4 _ _ _ _ _ _ _ _ _ _)
      | (with_reducible exact kimberlitelaw07_alive.mono _)
      | (with_reducible exact kimberlitelaw07_few.mono _ _)
      | (with_reducible exact kimberlitelaw07_hashes.mono _ _ _)
      | (with_reducible exact kimberlitelaw07_steps.mono _ _ _)
      | (with_reducible exact kimberliteref07_Extend.mono _ _ _)
      | (with_reducible exact kimberliteref07_Include.mono _ _ _)
      | (with_reducible exact proof_Extend.mono _ _ _)
      | (with_reducible exact proof_Include.mono _ _ _)
      | (with_reducible exact LeO.refl _)
      | (with_reducible exact LeO.none _)
      | (with_reducible refine LeO.ite ?_ ?_)
      | (with_reducible refine LeO.bind ?_ (fun _ => ?_))
      | exact ih0 _ _ _ _ _ _ _ _
      | exact ih1 _ _ _ _ _ _ _ _ _ _
      | exact ih2 _ _ _ _ _ _ _ _ _ _
      | exact ih3 _ _ _ _ _ _ _ _ _ _
      | exact ih4 _ _ _ _ _ _ _ _ _ _
      | exact kimberlitelaw07_alive.mono _
      | exact kimberlitelaw07_few.mono _ _
      | exact kimberlitelaw07_hashes.mono _ _ _
      | exact kimberlitelaw07_steps.mono _ _ _
      | exact kimberliteref07_Extend.mono _ _ _
      | exact kimberliteref07_Include.mono _ _ _
      | exact proof_Extend.mono _ _ _
      | exact proof_Include.mono _ _ _
      | exact LeO.none _
      | refine LeO.ite ?_ ?_
      | refine LeO.bind ?_ (fun _ => ?_)
set_option maxHeartbeats 8000000 in
set_option maxRecDepth 100000 in
theorem kimberlitelaw07_ProofMakes.calls (k : Nat) (A0 : Option Addr) (c0 : Nat) (l0 : List (List Int)) (a1 : Int) (a2 : Int) (r : Bool) (w : World) (hr0 : Kd.C (Kd.slice 5 (Kd.int .u8)) w A0 l0.length l0) (hc0 : l0.length ≤ c0) (h : kimberlitelaw07_ProofMakes.f k l0 a1 a2 = some r) :
    Calls Try.prog 9 #[.slice A0 l0.length c0, .int .i64 a1, .int .i64 a2] w fun e w' => e = .returned (.bool r) ∧ Below w.heap.size w w' := by
  have HR0 := Aside0.mk hr0
  have HC0 := Aside0.mk hc0
  clear hr0 hc0
  have HB := Aside0.mk (Below.refl w.heap.size w)
  have H : ((kimberlitelaw07_few.f k l0).bind fun t535 => (if t535 = true then ((kimberliteref07_Include.f k l0 a1).bind fun bt537 => ((kimberliteref07_Extend.f k l0 a2).bind fun bt541 => (kimberlitelaw07_ProofMakes.l0 k l0 a1 a2 bt537.1 bt537.2 bt541.1 bt541.2 0))) else ((kimberlitelaw07_alive.f k).bind fun t536 => (some t536)))) = some r := h
  clear h
  replace H := Option.bind_eq_some_iff.mp H
  obtain ⟨t535, A40, H⟩ := H
  replace H : (if t535 = true then ((kimberliteref07_Include.f k l0 a1).bind fun bt537 => ((kimberliteref07_Extend.f k l0 a2).bind fun bt541 => (kimberlitelaw07_ProofMakes.l0 k l0 a1 a2 bt537.1 bt537.2 bt541.1 bt541.2 0))) else ((kimberlitelaw07_alive.f k).bind fun t536 => (some t536))) = some r := H
  have A4 := Aside0.mk A40
  clear A40
  by_cases c5 : t535 = true
  · subst c5
    have H1 : ((kimberliteref07_Include.f k l0 a1).bind fun bt537 => ((kimberliteref07_Extend.f k l0 a2).bind fun bt541 => (kimberlitelaw07_ProofMakes.l0 k l0 a1 a2 bt537.1 bt537.2 bt541.1 bt541.2 0))) = some r := by rw [if_pos rfl] at H; exact H
    clear H
    have H := H1
    clear H1
    replace H := Option.bind_eq_some_iff.mp H
    obtain ⟨⟨t537, t538⟩, A60, H⟩ := H
    replace H : ((kimberliteref07_Extend.f k l0 a2).bind fun bt541 => (kimberlitelaw07_ProofMakes.l0 k l0 a1 a2 t537 t538 bt541.1 bt541.2 0)) = some r := H
    have A6 := Aside0.mk A60
    clear A60
    replace H := Option.bind_eq_some_iff.mp H
    obtain ⟨⟨t541, t542⟩, A70, H⟩ := H
    replace H : (kimberlitelaw07_ProofMakes.l0 k l0 a1 a2 t537 t538 t541 t542 0) = some r := H
    have A7 := Aside0.mk A70
    clear A70
    have H' := Aside0.mk H
    clear H
    go_enter Try.func9, Try.ntmps9
    go_wp2_with (first | ((with_reducible refine gate_callee (f := 24) rfl ?_); refine goesL_ (some 18) rfl rfl Try.func24 (by kernel_rfl) rfl #[.slice A0 l0.length c0] rfl (by (try simp only [List.map_toArray, List.map_cons, List.map_nil]); first | done | rfl | (simp only [List.length_drop, List.length_take]; rfl)) ?_; (with_reducible refine (kimberlitelaw07_few.calls k _ _ l0 true _ ?side1 ?side2 A4.out).mono ?_); (case side1 => repeat (first | exact HR0.out | (with_reducible refine Kd.C_alloc ?_ _) | (with_reducible refine Kd.C_drewN ?_ _) | (with_reducible refine Kd.C_drew ?_))); (case side2 => exact HC0.out); rintro e w' ⟨rfl, ⟨nd, rfl⟩⟩; refine ⟨_, rfl, ?_⟩) | ((with_reducible refine gate_callee (f := 38) rfl ?_); refine goesL_ (some 24) rfl rfl Try.func38 (by kernel_rfl) rfl #[.slice A0 l0.length c0, .int .i64 a1] rfl (by (try simp only [List.map_toArray, List.map_cons, List.map_nil]); first | done | rfl | (simp only [List.length_drop, List.length_take]; rfl)) ?_; (with_reducible refine (kimberliteref07_Include.calls k _ _ l0 a1 t537 t538 _ ?side1 ?side2 A6.out).mono ?_); (case side1 => repeat (first | exact HR0.out | (with_reducible refine Kd.C_alloc ?_ _) | (with_reducible refine Kd.C_drewN ?_ _) | (with_reducible refine Kd.C_drew ?_))); (case side2 => exact HC0.out); rintro e w8 ⟨v539, rfl, ho0, hb⟩; refine ⟨_, rfl, ?_⟩; have n0_ := Aside0.mk (Kd.R_lower ho0 (below_size (by repeat (first | (with_reducible first | exact HB.out | apply below_alloc | apply pw_below_drewN | apply below_drew1) | exact HB.out)))); have n1_ := Aside0.mk (below_step (by repeat (first | (with_reducible first | exact HB.out | apply below_alloc | apply pw_below_drewN | apply below_drew1) | exact HB.out)) hb); clear HB; have HO540 := n0_; have HB := n1_; clear n0_ n1_; (try clear hb); (try clear hb2); (try clear hk); (try clear hi); (try clear ho0)) | ((with_reducible refine gate_callee (f := 39) rfl ?_); refine goesL_ (some 30) rfl rfl Try.func39 (by kernel_rfl) rfl #[.slice A0 l0.length c0, .int .i64 a2] rfl (by (try simp only [List.map_toArray, List.map_cons, List.map_nil]); first | done | rfl | (simp only [List.length_drop, List.length_take]; rfl)) ?_; (with_reducible refine (kimberliteref07_Extend.calls k _ _ l0 a2 t541 t542 _ ?side1 ?side2 A7.out).mono ?_); (case side1 => repeat (first | exact (Kd.C_below HR0.out HB.out) | (with_reducible refine Kd.C_alloc ?_ _) | (with_reducible refine Kd.C_drewN ?_ _) | (with_reducible refine Kd.C_drew ?_))); (case side2 => exact HC0.out); rintro e w9 ⟨v543, rfl, ho0, hb⟩; refine ⟨_, rfl, ?_⟩; have n0_ := Aside0.mk (Kd.R_below (by (with_reducible repeat (first | apply Kd.R_alloc | apply Kd.R_drewN | apply Kd.R_drew)); exact HO540.out) hb); have n1_ := Aside0.mk (Kd.R_lower ho0 (below_size (by repeat (first | (with_reducible first | exact HB.out | apply below_alloc | apply pw_below_drewN | apply below_drew1) | exact HB.out)))); have n2_ := Aside0.mk (below_step (by repeat (first | (with_reducible first | exact HB.out | apply below_alloc | apply pw_below_drewN | apply below_drew1) | exact HB.out)) hb); clear HO540; clear HB; have HO540 := n0_; have HO544 := n1_; have HB := n2_; clear n0_ n1_ n2_; (try clear hb); (try clear hb2); (try clear hk); (try clear hi); (try clear ho0)))
    go_loopg [11] k (fun kq v11 w' => ∃ (x7_1 : List (S54)) (x9_1 : List Int) (x11_1 : Int), v11 = .int .i64 x11_1 ∧ Aside0 (kimberlitelaw07_ProofMakes.l0 kq l0 a1 a2 x7_1 t538 x9_1 t542 x11_1 = some r) ∧ Aside0 (kq ≤ k) ∧ Aside0 (Kd.R k54 54 w' w.heap.size (fun _ => True) v539 x7_1) ∧ Aside0 (Kd.R (Kd.int .u64) 33 w' w.heap.size (fun _ => True) v543 x9_1) ∧ Aside0 (Below w.heap.size w w'))
    case atStart => exact ⟨(t537), (t541), (0), (by first | rfl | (simp; done) | (simp [*]; done)), H', ⟨Nat.le_refl _⟩, ⟨by (with_reducible repeat (first | apply Kd.R_alloc | apply Kd.R_drewN | apply Kd.R_drew)); exact HO540.out⟩, ⟨by (with_reducible repeat (first | apply Kd.R_alloc | apply Kd.R_drewN | apply Kd.R_drew)); exact HO544.out⟩, ⟨by repeat (first | (with_reducible first | exact HB.out | apply below_alloc | apply pw_below_drewN | apply below_drew1) | exact HB.out)⟩⟩
    case round =>
      clear H'
      try clear c2
      try clear p2
      try clear c3
      try clear c5
      try clear c9
      obtain ⟨x7_1, x9_1, x11_1, rfl, HA, HK1, HO_7, HO_9, HB⟩ := hrel
      cases gk with
      | zero => exact absurd HA.out (by simp [kimberlitelaw07_ProofMakes.l0])
      | succ k1 =>
        have H := HA.out
        clear HA
        simp only [kimberlitelaw07_ProofMakes.l0] at H
        by_cases c10 : x11_1 < 2
        · rw [if_pos c10] at H
          have c10b0 : decide (x11_1 < 2) = true := decide_eq_true c10
          clear c10
          replace H := Option.bind_eq_some_iff.mp H
          obtain ⟨⟨t546, t547⟩, A110, H⟩ := H
          replace H : ((kimberlitelaw07_steps.f k1 t546 x7_1).bind fun t550 => (if t550 = true then (kimberlitelaw07_ProofMakes.j1 k1 l0 a1 a2 x7_1 t538 x9_1 t542 x11_1 t546 (t547 != t538)) else (kimberlitelaw07_ProofMakes.j1 k1 l0 a1 a2 x7_1 t538 x9_1 t542 x11_1 t546 true))) = some r := H
          have A11 := Aside0.mk A110
          clear A110
          have HC12 := Aside0.mk H
          clear H
          go_upto_region 9 with (first | ((with_reducible refine gate_callee (f := 36) rfl ?_); refine goesL_ (some 40) rfl rfl Try.func36 (by kernel_rfl) rfl #[.slice A0 l0.length c0, .int .i64 a1] rfl (by (try simp only [List.map_toArray, List.map_cons, List.map_nil]); first | done | rfl | (simp only [List.length_drop, List.length_take]; rfl)) ?_; (with_reducible refine (proof_Include.calls k1 _ _ l0 a1 t546 t547 _ ?side1 ?side2 A11.out).mono ?_); (case side1 => repeat (first | exact (Kd.C_below HR0.out HB.out) | (with_reducible refine Kd.C_alloc ?_ _) | (with_reducible refine Kd.C_drewN ?_ _) | (with_reducible refine Kd.C_drew ?_))); (case side2 => exact HC0.out); rintro e w13 ⟨v548, rfl, ho0, hb⟩; refine ⟨_, rfl, ?_⟩; have n0_ := Aside0.mk (Kd.R_elder' (by (with_reducible repeat (first | apply Kd.R_alloc | apply Kd.R_drewN | apply Kd.R_drew)); exact HO_7.out) (Kd.R_base ho0) hb); have n1_ := Aside0.mk (Kd.R_below (by (with_reducible repeat (first | apply Kd.R_alloc | apply Kd.R_drewN | apply Kd.R_drew)); exact HO_9.out) hb); have n2_ := Aside0.mk (Kd.R_lower (Kd.R_new' ho0 (Kd.R_lt (by (with_reducible repeat (first | apply Kd.R_alloc | apply Kd.R_drewN | apply Kd.R_drew)); exact HO_7.out))) (below_size (by repeat (first | (with_reducible first | exact HB.out | apply below_alloc | apply pw_below_drewN | apply below_drew1) | exact HB.out)))); have n3_ := Aside0.mk (below_step (by repeat (first | (with_reducible first | exact HB.out | apply below_alloc | apply pw_below_drewN | apply below_drew1) | exact HB.out)) hb); clear HO_7; clear HO_9; clear HB; have HO_7 := n0_; have HO_9 := n1_; have HO549 := n2_; have HB := n3_; clear n0_ n1_ n2_ n3_; (try clear hb); (try clear hb2); (try clear hk); (try clear hi); (try clear ho0)))
          (try simp only [Act.put, List.setIfInBounds_toArray, List.set_cons_zero, List.set_cons_succ])
          go_cut [51] (fun v51 wc => ∃ (kq : Nat) (x51_11 : Bool), v51 = .bool x51_11 ∧ Aside0 (kimberlitelaw07_ProofMakes.j1 kq l0 a1 a2 x7_1 t538 x9_1 t542 x11_1 t546 x51_11 = some r) ∧ Aside0 (kq ≤ k1) ∧ Aside0 (Kd.R k54 54 wc w.heap.size (fun k_ => some k_ ≠ (v548 : Value).ownBlock) v539 x7_1) ∧ Aside0 (Kd.R (Kd.int .u64) 33 wc w.heap.size (fun _ => True) v543 x9_1) ∧ Aside0 (Kd.R k54 54 wc w.heap.size (fun k_ => some k_ ≠ (v539 : Value).ownBlock) v548 t546) ∧ Aside0 (Below w.heap.size w wc))
          case first =>
            have H := HC12.out
            clear HC12
            replace H := Option.bind_eq_some_iff.mp H
            obtain ⟨t550, A140, H⟩ := H
            replace H : (if t550 = true then (kimberlitelaw07_ProofMakes.j1 k1 l0 a1 a2 x7_1 t538 x9_1 t542 x11_1 t546 (t547 != t538)) else (kimberlitelaw07_ProofMakes.j1 k1 l0 a1 a2 x7_1 t538 x9_1 t542 x11_1 t546 true)) = some r := H
            have A14 := Aside0.mk A140
            clear A140
            by_cases c15 : t550 = true
            · subst c15
              have H1 : (kimberlitelaw07_ProofMakes.j1 k1 l0 a1 a2 x7_1 t538 x9_1 t542 x11_1 t546 (t547 != t538)) = some r := by rw [if_pos rfl] at H; exact H
              clear H
              have H := H1
              clear H1
              have H' := Aside0.mk H
              clear H
              obtain ⟨Ao16, co16, eo16⟩ := Kd.R_slice HO549.out
              subst eo16
              obtain ⟨Ao17, co17, eo17⟩ := Kd.R_slice HO_7.out
              subst eo17
              go_wp2_with (first | ((with_reducible refine gate_callee (f := 40) rfl ?_); refine goesL_ (some 45) rfl rfl Try.func40 (by kernel_rfl) rfl #[.slice Ao16 t546.length co16, .slice Ao17 x7_1.length co17] rfl (by (try simp only [List.map_toArray, List.map_cons, List.map_nil]); first | done | rfl | (simp only [List.length_drop, List.length_take]; rfl)) ?_; (with_reducible refine (kimberlitelaw07_steps.calls k1 _ _ t546 _ _ x7_1 true _ ?side1 ?side2 ?side3 ?side4 A14.out).mono ?_); (case side1 => repeat (first | exact (Kd.R_reads' HO549.out).2.2 | (with_reducible refine Kd.C_alloc ?_ _) | (with_reducible refine Kd.C_drewN ?_ _) | (with_reducible refine Kd.C_drew ?_))); (case side2 => exact (Kd.R_reads' HO549.out).2.1); (case side3 => repeat (first | exact (Kd.R_reads' HO_7.out).2.2 | (with_reducible refine Kd.C_alloc ?_ _) | (with_reducible refine Kd.C_drewN ?_ _) | (with_reducible refine Kd.C_drew ?_))); (case side4 => exact (Kd.R_reads' HO_7.out).2.1); rintro e w' ⟨rfl, ⟨nd, rfl⟩⟩; refine ⟨_, rfl, ?_⟩))
              go_meet
              case rel => exact ⟨_, ((t547 != t538)), (by first | rfl | (simp; done) | (simp [*]; done)), H', ⟨by have := HK1.out; first | omega | exact Nat.le_refl _⟩, ⟨by (with_reducible repeat (first | apply Kd.R_alloc | apply Kd.R_drewN | apply Kd.R_drew)); exact Kd.R_mono HO_7.out (fun _ hk => hk.2)⟩, ⟨by (with_reducible repeat (first | apply Kd.R_alloc | apply Kd.R_drewN | apply Kd.R_drew)); exact HO_9.out⟩, ⟨by (with_reducible repeat (first | apply Kd.R_alloc | apply Kd.R_drewN | apply Kd.R_drew)); exact Kd.R_mono HO549.out (fun _ hk => hk.2)⟩, ⟨by repeat (first | (with_reducible first | exact HB.out | apply below_alloc | apply pw_below_drewN | apply below_drew1) | exact HB.out)⟩⟩
            · replace c15 := Bool.eq_false_iff.mpr c15
              subst c15
              have H1 : (kimberlitelaw07_ProofMakes.j1 k1 l0 a1 a2 x7_1 t538 x9_1 t542 x11_1 t546 true) = some r := by rw [if_neg (show ¬ (false = true) by decide)] at H; exact H
              clear H
              have H := H1
              clear H1
              have H' := Aside0.mk H
              clear H
              obtain ⟨Ao18, co18, eo18⟩ := Kd.R_slice HO549.out
              subst eo18
              obtain ⟨Ao19, co19, eo19⟩ := Kd.R_slice HO_7.out
              subst eo19
              go_wp2_with (first | ((with_reducible refine gate_callee (f := 40) rfl ?_); refine goesL_ (some 45) rfl rfl Try.func40 (by kernel_rfl) rfl #[.slice Ao18 t546.length co18, .slice Ao19 x7_1.length co19] rfl (by (try simp only [List.map_toArray, List.map_cons, List.map_nil]); first | done | rfl | (simp only [List.length_drop, List.length_take]; rfl)) ?_; (with_reducible refine (kimberlitelaw07_steps.calls k1 _ _ t546 _ _ x7_1 false _ ?side1 ?side2 ?side3 ?side4 A14.out).mono ?_); (case side1 => repeat (first | exact (Kd.R_reads' HO549.out).2.2 | (with_reducible refine Kd.C_alloc ?_ _) | (with_reducible refine Kd.C_drewN ?_ _) | (with_reducible refine Kd.C_drew ?_))); (case side2 => exact (Kd.R_reads' HO549.out).2.1); (case side3 => repeat (first | exact (Kd.R_reads' HO_7.out).2.2 | (with_reducible refine Kd.C_alloc ?_ _) | (with_reducible refine Kd.C_drewN ?_ _) | (with_reducible refine Kd.C_drew ?_))); (case side4 => exact (Kd.R_reads' HO_7.out).2.1); rintro e w' ⟨rfl, ⟨nd, rfl⟩⟩; refine ⟨_, rfl, ?_⟩))
              go_meet
              case rel => exact ⟨_, (true), (by first | rfl | (simp; done) | (simp [*]; done)), H', ⟨by have := HK1.out; first | omega | exact Nat.le_refl _⟩, ⟨by (with_reducible repeat (first | apply Kd.R_alloc | apply Kd.R_drewN | apply Kd.R_drew)); exact Kd.R_mono HO_7.out (fun _ hk => hk.2)⟩, ⟨by (with_reducible repeat (first | apply Kd.R_alloc | apply Kd.R_drewN | apply Kd.R_drew)); exact HO_9.out⟩, ⟨by (with_reducible repeat (first | apply Kd.R_alloc | apply Kd.R_drewN | apply Kd.R_drew)); exact Kd.R_mono HO549.out (fun _ hk => hk.2)⟩, ⟨by repeat (first | (with_reducible first | exact HB.out | apply below_alloc | apply pw_below_drewN | apply below_drew1) | exact HB.out)⟩⟩
          case rest =>
            clear HC12
            try clear c1
            try clear c2
            try clear p2
            try clear c3
            try clear c4
            try clear c5
            try clear c9
            try clear c10
            try clear c10b0
            try clear c15
            try clear p2
            obtain ⟨kq, x51_11, rfl, HA, HJ11, HO_7, HO_9, HO_12, HB⟩ := hcut
            cases kq with
            | zero => exact absurd HA.out (by simp [kimberlitelaw07_ProofMakes.j1])
            | succ kj11 =>
              have H := HA.out
              clear HA
              simp only [kimberlitelaw07_ProofMakes.j1] at H
              by_cases c20 : x51_11 = true
              · subst c20
                have H1 : (some false) = some r := by rw [if_pos rfl] at H; exact H
                clear H
                have H := H1
                clear H1
                obtain rfl := Option.some.inj H
                go_wp2
                go_ret
                exact ⟨by first | rfl | (simp [errW_none, errW_some] <;> rfl) | (simp [*, errW_none, errW_some] <;> rfl), by repeat (first | (with_reducible first | exact HB.out | apply below_alloc | apply pw_below_drewN | apply below_drew1) | exact HB.out)⟩
              · replace c20 := Bool.eq_false_iff.mpr c20
                subst c20
                have H1 : (kimberlitelaw07_ProofMakes.l1 kj11 l0 a1 a2 x7_1 t538 x9_1 t542 x11_1 t546 0) = some r := by rw [if_neg (show ¬ (false = true) by decide)] at H; exact H
                clear H
                have H := H1
                clear H1
                have H' := Aside0.mk H
                clear H
                go_wp2
                go_loopg [14] kj11 (fun kq v14 w' => ∃ (x12_3 : List (S54)) (x14_3 : Int), v14 = .int .i64 x14_3 ∧ Aside0 (kimberlitelaw07_ProofMakes.l1 kq l0 a1 a2 x7_1 t538 x9_1 t542 x11_1 x12_3 x14_3 = some r) ∧ Aside0 (kq ≤ kj11) ∧ Aside0 (Kd.R k54 54 w' w.heap.size (fun k_ => some k_ ≠ (v548 : Value).ownBlock) v539 x7_1) ∧ Aside0 (Kd.R (Kd.int .u64) 33 w' w.heap.size (fun _ => True) v543 x9_1) ∧ Aside0 (Kd.R k54 54 w' w.heap.size (fun k_ => some k_ ≠ (v539 : Value).ownBlock) v548 x12_3) ∧ Aside0 (Below w.heap.size w w'))
                case atStart => exact ⟨(t546), (0), (by first | rfl | (simp; done) | (simp [*]; done)), H', ⟨Nat.le_refl _⟩, ⟨by (with_reducible repeat (first | apply Kd.R_alloc | apply Kd.R_drewN | apply Kd.R_drew)); exact HO_7.out⟩, ⟨by (with_reducible repeat (first | apply Kd.R_alloc | apply Kd.R_drewN | apply Kd.R_drew)); exact HO_9.out⟩, ⟨by (with_reducible repeat (first | apply Kd.R_alloc | apply Kd.R_drewN | apply Kd.R_drew)); exact HO_12.out⟩, ⟨by repeat (first | (with_reducible first | exact HB.out | apply below_alloc | apply pw_below_drewN | apply below_drew1) | exact HB.out)⟩⟩
                case round =>
                  clear H'
                  try clear c1
                  try clear c2
                  try clear p2
                  try clear c3
                  try clear c4
                  try clear c5
                  try clear c9
                  try clear c10
                  try clear c10b0
                  try clear c15
                  try clear c20
                  try clear p2
                  obtain ⟨x12_3, x14_3, rfl, HA, HK3, HO_7, HO_9, HO_12, HB⟩ := hrel
                  cases gk with
                  | zero => exact absurd HA.out (by simp [kimberlitelaw07_ProofMakes.l1])
                  | succ k3 =>
                    have H := HA.out
                    clear HA
                    simp only [kimberlitelaw07_ProofMakes.l1] at H
                    by_cases c21 : x14_3 < (x12_3.length : Int)
                    · rw [if_pos c21] at H
                      have c21b0 : decide (x14_3 < (x12_3.length : Int)) = true := decide_eq_true c21
                      clear c21
                      by_cases c22 : 0 ≤ x14_3
                      · rw [if_pos c22] at H
                        have c22b0 : decide (0 ≤ x14_3) = true := decide_eq_true c22
                        clear c22
                        obtain ⟨y552, hy552⟩ : ∃ y_ : List (S54), y_ = (x12_3.set (x14_3 : Int).toNat (⟨IntKind.u64.wrap (((rd_T54 x12_3 x14_3).f0) + 1), (rd_T54 x12_3 x14_3).f1⟩ : S54)) := ⟨_, rfl⟩
                        replace H : (kimberlitelaw07_ProofMakes.l1 k3 l0 a1 a2 x7_1 t538 x9_1 t542 x11_1 y552 (wrap64 (x14_3 + 1))) = some r := by first | (rw [hy552]; with_reducible exact H) | (have H2_ := (Option.bind_some _ _).symm.trans H; rw [hy552]; with_reducible exact H2_) | (have H2_ := (Option.bind_some _ _).symm.trans H; with_reducible exact H2_) | with_reducible exact H | (rw [hy552]; exact H) | exact H
                        have Ny552 := Aside0.mk hy552
                        clear hy552
                        have H' := Aside0.mk H
                        clear H
                        obtain ⟨Ao24, co24, eo24⟩ := Kd.R_slice HO_12.out
                        subst eo24
                        have p551 : 0 ≤ (x14_3 : Int) := of_decide_eq_true (by first | (with_reducible assumption) | assumption)
                        have q551 : x14_3 < (x12_3.length : Int) := of_decide_eq_true (by first | (with_reducible assumption) | assumption)
                        obtain ⟨ad551, e551, hx551_0, hx551_1⟩ := at_T54 (Kd.R_reads' HO_12.out).2.2 x14_3 p551 q551
                        cases e551
                        replace p551 := eq_true p551
                        replace q551 := eq_true q551
                        have p23 : 0 ≤ (x14_3 : Int) := of_decide_eq_true (by first | (with_reducible assumption) | assumption)
                        have q23 : (x14_3 : Int) < ((x12_3.length : Int) : Int) := of_decide_eq_true (by first | (with_reducible assumption) | assumption)
                        obtain ⟨go23, co23, eo23, gb23, gl23, cl23, HG23⟩ := Kd.R_form HO_12.out (by omega)
                        (first | cases eo23 | (injection eo23 with ea_ en_ ec_; (first | subst ea_ | (injection ea_ with ea_; subst ea_)); subst ec_; clear en_))
                        have GB23 := Aside0.mk gb23
                        have GG23 := Aside0.mk HG23
                        clear gb23 gl23 HG23
                        (first | simp only [add_plain] at hx551_0 | skip)
                        (first | simp only [add_plain] at hx551_1 | skip)
                        obtain ⟨ce23, hcl23, hM23, hcc23, hfr23⟩ := Kd.R_elem HO_12.out z54 (x14_3 : Int) p23 q23
                        obtain rfl := k54_openM hM23
                        have hx23_0 : wr.cell? ⟨go23, (x14_3 : Int).toNat * 2, none⟩ = some (.int .u64 ((rd_T54 x12_3 x14_3).f0)) := hcc23 0 _ rfl
                        have hx23_1 : wr.cell? ⟨go23, (x14_3 : Int).toNat * 2 + 1, none⟩ = some (.bool ((rd_T54 x12_3 x14_3).f1)) := hcc23 1 _ rfl
                        have hf23_0 : wr.frozen? ⟨go23, (x14_3 : Int).toNat * 2, none⟩ = false := hfr23 0
                        have hf23_1 : wr.frozen? ⟨go23, (x14_3 : Int).toNat * 2 + 1, none⟩ = false := hfr23 1
                        clear hcl23 hcc23 hfr23 hM23
                        replace p23 := eq_true p23
                        replace q23 := eq_true q23
                        have HX25 := Aside0.mk (show Kd.R k54 54 wr w.heap.size (fun k_ => some k_ ≠ (v539 : Value).ownBlock) (.slice (some ⟨go23, 0, none⟩) x12_3.length co24) x12_3 from (by (with_reducible repeat (first | apply Kd.R_alloc | apply Kd.R_drewN | apply Kd.R_drew)); exact HO_12.out))
                        obtain ⟨ce25, hcl25, hM25, hcc25, hfr25⟩ := Kd.R_elem HX25.out z54 (x14_3 : Int) (of_decide_eq_true (by first | (with_reducible assumption) | assumption)) (by have h_ : (x14_3 : Int) < ((x12_3.length : Int) : Int) := of_decide_eq_true (by first | (with_reducible assumption) | assumption); first | exact h_ | (have e_ := (Kd.R_reads' HO_12.out).1; omega) | simpa using h_)
                        obtain rfl := k54_openM hM25
                        have HP25 := Kd.R_seg HX25.out (x14_3 : Int) (of_decide_eq_true (by first | (with_reducible assumption) | assumption)) (by have h_ : (x14_3 : Int) < ((x12_3.length : Int) : Int) := of_decide_eq_true (by first | (with_reducible assumption) | assumption); first | exact h_ | (have e_ := (Kd.R_reads' HO_12.out).1; omega) | simpa using h_) (seg := [.int .u64 (IntKind.u64.wrap (((rd_T54 x12_3 x14_3).f0) + 1))]) (j := 0) hcl25 hcc25 (show 1 ≤ 2 from by decide) (x' := (⟨IntKind.u64.wrap (((rd_T54 x12_3 x14_3).f0) + 1), (rd_T54 x12_3 x14_3).f1⟩ : S54)) (k54_mkM _ _ _ (⟨IntKind.u64.wrap (((rd_T54 x12_3 x14_3).f0) + 1), (rd_T54 x12_3 x14_3).f1⟩ : S54) ) (fun _ hk => hk)
                        have hx25_0 := hcc25 0 _ rfl
                        (try simp only [show (k54).sz = 2 from rfl, Nat.mul_one, Nat.add_zero] at hx25_0)
                        have hf25_0 := hfr25 0
                        (try simp only [show (k54).sz = 2 from rfl, Nat.mul_one, Nat.add_zero] at hf25_0)
                        clear hcl25 hcc25 hfr25 hM25
                        go_wp2_with (first | ((with_reducible refine gate_store (t := 33) (p := 65) rfl ?_); refine store_event (t := 33) (p := 65) (v := ?vo_w26) (w1 := (wr.setCell ⟨go23, (x14_3 : Int).toNat * 2, none⟩ (.int .u64 (IntKind.u64.wrap (((rd_T54 x12_3 x14_3).f0) + 1))))) ?hg ?ho ?hn ?hr ?_; (case ho => rfl); (case hg => rfl); (case hn => rfl); (case hr => first | (go_simp; done) | (go_simp; rfl)); intro w26 hw; have hg : wr.grownBy w26 (some go23) := (by rw [hw]; exact HP25.2); have hp_ : Kd.R k54 54 w26 w.heap.size (fun k_ => some k_ ≠ (v539 : Value).ownBlock) (.slice (some ⟨go23, 0, none⟩) x12_3.length co24) y552 := (by rw [hw, Ny552.out]; exact HP25.1); clear HP25; have n0_ := Aside0.mk (Kd.R_after (v := (.slice (some ⟨go23, 0, none⟩) x12_3.length co24)) (v1 := (.slice (some ⟨go23, 0, none⟩) x12_3.length co24)) (ok := (fun _ => True)) (by (with_reducible repeat (first | apply Kd.R_alloc | apply Kd.R_drewN | apply Kd.R_drew)); exact Kd.R_mono HO_7.out (fun _ hk => ⟨trivial, hk⟩)) hg (.inl rfl)); have n1_ := Aside0.mk (Kd.R_over' (v := (.slice (some ⟨go23, 0, none⟩) x12_3.length co24)) (by (with_reducible repeat (first | apply Kd.R_alloc | apply Kd.R_drewN | apply Kd.R_drew)); exact HO_9.out) (Kd.R_typed HO_12.out) (by decide) hg); have n2_ := Aside0.mk (hp_); have n3_ := Aside0.mk ((by rw [hw]; exact below_set (HB.out) GB23.out : Below w.heap.size w w26)); clear HO_7; clear HO_9; clear HO_12; clear HB; have HO_7 := n0_; have HO_9 := n1_; have HO_12 := n2_; have HB := n3_; clear n0_ n1_ n2_ n3_; clear hg hw hp_))
                        go_roundg k3
                        case measure => have := HK1.out; have := HJ11.out; have := HK3.out; omega
                        case rel => exact ⟨(y552), (wrap64 (x14_3 + 1)), (by first | rfl | (simp; done) | (simp [*]; done)), H', ⟨by have := HK1.out; have := HJ11.out; have := HK3.out; omega⟩, ⟨by (with_reducible repeat (first | apply Kd.R_alloc | apply Kd.R_drewN | apply Kd.R_drew)); exact Kd.R_mono HO_7.out (fun _ hk => hk.2)⟩, ⟨by (with_reducible repeat (first | apply Kd.R_alloc | apply Kd.R_drewN | apply Kd.R_drew)); exact HO_9.out⟩, ⟨by (with_reducible repeat (first | apply Kd.R_alloc | apply Kd.R_drewN | apply Kd.R_drew)); exact HO_12.out⟩, ⟨by repeat (first | (with_reducible first | exact HB.out | apply below_alloc | apply pw_below_drewN | apply below_drew1) | exact HB.out)⟩⟩
                      · rw [if_neg c22] at H
                        exact absurd H (by simp)
                    · rw [if_neg c21] at H
                      have c21b0 : decide (x14_3 < (x12_3.length : Int)) = false := decide_eq_false c21
                      clear c21
                      replace H := Option.bind_eq_some_iff.mp H
                      obtain ⟨⟨t553, t554⟩, A270, H⟩ := H
                      replace H : ((kimberlitelaw07_hashes.f k3 t553 x9_1).bind fun t557 => (if t557 = true then (kimberlitelaw07_ProofMakes.j3 k3 l0 a1 a2 x7_1 t538 x9_1 t542 x11_1 t553 (t554 != t542)) else (kimberlitelaw07_ProofMakes.j3 k3 l0 a1 a2 x7_1 t538 x9_1 t542 x11_1 t553 true))) = some r := H
                      have A27 := Aside0.mk A270
                      clear A270
                      have HC28 := Aside0.mk H
                      clear H
                      obtain ⟨Ao29, co29, eo29⟩ := Kd.R_slice HO_12.out
                      subst eo29
                      go_upto_region 16 with (first | ((with_reducible refine gate_callee (f := 41) rfl ?_); refine goesL_ (some 69) rfl rfl Try.func41 (by kernel_rfl) rfl #[.slice A0 l0.length c0, .int .i64 a2] rfl (by (try simp only [List.map_toArray, List.map_cons, List.map_nil]); first | done | rfl | (simp only [List.length_drop, List.length_take]; rfl)) ?_; (with_reducible refine (proof_Extend.calls k3 _ _ l0 a2 t553 t554 _ ?side1 ?side2 A27.out).mono ?_); (case side1 => repeat (first | exact (Kd.C_below HR0.out HB.out) | (with_reducible refine Kd.C_alloc ?_ _) | (with_reducible refine Kd.C_drewN ?_ _) | (with_reducible refine Kd.C_drew ?_))); (case side2 => exact HC0.out); rintro e w30 ⟨v555, rfl, ho0, hb⟩; refine ⟨_, rfl, ?_⟩; have n0_ := Aside0.mk (Kd.R_below (by (with_reducible repeat (first | apply Kd.R_alloc | apply Kd.R_drewN | apply Kd.R_drew)); exact HO_7.out) hb); have n1_ := Aside0.mk (Kd.R_elder' (by (with_reducible repeat (first | apply Kd.R_alloc | apply Kd.R_drewN | apply Kd.R_drew)); exact HO_9.out) (Kd.R_base ho0) hb); have n2_ := Aside0.mk (Kd.R_below (by (with_reducible repeat (first | apply Kd.R_alloc | apply Kd.R_drewN | apply Kd.R_drew)); exact HO_12.out) hb); have n3_ := Aside0.mk (Kd.R_lower (Kd.R_new' ho0 (Kd.R_lt (by (with_reducible repeat (first | apply Kd.R_alloc | apply Kd.R_drewN | apply Kd.R_drew)); exact HO_9.out))) (below_size (by repeat (first | (with_reducible first | exact HB.out | apply below_alloc | apply pw_below_drewN | apply below_drew1) | exact HB.out)))); have n4_ := Aside0.mk (below_step (by repeat (first | (with_reducible first | exact HB.out | apply below_alloc | apply pw_below_drewN | apply below_drew1) | exact HB.out)) hb); clear HO_7; clear HO_9; clear HO_12; clear HB; have HO_7 := n0_; have HO_9 := n1_; have HO_12 := n2_; have HO556 := n3_; have HB := n4_; clear n0_ n1_ n2_ n3_ n4_; (try clear hb); (try clear hb2); (try clear hk); (try clear hi); (try clear ho0)))
                      (try simp only [Act.put, List.setIfInBounds_toArray, List.set_cons_zero, List.set_cons_succ])
                      go_cut [80] (fun v80 wc => ∃ (kq : Nat) (x80_27 : Bool), v80 = .bool x80_27 ∧ Aside0 (kimberlitelaw07_ProofMakes.j3 kq l0 a1 a2 x7_1 t538 x9_1 t542 x11_1 t553 x80_27 = some r) ∧ Aside0 (kq ≤ k3) ∧ Aside0 (Kd.R k54 54 wc w.heap.size (fun _ => True) v539 x7_1) ∧ Aside0 (Kd.R (Kd.int .u64) 33 wc w.heap.size (fun k_ => some k_ ≠ (v555 : Value).ownBlock) v543 x9_1) ∧ Aside0 (Kd.R (Kd.int .u64) 33 wc w.heap.size (fun k_ => some k_ ≠ (v543 : Value).ownBlock) v555 t553) ∧ Aside0 (Below w.heap.size w wc))
                      case first =>
                        have H := HC28.out
                        clear HC28
                        replace H := Option.bind_eq_some_iff.mp H
                        obtain ⟨t557, A310, H⟩ := H
                        replace H : (if t557 = true then (kimberlitelaw07_ProofMakes.j3 k3 l0 a1 a2 x7_1 t538 x9_1 t542 x11_1 t553 (t554 != t542)) else (kimberlitelaw07_ProofMakes.j3 k3 l0 a1 a2 x7_1 t538 x9_1 t542 x11_1 t553 true)) = some r := H
                        have A31 := Aside0.mk A310
                        clear A310
                        by_cases c32 : t557 = true
                        · subst c32
                          have H1 : (kimberlitelaw07_ProofMakes.j3 k3 l0 a1 a2 x7_1 t538 x9_1 t542 x11_1 t553 (t554 != t542)) = some r := by rw [if_pos rfl] at H; exact H
                          clear H
                          have H := H1
                          clear H1
                          have H' := Aside0.mk H
                          clear H
                          obtain ⟨Ao33, co33, eo33⟩ := Kd.R_slice HO556.out
                          subst eo33
                          obtain ⟨Ao34, co34, eo34⟩ := Kd.R_slice HO_9.out
                          subst eo34
                          go_wp2_with (first | ((with_reducible refine gate_callee (f := 42) rfl ?_); refine goesL_ (some 74) rfl rfl Try.func42 (by kernel_rfl) rfl #[.slice Ao33 t553.length co33, .slice Ao34 x9_1.length co34] rfl (by (try simp only [List.map_toArray, List.map_cons, List.map_nil]); first | done | rfl | (simp only [List.length_drop, List.length_take]; rfl)) ?_; (with_reducible refine (kimberlitelaw07_hashes.calls k3 _ _ t553 _ _ x9_1 true _ ?side1 ?side2 ?side3 ?side4 A31.out).mono ?_); (case side1 => repeat (first | exact (Kd.R_reads' HO556.out).2.2 | (with_reducible refine Kd.C_alloc ?_ _) | (with_reducible refine Kd.C_drewN ?_ _) | (with_reducible refine Kd.C_drew ?_))); (case side2 => exact (Kd.R_reads' HO556.out).2.1); (case side3 => repeat (first | exact (Kd.R_reads' HO_9.out).2.2 | (with_reducible refine Kd.C_alloc ?_ _) | (with_reducible refine Kd.C_drewN ?_ _) | (with_reducible refine Kd.C_drew ?_))); (case side4 => exact (Kd.R_reads' HO_9.out).2.1); rintro e w' ⟨rfl, ⟨nd, rfl⟩⟩; refine ⟨_, rfl, ?_⟩))
                          go_meet
                          case rel => exact ⟨_, ((t554 != t542)), (by first | rfl | (simp; done) | (simp [*]; done)), H', ⟨by have := HK1.out; have := HJ11.out; have := HK3.out; first | omega | exact Nat.le_refl _⟩, ⟨by (with_reducible repeat (first | apply Kd.R_alloc | apply Kd.R_drewN | apply Kd.R_drew)); exact Kd.R_mono HO_7.out (fun _ hk => trivial)⟩, ⟨by (with_reducible repeat (first | apply Kd.R_alloc | apply Kd.R_drewN | apply Kd.R_drew)); exact Kd.R_mono HO_9.out (fun _ hk => hk.2)⟩, ⟨by (with_reducible repeat (first | apply Kd.R_alloc | apply Kd.R_drewN | apply Kd.R_drew)); exact Kd.R_mono HO556.out (fun _ hk => hk.2)⟩, ⟨by repeat (first | (with_reducible first | exact HB.out | apply below_alloc | apply pw_below_drewN | apply below_drew1) | exact HB.out)⟩⟩
                        · replace c32 := Bool.eq_false_iff.mpr c32
                          subst c32
                          have H1 : (kimberlitelaw07_ProofMakes.j3 k3 l0 a1 a2 x7_1 t538 x9_1 t542 x11_1 t553 true) = some r := by rw [if_neg (show ¬ (false = true) by decide)] at H; exact H
                          clear H
                          have H := H1
                          clear H1
                          have H' := Aside0.mk H
                          clear H
                          obtain ⟨Ao35, co35, eo35⟩ := Kd.R_slice HO556.out
                          subst eo35
                          obtain ⟨Ao36, co36, eo36⟩ := Kd.R_slice HO_9.out
                          subst eo36
                          go_wp2_with (first | ((with_reducible refine gate_callee (f := 42) rfl ?_); refine goesL_ (some 74) rfl rfl Try.func42 (by kernel_rfl) rfl #[.slice Ao35 t553.length co35, .slice Ao36 x9_1.length co36] rfl (by (try simp only [List.map_toArray, List.map_cons, List.map_nil]); first | done | rfl | (simp only [List.length_drop, List.length_take]; rfl)) ?_; (with_reducible refine (kimberlitelaw07_hashes.calls k3 _ _ t553 _ _ x9_1 false _ ?side1 ?side2 ?side3 ?side4 A31.out).mono ?_); (case side1 => repeat (first | exact (Kd.R_reads' HO556.out).2.2 | (with_reducible refine Kd.C_alloc ?_ _) | (with_reducible refine Kd.C_drewN ?_ _) | (with_reducible refine Kd.C_drew ?_))); (case side2 => exact (Kd.R_reads' HO556.out).2.1); (case side3 => repeat (first | exact (Kd.R_reads' HO_9.out).2.2 | (with_reducible refine Kd.C_alloc ?_ _) | (with_reducible refine Kd.C_drewN ?_ _) | (with_reducible refine Kd.C_drew ?_))); (case side4 => exact (Kd.R_reads' HO_9.out).2.1); rintro e w' ⟨rfl, ⟨nd, rfl⟩⟩; refine ⟨_, rfl, ?_⟩))
                          go_meet
                          case rel => exact ⟨_, (true), (by first | rfl | (simp; done) | (simp [*]; done)), H', ⟨by have := HK1.out; have := HJ11.out; have := HK3.out; first | omega | exact Nat.le_refl _⟩, ⟨by (with_reducible repeat (first | apply Kd.R_alloc | apply Kd.R_drewN | apply Kd.R_drew)); exact Kd.R_mono HO_7.out (fun _ hk => trivial)⟩, ⟨by (with_reducible repeat (first | apply Kd.R_alloc | apply Kd.R_drewN | apply Kd.R_drew)); exact Kd.R_mono HO_9.out (fun _ hk => hk.2)⟩, ⟨by (with_reducible repeat (first | apply Kd.R_alloc | apply Kd.R_drewN | apply Kd.R_drew)); exact Kd.R_mono HO556.out (fun _ hk => hk.2)⟩, ⟨by repeat (first | (with_reducible first | exact HB.out | apply below_alloc | apply pw_below_drewN | apply below_drew1) | exact HB.out)⟩⟩
                      case rest =>
                        clear HC28
                        try clear c1
                        try clear c2
                        try clear p2
                        try clear q2
                        try clear hx2
                        try clear c3
                        try clear c4
                        try clear c5
                        try clear p5
                        try clear q5
                        try clear hx5
                        try clear p6
                        try clear c9
                        try clear c10
                        try clear c10b0
                        try clear c15
                        try clear c20
                        try clear c21
                        try clear c21b0
                        try clear c22
                        try clear c22b0
                        try clear c23
                        try clear p23
                        try clear q23
                        try clear hx23
                        try clear hf23
                        try clear c24
                        try clear c25
                        try clear hx25
                        try clear hf25
                        try clear c32
                        try clear c36
                        try clear hx23_0
                        try clear hx23_1
                        try clear hx25_0
                        try clear hx551_0
                        try clear hx551_1
                        try clear p2
                        try clear p23
                        try clear p551
                        try clear q23
                        try clear q551
                        obtain ⟨kq, x80_27, rfl, HA, HJ27, HO_7, HO_9, HO_15, HB⟩ := hcut
                        cases kq with
                        | zero => exact absurd HA.out (by simp [kimberlitelaw07_ProofMakes.j3])
                        | succ kj27 =>
                          have H := HA.out
                          clear HA
                          simp only [kimberlitelaw07_ProofMakes.j3] at H
                          by_cases c37 : x80_27 = true
                          · subst c37
                            have H1 : (some false) = some r := by rw [if_pos rfl] at H; exact H
                            clear H
                            have H := H1
                            clear H1
                            obtain rfl := Option.some.inj H
                            go_wp2
                            go_ret
                            exact ⟨by first | rfl | (simp [errW_none, errW_some] <;> rfl) | (simp [*, errW_none, errW_some] <;> rfl), by repeat (first | (with_reducible first | exact HB.out | apply below_alloc | apply pw_below_drewN | apply below_drew1) | exact HB.out)⟩
                          · replace c37 := Bool.eq_false_iff.mpr c37
                            subst c37
                            have H1 : (kimberlitelaw07_ProofMakes.l2 kj27 l0 a1 a2 x7_1 t538 x9_1 t542 x11_1 t553 0) = some r := by rw [if_neg (show ¬ (false = true) by decide)] at H; exact H
                            clear H
                            have H := H1
                            clear H1
                            have H' := Aside0.mk H
                            clear H
                            go_wp2
                            go_loopg [16] kj27 (fun kq v16 w' => ∃ (x15_5 : List Int) (x16_5 : Int), v16 = .int .i64 x16_5 ∧ Aside0 (kimberlitelaw07_ProofMakes.l2 kq l0 a1 a2 x7_1 t538 x9_1 t542 x11_1 x15_5 x16_5 = some r) ∧ Aside0 (kq ≤ kj27) ∧ Aside0 (Kd.R k54 54 w' w.heap.size (fun _ => True) v539 x7_1) ∧ Aside0 (Kd.R (Kd.int .u64) 33 w' w.heap.size (fun k_ => some k_ ≠ (v555 : Value).ownBlock) v543 x9_1) ∧ Aside0 (Kd.R (Kd.int .u64) 33 w' w.heap.size (fun k_ => some k_ ≠ (v543 : Value).ownBlock) v555 x15_5) ∧ Aside0 (Below w.heap.size w w'))
                            case atStart => exact ⟨(t553), (0), (by first | rfl | (simp; done) | (simp [*]; done)), H', ⟨Nat.le_refl _⟩, ⟨by (with_reducible repeat (first | apply Kd.R_alloc | apply Kd.R_drewN | apply Kd.R_drew)); exact HO_7.out⟩, ⟨by (with_reducible repeat (first | apply Kd.R_alloc | apply Kd.R_drewN | apply Kd.R_drew)); exact HO_9.out⟩, ⟨by (with_reducible repeat (first | apply Kd.R_alloc | apply Kd.R_drewN | apply Kd.R_drew)); exact HO_15.out⟩, ⟨by repeat (first | (with_reducible first | exact HB.out | apply below_alloc | apply pw_below_drewN | apply below_drew1) | exact HB.out)⟩⟩
                            case round =>
                              clear H'
                              try clear c1
                              try clear c2
                              try clear p2
                              try clear q2
                              try clear hx2
                              try clear c3
                              try clear c4
                              try clear c5
                              try clear p5
                              try clear q5
                              try clear hx5
                              try clear p6
                              try clear c9
                              try clear c10
                              try clear c10b0
                              try clear c15
                              try clear c20
                              try clear c21
                              try clear c21b0
                              try clear c22
                              try clear c22b0
                              try clear c23
                              try clear p23
                              try clear q23
                              try clear hx23
                              try clear hf23
                              try clear c24
                              try clear c25
                              try clear hx25
                              try clear hf25
                              try clear c32
                              try clear c36
                              try clear c37
                              try clear hx23_0
                              try clear hx23_1
                              try clear hx25_0
                              try clear hx551_0
                              try clear hx551_1
                              try clear p2
                              try clear p23
                              try clear p5
                              try clear p551
                              try clear p6
                              try clear q2
                              try clear q23
                              try clear q5
                              try clear q551
                              obtain ⟨x15_5, x16_5, rfl, HA, HK5, HO_7, HO_9, HO_15, HB⟩ := hrel
                              cases gk with
                              | zero => exact absurd HA.out (by simp [kimberlitelaw07_ProofMakes.l2])
                              | succ k5 =>
                                have H := HA.out
                                clear HA
                                simp only [kimberlitelaw07_ProofMakes.l2] at H
                                by_cases c38 : x16_5 < (x15_5.length : Int)
                                · rw [if_pos c38] at H
                                  have c38b0 : decide (x16_5 < (x15_5.length : Int)) = true := decide_eq_true c38
                                  clear c38
                                  by_cases c39 : 0 ≤ x16_5
                                  · rw [if_pos c39] at H
                                    have c39b0 : decide (0 ≤ x16_5) = true := decide_eq_true c39
                                    clear c39
                                    obtain ⟨y559, hy559⟩ : ∃ y_ : List Int, y_ = (x15_5.set (x16_5 : Int).toNat (IntKind.u64.wrap ((rd x15_5 x16_5) + 1))) := ⟨_, rfl⟩
                                    replace H : (kimberlitelaw07_ProofMakes.l2 k5 l0 a1 a2 x7_1 t538 x9_1 t542 x11_1 y559 (wrap64 (x16_5 + 1))) = some r := by first | (rw [hy559]; with_reducible exact H) | (have H2_ := (Option.bind_some _ _).symm.trans H; rw [hy559]; with_reducible exact H2_) | (have H2_ := (Option.bind_some _ _).symm.trans H; with_reducible exact H2_) | with_reducible exact H | (rw [hy559]; exact H) | exact H
                                    have Ny559 := Aside0.mk hy559
                                    clear hy559
                                    have H' := Aside0.mk H
                                    clear H
                                    obtain ⟨Ao41, co41, eo41⟩ := Kd.R_slice HO_15.out
                                    subst eo41
                                    have p558 : 0 ≤ (x16_5 : Int) := of_decide_eq_true (by first | (with_reducible assumption) | assumption)
                                    have q558 : x16_5 < (x15_5.length : Int) := of_decide_eq_true (by first | (with_reducible assumption) | assumption)
                                    obtain ⟨ad558, e558, hx558_0⟩ := Kd.at_int (Kd.R_reads' HO_15.out).2.2 x16_5 p558 q558
                                    cases e558
                                    replace p558 := eq_true p558
                                    replace q558 := eq_true q558
                                    have p40 : 0 ≤ (x16_5 : Int) := of_decide_eq_true (by first | (with_reducible assumption) | assumption)
                                    have q40 : (x16_5 : Int) < ((x15_5.length : Int) : Int) := of_decide_eq_true (by first | (with_reducible assumption) | assumption)
                                    obtain ⟨go40, co40, eo40, gb40, gl40, cl40, HG40⟩ := Kd.R_form HO_15.out (by omega)
                                    (first | cases eo40 | (injection eo40 with ea_ en_ ec_; (first | subst ea_ | (injection ea_ with ea_; subst ea_)); subst ec_; clear en_))
                                    have GB40 := Aside0.mk gb40
                                    have GG40 := Aside0.mk HG40
                                    clear gb40 gl40 HG40
                                    (first | simp only [add_plain] at hx558_0 | skip)
                                    obtain ⟨hx40_0, hf40_0⟩ := Kd.R_celln 0 HO_15.out (x16_5 : Int) p40 q40
                                    replace p40 := eq_true p40
                                    replace q40 := eq_true q40
                                    have HP42 := Kd.R_putg HO_15.out (x16_5 : Int) (IntKind.u64.wrap ((rd x15_5 x16_5) + 1))
                                    go_wp2_with (first | ((with_reducible refine gate_store (t := 33) (p := 92) rfl ?_); refine store_event (t := 33) (p := 92) (v := ?vo_w43) (w1 := (wr.setCell ⟨go40, (x16_5 : Int).toNat, none⟩ (.int .u64 (IntKind.u64.wrap ((rd x15_5 x16_5) + 1))))) ?hg ?ho ?hn ?hr ?_; (case ho => rfl); (case hg => rfl); (case hn => rfl); (case hr => first | (go_simp; done) | (go_simp; rfl)); intro w43 hw; have hg : wr.grownBy w43 (some go40) := (by rw [hw]; exact HP42.2); have hp_ : Kd.R (Kd.int .u64) 33 w43 w.heap.size (fun k_ => some k_ ≠ (v543 : Value).ownBlock) (.slice (some ⟨go40, 0, none⟩) x15_5.length co41) y559 := (by rw [hw, Ny559.out]; exact HP42.1); clear HP42; have n0_ := Aside0.mk (Kd.R_over' (v := (.slice (some ⟨go40, 0, none⟩) x15_5.length co41)) (by (with_reducible repeat (first | apply Kd.R_alloc | apply Kd.R_drewN | apply Kd.R_drew)); exact HO_7.out) (Kd.R_typed HO_15.out) (by decide) hg); have n1_ := Aside0.mk (Kd.R_after (v := (.slice (some ⟨go40, 0, none⟩) x15_5.length co41)) (v1 := (.slice (some ⟨go40, 0, none⟩) x15_5.length co41)) (ok := (fun _ => True)) (by (with_reducible repeat (first | apply Kd.R_alloc | apply Kd.R_drewN | apply Kd.R_drew)); exact Kd.R_mono HO_9.out (fun _ hk => ⟨trivial, hk⟩)) hg (.inl rfl)); have n2_ := Aside0.mk (hp_); have n3_ := Aside0.mk ((by rw [hw]; exact below_set (HB.out) GB40.out : Below w.heap.size w w43)); clear HO_7; clear HO_9; clear HO_15; clear HB; have HO_7 := n0_; have HO_9 := n1_; have HO_15 := n2_; have HB := n3_; clear n0_ n1_ n2_ n3_; clear hg hw hp_))
                                    go_roundg k5
                                    case measure => have := HK1.out; have := HJ11.out; have := HK3.out; have := HJ27.out; have := HK5.out; omega
                                    case rel => exact ⟨(y559), (wrap64 (x16_5 + 1)), (by first | rfl | (simp; done) | (simp [*]; done)), H', ⟨by have := HK1.out; have := HJ11.out; have := HK3.out; have := HJ27.out; have := HK5.out; omega⟩, ⟨by (with_reducible repeat (first | apply Kd.R_alloc | apply Kd.R_drewN | apply Kd.R_drew)); exact HO_7.out⟩, ⟨by (with_reducible repeat (first | apply Kd.R_alloc | apply Kd.R_drewN | apply Kd.R_drew)); exact Kd.R_mono HO_9.out (fun _ hk => hk.2)⟩, ⟨by (with_reducible repeat (first | apply Kd.R_alloc | apply Kd.R_drewN | apply Kd.R_drew)); exact HO_15.out⟩, ⟨by repeat (first | (with_reducible first | exact HB.out | apply below_alloc | apply pw_below_drewN | apply below_drew1) | exact HB.out)⟩⟩
                                  · rw [if_neg c39] at H
                                    exact absurd H (by simp)
                                · rw [if_neg c38] at H
                                  have c38b0 : decide (x16_5 < (x15_5.length : Int)) = false := decide_eq_false c38
                                  clear c38
                                  have H' := Aside0.mk H
                                  clear H
                                  obtain ⟨Ao44, co44, eo44⟩ := Kd.R_slice HO_15.out
                                  subst eo44
                                  go_wp2
                                  go_roundg k5
                                  case measure => have := HK1.out; have := HJ11.out; have := HK3.out; have := HJ27.out; have := HK5.out; omega
                                  case rel => exact ⟨(x7_1), (x9_1), (wrap64 (x11_1 + 1)), (by first | rfl | (simp; done) | (simp [*]; done)), H', ⟨by have := HK1.out; have := HJ11.out; have := HK3.out; have := HJ27.out; have := HK5.out; omega⟩, ⟨by (with_reducible repeat (first | apply Kd.R_alloc | apply Kd.R_drewN | apply Kd.R_drew)); exact HO_7.out⟩, ⟨by (with_reducible repeat (first | apply Kd.R_alloc | apply Kd.R_drewN | apply Kd.R_drew)); exact Kd.R_mono HO_9.out (fun _ hk => trivial)⟩, ⟨by repeat (first | (with_reducible first | exact HB.out | apply below_alloc | apply pw_below_drewN | apply below_drew1) | exact HB.out)⟩⟩
        · rw [if_neg c10] at H
          have c10b0 : decide (x11_1 < 2) = false := decide_eq_false c10
          clear c10
          replace H := Option.bind_eq_some_iff.mp H
          obtain ⟨t545, A450, H⟩ := H
          replace H : (some t545) = some r := H
          have A45 := Aside0.mk A450
          clear A450
          obtain rfl := Option.some.inj H
          go_wp2_with (first | ((with_reducible refine gate_callee (f := 16) rfl ?_); refine goesL_ (some 93) rfl rfl Try.func16 (by kernel_rfl) rfl #[] rfl (by (try simp only [List.map_toArray, List.map_cons, List.map_nil]); first | done | rfl | (simp only [List.length_drop, List.length_take]; rfl)) ?_; (with_reducible refine (kimberlitelaw07_alive.calls k1  t545 _ A45.out).mono ?_); rintro e w46 ⟨rfl, hb⟩; refine ⟨_, rfl, ?_⟩; have n0_ := Aside0.mk (Kd.R_below (by (with_reducible repeat (first | apply Kd.R_alloc | apply Kd.R_drewN | apply Kd.R_drew)); exact HO_7.out) hb); have n1_ := Aside0.mk (Kd.R_below (by (with_reducible repeat (first | apply Kd.R_alloc | apply Kd.R_drewN | apply Kd.R_drew)); exact HO_9.out) hb); have n2_ := Aside0.mk (below_step (by repeat (first | (with_reducible first | exact HB.out | apply below_alloc | apply pw_below_drewN | apply below_drew1) | exact HB.out)) hb); clear HO_7; clear HO_9; clear HB; have HO_7 := n0_; have HO_9 := n1_; have HB := n2_; clear n0_ n1_ n2_; (try clear hb); (try clear hb2); (try clear hk); (try clear hi)))
          go_ret
          exact ⟨by first | rfl | (simp [errW_none, errW_some] <;> rfl) | (simp [*, errW_none, errW_some] <;> rfl), by repeat (first | (with_reducible first | exact HB.out | apply below_alloc | apply pw_below_drewN | apply below_drew1) | exact HB.out)⟩
  · replace c5 := Bool.eq_false_iff.mpr c5
    subst c5
    have H1 : ((kimberlitelaw07_alive.f k).bind fun t536 => (some t536)) = some r := by rw [if_neg (show ¬ (false = true) by decide)] at H; exact H
    clear H
    have H := H1
    clear H1
    replace H := Option.bind_eq_some_iff.mp H
    obtain ⟨t536, A470, H⟩ := H
    replace H : (some t536) = some r := H
    have A47 := Aside0.mk A470
    clear A470
    obtain rfl := Option.some.inj H
    go_enter Try.func9, Try.ntmps9
    go_wp2_with (first | ((with_reducible refine gate_callee (f := 24) rfl ?_); refine goesL_ (some 18) rfl rfl Try.func24 (by kernel_rfl) rfl #[.slice A0 l0.length c0] rfl (by (try simp only [List.map_toArray, List.map_cons, List.map_nil]); first | done | rfl | (simp only [List.length_drop, List.length_take]; rfl)) ?_; (with_reducible refine (kimberlitelaw07_few.calls k _ _ l0 false _ ?side1 ?side2 A4.out).mono ?_); (case side1 => repeat (first | exact HR0.out | (with_reducible refine Kd.C_alloc ?_ _) | (with_reducible refine Kd.C_drewN ?_ _) | (with_reducible refine Kd.C_drew ?_))); (case side2 => exact HC0.out); rintro e w' ⟨rfl, ⟨nd, rfl⟩⟩; refine ⟨_, rfl, ?_⟩) | ((with_reducible refine gate_callee (f := 16) rfl ?_); refine goesL_ (some 20) rfl rfl Try.func16 (by kernel_rfl) rfl #[] rfl (by (try simp only [List.map_toArray, List.map_cons, List.map_nil]); first | done | rfl | (simp only [List.length_drop, List.length_take]; rfl)) ?_; (with_reducible refine (kimberlitelaw07_alive.calls k  t536 _ A47.out).mono ?_); rintro e w48 ⟨rfl, hb⟩; refine ⟨_, rfl, ?_⟩; have n0_ := Aside0.mk (below_step (by repeat (first | (with_reducible first | exact HB.out | apply below_alloc | apply pw_below_drewN | apply below_drew1) | exact HB.out)) hb); clear HB; have HB := n0_; clear n0_; (try clear hb); (try clear hb2); (try clear hk); (try clear hi)))
    go_ret
    exact ⟨by first | rfl | (simp [errW_none, errW_some] <;> rfl) | (simp [*, errW_none, errW_some] <;> rfl), by repeat (first | (with_reducible first | exact HB.out | apply below_alloc | apply pw_below_drewN | apply below_drew1) | exact HB.out)⟩

end Go.Proofs.Ytacjdoekgmmfoaa.PL
