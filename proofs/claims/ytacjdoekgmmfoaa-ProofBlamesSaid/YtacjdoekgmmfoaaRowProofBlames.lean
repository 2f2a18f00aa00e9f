/-
  The statement ProofBlames, out of its pure statement: for every input the law returns true.
-/
import Derived.Test.YtacjdoekgmmfoaaRows
import Derived.Test.YtacjdoekgmmfoaaPLxPureProofBlames
import Derived.Test.YtacjdoekgmmfoaaProofProofBlames
import Derived.WalkKit
import Derived.ProofKit
import Derived.OpenShut
import Derived.ChangeOld
import Derived.Below
import Derived.SizedLaws
import Derived.Test.YtacjdoekgmmfoaaWSized
namespace Go.Proofs.Ytacjdoekgmmfoaa.proofBlames
open Go.ChangeShapes Go.WideShapes Go.ChangeAt Go.RowKit Go.Proofs.YtacjdoekgmmfoaaW.PrintWords Go.Proofs.Ytacjdoekgmmfoaa.Opn Go.Proofs.Ytacjdoekgmmfoaa.PL
theorem own : ownKnob Try.prog.godebug = none := by kernel_rfl
theorem laidOut : laidOutB Try.prog = true := by kernel_rfl
set_option maxRecDepth 100000 in
theorem lifted (os : Os) (started : os.Started) (H : Type) (enc : TypeId × Value → H) :
    ReturnsInHanded {} Try.checked os 4 .any (Rows.proofBlamesSpec.pre6 enc Try.prog Try.f4 Rows.proofBlamesRow.domain false) (Rows.proofBlamesSpec.post enc Try.prog Try.f4 false true false false) := by
  refine returnsInHanded_of_change_sized (C := Try.checked) own started (by kernel_rfl) Try.func4
    (ChangeSpec.witness6 (enc := enc) (C := Try.checked) false ⟨#[], #[.int .i64 0, .int .i64 0, .agg #[.slice none 0 0, .slice none 0 0], .agg #[.slice none 0 0, .slice none 0 0]], []⟩ 8 (by kernel_rfl) (by kernel_rfl) (by kernel_rfl) (by kernel_rfl)) ?_
  intro W base args ds gs _before hval0 hW _hcnd _hsz0 _
  have hval : ∀ (j : Nat) t v, Try.f4.params[j]? = some t → args[j]? = some v → Value.okWide Try.prog W .any base t v := hval0
  have hW' := hW
  obtain ⟨p, q, hA0, hV, rfl, hfz, hnd⟩ := hW
  have hA : DataW.TrodAll enc Try.prog W 0 (fun _ => true) true Try.f4.params.toList args.toList ds p := hA0
  rw [Try.params4] at hA hval
  obtain ⟨v0, vs0, d0, ds0, p0, q0, hargs, rfl, rfl, h0, r0⟩ := trodAll_cons hA
  obtain ⟨v1, vs1, d1, ds1, p1, q1, rfl, rfl, rfl, h1, r1⟩ := trodAll_cons r0
  obtain ⟨v2, vs2, d2, ds2, p2, q2, rfl, rfl, rfl, h2, r2⟩ := trodAll_cons r1
  obtain ⟨v3, vs3, d3, ds3, p3, q3, rfl, rfl, rfl, h3, r3⟩ := trodAll_cons r2
  obtain ⟨rfl, rfl, rfl⟩ := trodAll_nil r3
  obtain rfl : args = #[v0, v1, v2, v3] := by cases args; simp_all
  obtain ⟨rfl, rfl⟩ := trodVars_none hV
  obtain ⟨a0, rfl, rfl, rfl, w0⟩ := open_int Try.underlying3 (hval 0 3 v0 rfl rfl) h0
  obtain ⟨a1, rfl, rfl, rfl, w1⟩ := open_int Try.underlying3 (hval 1 3 v1 rfl rfl) h1
  obtain ⟨cs2, rfl, _⟩ := okWide_struct Try.underlying25 (hval 2 25 v2 rfl rfl)
  have k2 := h2
  have lt2 : ∀ x ∈ p2, x.block < W.heap.size := by obtain ⟨m, hm⟩ := k2; exact DataW.trod_lt m _ _ _ hm
  obtain ⟨fuel2, hf2⟩ := h2
  obtain ⟨⟨l2_0, l2_1⟩, hk2, w2⟩ := opens25 _ enc W _ _ _ fuel2 _ _ hf2
  obtain ⟨A2_0, c2_0, A2_1, c2_1, he2, hc2_0, hr2_0, hc2_1, hr2_1⟩ := k25_open hk2
  obtain rfl : cs2 = #[.slice A2_0 l2_0.length c2_0, .slice A2_1 l2_1.length c2_1] := by cases cs2; simpa [Value.cells] using he2
  obtain ⟨cs3, rfl, _⟩ := okWide_struct Try.underlying25 (hval 3 25 v3 rfl rfl)
  have k3 := h3
  have lt3 : ∀ x ∈ p3, x.block < W.heap.size := by obtain ⟨m, hm⟩ := k3; exact DataW.trod_lt m _ _ _ hm
  obtain ⟨fuel3, hf3⟩ := h3
  obtain ⟨⟨l3_0, l3_1⟩, hk3, w3⟩ := opens25 _ enc W _ _ _ fuel3 _ _ hf3
  obtain ⟨A3_0, c3_0, A3_1, c3_1, he3, hc3_0, hr3_0, hc3_1, hr3_1⟩ := k25_open hk3
  obtain rfl : cs3 = #[.slice A3_0 l3_0.length c3_0, .slice A3_1 l3_1.length c3_1] := by cases cs3; simpa [Value.cells] using he3
  obtain ⟨k, h⟩ := (proofBlames_pure : kimberlitelaw07_ProofBlames.Pure2) a0 a1 l2_0 l2_1 l3_0 l3_1 w0 w1 w2 w3
  refine (kimberlitelaw07_ProofBlames.calls k a0 a1 _ _ l2_0 _ _ l2_1 _ _ l3_0 _ _ l3_1 W hr2_0 hc2_0 hr2_1 hc2_1 hr3_0 hc3_0 hr3_1 hc3_1 h).mono fun e W' ⟨he, bel⟩ => ?_
  subst he
  exact ⟨_, rfl, _, _, _, [], _, [], hW', trodAll_mk1 (shut_bool Try.underlying4 _), (trodAll_cons_mk (shut_int Try.underlying3 w0) (trodAll_cons_mk (shut_int Try.underlying3 w1) (trodAll_cons_mk (Below.trod laidOut (by kernel_rfl) (of_decide_eq_true (by kernel_rfl)) k2 bel lt2) (trodAll_cons_mk (Below.trod laidOut (by kernel_rfl) (of_decide_eq_true (by kernel_rfl)) k3 bel lt3) trodAll_mk0)))), rfl, bel.frame _, fun h => by cases h⟩
theorem over : Rows.proofBlamesRow.holds Try.pinned (OpenSpec.ofChange Rows.proofBlamesSpec) :=
  OpenClaim.holds_of_wide 4 Try.f4 rfl rfl rfl rfl rfl rfl rfl ⟨rfl, rfl, rfl, rfl, rfl⟩ rfl rfl rfl rfl rfl (by kernel_rfl) Try.func4 (by kernel_rfl)
    (of_decide_eq_true (by kernel_rfl)) (by unfold Func.isWrapper; first | (rw [if_pos (by decide +kernel)]; kernel_rfl) | (rw [if_neg (by decide +kernel)]; exact ⟨rfl, rfl⟩))
    (fun os started H enc _ => lifted os started H enc)
end Go.Proofs.Ytacjdoekgmmfoaa.proofBlames
namespace Go.Proofs.Ytacjdoekgmmfoaa
theorem proofBlames_holds : Rows.ProofBlamesSaid := proofBlames.over
#print axioms proofBlames_holds
end Go.Proofs.Ytacjdoekgmmfoaa
