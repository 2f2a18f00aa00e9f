/-
  The statement TenderNobody, out of its pure statement: for every input the law returns true.
-/
import Derived.Test.YthfdjccdelbeeaaRows
import Derived.WalkKit
import Derived.ProofKit
import Derived.OpenShut
import Derived.ChangeOld
import Derived.Below
import Derived.SizedLaws
import Derived.Test.YthfdjccdelbeeaaZNo2
import Derived.Test.YthfdjccdelbeeaaZNo7
import Derived.Test.YthfdjccdelbeeaaZNo8
section
namespace Go.Proofs.Ythfdjccdelbeeaa.tenderNobody
open Go.ChangeShapes Go.WideShapes Go.ChangeAt Go.RowKit Go.Proofs.YthfdjccdelbeeaaW.PrintWords Go.Proofs.Ythfdjccdelbeeaa.Opn Go.Proofs.Ythfdjccdelbeeaa.PT
theorem own : ownKnob Try.prog.godebug = none := by kernel_rfl
theorem laidOut : laidOutB Try.prog = true := by kernel_rfl
set_option maxRecDepth 100000 in
theorem lifted (os : Os) (started : os.Started) (H : Type) (enc : TypeId × Value → H) :
    ReturnsInHanded {} Try.checked os 12 .any (Rows.tenderNobodySpec.pre6 enc Try.prog Try.f12 Rows.tenderNobodyRow.domain false) (Rows.tenderNobodySpec.post enc Try.prog Try.f12 false true false false) := by
  refine returnsInHanded_of_change_sized (C := Try.checked) own started (by kernel_rfl) Try.func12
    (ChangeSpec.witness6 (enc := enc) (C := Try.checked) false ⟨#[], #[.agg #[.int .u8 0, .int .i64 0, .slice none 0 0, .int .u64 0, .bool false], .bool false], []⟩ 8 (by kernel_rfl) (by kernel_rfl) (by kernel_rfl) (by kernel_rfl)) ?_
  intro W base args ds gs _before hval0 hW _hcnd _hsz0 _
  have hval : ∀ (j : Nat) t v, Try.f12.params[j]? = some t → args[j]? = some v → Value.okWide Try.prog W .any base t v := hval0
  have hW' := hW
  obtain ⟨p, q, hA0, hV, rfl, hfz, hnd⟩ := hW
  have hA : DataW.TrodAll enc Try.prog W 0 (fun _ => true) true Try.f12.params.toList args.toList ds p := hA0
  rw [Try.params12] at hA hval
  obtain ⟨v0, vs0, d0, ds0, p0, q0, hargs, rfl, rfl, h0, r0⟩ := trodAll_cons hA
  obtain ⟨v1, vs1, d1, ds1, p1, q1, rfl, rfl, rfl, h1, r1⟩ := trodAll_cons r0
  obtain ⟨rfl, rfl, rfl⟩ := trodAll_nil r1
  obtain rfl : args = #[v0, v1] := by cases args; simp_all
  obtain ⟨rfl, rfl⟩ := trodVars_none hV
  obtain ⟨cs0, rfl, _⟩ := okWide_struct Try.underlying80 (hval 0 80 v0 rfl rfl)
  have k0 := h0
  have lt0 : ∀ x ∈ p0, x.block < W.heap.size := by obtain ⟨m, hm⟩ := k0; exact DataW.trod_lt m _ _ _ hm
  obtain ⟨fuel0, hf0⟩ := h0
  obtain ⟨⟨a0_0, a0_1, l0_2, a0_3, a0_4⟩, hk0, w0⟩ := opens80 _ enc W _ _ _ fuel0 _ _ hf0
  obtain ⟨A0_2, c0_2, he0, hc0_2, hr0_2⟩ := k80_open hk0
  obtain rfl : cs0 = #[.int .u8 a0_0, .int .i64 a0_1, .slice A0_2 l0_2.length c0_2, .int .u64 a0_3, .bool a0_4] := by cases cs0; simpa [Value.cells] using he0
  obtain ⟨a1, rfl, rfl, rfl⟩ := open_bool Try.underlying4 (hval 1 4 v1 rfl rfl) h1
  obtain ⟨k, h⟩ := (tenderNobody_pure : kimberlitelaw05_TenderNobody.Pure2) a0_0 a0_1 l0_2 a0_3 a0_4 a1 w0 trivial
  refine (kimberlitelaw05_TenderNobody.calls k a0_0 a0_1 _ _ l0_2 a0_3 a0_4 a1 W hr0_2 hc0_2 h).mono fun e W' ⟨he, bel⟩ => ?_
  subst he
  exact ⟨_, rfl, _, _, _, [], _, [], hW', trodAll_mk1 (shut_bool Try.underlying4 _), (trodAll_cons_mk (Below.trod laidOut (by kernel_rfl) (of_decide_eq_true (by kernel_rfl)) k0 bel lt0) (trodAll_cons_mk (shut_bool Try.underlying4 _) trodAll_mk0)), rfl, bel.frame _, fun h => by cases h⟩
theorem over : Rows.tenderNobodyRow.holds Try.pinned (OpenSpec.ofChange Rows.tenderNobodySpec) :=
  OpenClaim.holds_of_wide 12 Try.f12 rfl rfl rfl rfl rfl rfl rfl ⟨rfl, rfl, rfl, rfl, rfl⟩ rfl rfl rfl rfl rfl (by kernel_rfl) Try.func12 (by kernel_rfl)
    (of_decide_eq_true (by kernel_rfl)) (by unfold Func.isWrapper; first | (rw [if_pos (by decide +kernel)]; kernel_rfl) | (rw [if_neg (by decide +kernel)]; exact ⟨rfl, rfl⟩))
    (fun os started H enc _ => lifted os started H enc)
end Go.Proofs.Ythfdjccdelbeeaa.tenderNobody
namespace Go.Proofs.Ythfdjccdelbeeaa
theorem tenderNobody_holds : Rows.TenderNobodySaid := tenderNobody.over
#print axioms tenderNobody_holds
end Go.Proofs.Ythfdjccdelbeeaa
end
