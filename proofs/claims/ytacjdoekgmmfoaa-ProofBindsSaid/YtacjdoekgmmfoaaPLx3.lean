-- printed by wip/gprint.py of this repo out of the translation and the texts under wip/
import Derived.Test.YtacjdoekgmmfoaaPLx0
namespace Go.Proofs.Ytacjdoekgmmfoaa.PL
open Go.RowKit Go.Proofs.YtacjdoekgmmfoaaW.PrintWords Go.Proofs.YtacjdoekgmmfoaaW.PrintLast Go.Proofs.YtacjdoekgmmfoaaW.PrintMore
attribute [local go_sem] max2_int min2_int max_two min_two max_three min_three max_four min_four   -- for this text's walks alone
set_option linter.unusedVariables false
set_option linter.unusedSimpArgs false

-- GIVEN 67 rounds=0 making=1 info=
theorem nhid {p : Prop} (h : p) : Hid p := h
theorem node_ix (a0 a1 : Int) : ∀ W : World, (Instr.index 114 (.agg #[.int .u64 a0, .int .u64 a1]) (.int .i64 0)).run Try.prog W = .ok (.int .u64 a0) W ∧ (Instr.index 114 (.agg #[.int .u64 a0, .int .u64 a1]) (.int .i64 1)).run Try.prog W = .ok (.int .u64 a1) W := fun W => by
  obtain ⟨i, hi, hz⟩ : ∃ i, Try.prog.info? 33 = some i ∧ i.size = 1 := by
    cases h : Try.prog.info? 33 with
    | none => have := info33; rw [h] at this; cases this
    | some i => have := info33; rw [h] at this; simp at this; exact ⟨i, rfl, this.2.1⟩
  constructor <;> simp [Instr.index, run_underlying Try.underlying114, asIntOf, go_sem, sizeOf, typeInfo, hi, hz, Result.andThen]
/-- A number's bytes, the lowest first. -/
def eights : Nat → Int → List Int
  | 0, _ => []
  | k + 1, n => n % 256 :: eights k (n / 256)
theorem eights_len : ∀ k n, (eights k n).length = k
  | 0, _ => rfl
  | k + 1, n => by simp [eights, eights_len k]
def nodeRest (a b : Int) : Nat → List Int
  | 0 => eights 8 a ++ eights 8 b
  | 1 => eights 8 b
  | _ => []
def proof_node.f (a0 : Int) (a1 : Int) : Option (List Int) := if (0 ≤ a0 ∧ a0 < 18446744073709551616) ∧ (0 ≤ a1 ∧ a1 < 18446744073709551616) then some ([1] ++ nodeRest a0 a1 0) else none
set_option maxHeartbeats 1600000 in
set_option maxRecDepth 100000 in
theorem proof_node.calls (a0 : Int) (a1 : Int) (r : List Int) (w : World) (h : proof_node.f a0 a1 = some r) :
    Calls Try.prog 67 #[.int .u64 a0, .int .u64 a1] w fun e w' => ∃ v0_ : Value, e = .returned (v0_) ∧ Kd.R (Kd.int .u8) 5 w' w.heap.size (fun _ => True) v0_ r ∧ Below w.heap.size w w' := by
  unfold proof_node.f at h
  split at h
  · rename_i hr
    obtain ⟨⟨h0, h1⟩, h2, h3⟩ := hr
    injection h with h
    have HR := nhid h
    clear h
    have HB := Aside0.mk (Below.refl w.heap.size w)
    have hi0 := fun W => (node_ix a0 a1 W).1
    have hi1 := fun W => (node_ix a0 a1 W).2
    go_enter Try.func67, Try.ntmps67
    go_wp2_with (first | ((with_reducible refine gate_dst (N := 8) rfl ?_); refine Kd.R_lit (Kd.int .u8) _ 5 ?hg (N := 8) ?hd (xs := ([1] : List Int)) (inner := [.int .u8 1]) (ok := fun _ => True) (okp := fun _ => True) ?hr ?hp (fun _ hk => hk) trivial (Below.refl _ _) (Nat.le_refl _) (by simp) ?_; (case hd => rfl); (case hg => rfl); (case hr => first | (go_simp; done) | (go_simp; rfl)); (case hp => exact (Reps.one (show Kd.M (Kd.int .u8) _ _ _ 1 [.int .u8 1] from rfl) (Reps.none _ _))); intro v1 w1 ho8 hb hg_ hnew_; clear hg_ hnew_; have HO1 := Aside0.mk ho8; have HB1 := Aside0.mk hb; clear HB ho8 hb))
    go_loopw [5, 12] (fun v i wr => ∃ k : Nat, ∃ ys : List Int, k ≤ 2 ∧ i = .int .i64 k ∧ Hid (ys ++ nodeRest a0 a1 k = r) ∧ Aside0 (ys.length ≤ 1 + 8 * k) ∧ Aside0 (Kd.R (Kd.int .u8) 5 wr w.heap.size (fun _ => True) v ys) ∧ Aside0 (Below w.heap.size w wr)) (fun _ i _ => 2 - (intOf i).toNat)
    case atStart => exact ⟨0, [1], by omega, rfl, HR, ⟨by simp⟩, HO1, HB1⟩
    case round =>
      obtain ⟨k, ys, hk, rfl, HY, HYL, HO, HB⟩ := hrel
      have hyl := HYL.out
      by_cases c0 : k = 0
      · subst c0
        go_wp2
        go_loopw [5, 7, 15] (fun v m i wr => ∃ k : Nat, ∃ n : Int, ∃ xs : List Int, k ≤ 8 ∧ i = .int .i64 k ∧ m = .int .u64 n ∧ 0 ≤ n ∧ n < 18446744073709551616 ∧ Hid (xs ++ eights (8 - k) n = ys ++ eights 8 a0) ∧ Aside0 (xs.length ≤ 1 + 8 * 0 + k) ∧ Aside0 (Kd.R (Kd.int .u8) 5 wr w.heap.size (fun _ => True) v xs) ∧ Aside0 (Below w.heap.size w wr)) (fun _ _ i _ => 8 - (intOf i).toNat)
        case atStart => exact ⟨0, a0, ys, by omega, rfl, rfl, h0, h1, nhid rfl, ⟨by have := hyl; omega⟩, HO, HB⟩
        case round =>
          obtain ⟨q, n, xs, hq, rfl, rfl, hn0, hn1, HX, HL, HO2, HB2⟩ := hrel
          by_cases hlt : q < 8
          · have hw : Hid (IntKind.u8.wrap n = n % 256) := nhid (by rw [IntKind.wrap_u8])
            go_wp2_with (first | ((with_reducible refine gate_builtin (b := .append) (xs := #[.tmp 17, .tmp 20]) rfl ?_); at_builtin; refine Kd.R_append (Kd.int .u8) (w0 := w) w.heap.size rfl (.tmp 17) (.tmp 20) 22 5 (.int .u8 0) 1 rfl Try.underlying22 info5 rfl (by decide) (by omega) u5 xs (n % 256) [.int .u8 (n % 256)] (fun _ => True) (fun _ => False) rfl rfl ?aP (fun _ hk => hk.elim) ?aF ?aO ?aB ?aS ?aL ?_; (case aP => exact rfl); (case aB => exact (by repeat (first | (with_reducible first | exact HB2.out | apply below_alloc | apply pw_below_drewN | apply below_drew1) | exact HB2.out))); (case aF => exact (fun _ _ => trivial)); (case aO => exact (by (with_reducible repeat (first | apply Kd.R_alloc | apply Kd.R_drewN | apply Kd.R_drew)); exact HO2.out)); (case aS => exact (below_size (by repeat (first | (with_reducible first | exact HB2.out | apply below_alloc | apply pw_below_drewN | apply below_drew1) | exact HB2.out)))); (case aL => have := HL.out; omega); intro v168 w4 ho hb hg hat; have HO3 := Aside0.mk ho; have HB3 := Aside0.mk hb; clear ho hb hg hat))
            go_roundw
            case rel =>
              (repeat apply Exists.intro)
              refine ⟨?_, rfl⟩
              exact ⟨q + 1, n / 256, xs ++ [n % 256], by omega, by go_num, rfl, by omega, by omega, nhid (by rw [← HX.out, show 8 - q = (8 - (q + 1)) + 1 from by omega]; simp [eights]), ⟨by have := HL.out; simp; omega⟩, ⟨by (with_reducible repeat (first | apply Kd.R_alloc | apply Kd.R_drewN | apply Kd.R_drew)); exact HO3.out⟩, ⟨by repeat (first | (with_reducible first | exact HB3.out | apply below_alloc | apply pw_below_drewN | apply below_drew1) | exact HB3.out)⟩⟩
            case measure => simp [intOf]; omega
          · obtain rfl : q = 8 := by omega
            go_wp2
            go_roundw
            case rel => exact ⟨0 + 1, xs, by omega, by go_num, nhid (by have h1 := HX.out; have h2 := HY.out; rw [show eights (8 - 8) n = [] from rfl, List.append_nil] at h1; subst h1; simpa only [nodeRest, List.append_assoc, List.append_nil] using h2), ⟨by have := HL.out; omega⟩, HO2, HB2⟩
            case measure => simp [intOf]
      by_cases c1 : k = 1
      · subst c1
        go_wp2
        go_loopw [5, 7, 15] (fun v m i wr => ∃ k : Nat, ∃ n : Int, ∃ xs : List Int, k ≤ 8 ∧ i = .int .i64 k ∧ m = .int .u64 n ∧ 0 ≤ n ∧ n < 18446744073709551616 ∧ Hid (xs ++ eights (8 - k) n = ys ++ eights 8 a1) ∧ Aside0 (xs.length ≤ 1 + 8 * 1 + k) ∧ Aside0 (Kd.R (Kd.int .u8) 5 wr w.heap.size (fun _ => True) v xs) ∧ Aside0 (Below w.heap.size w wr)) (fun _ _ i _ => 8 - (intOf i).toNat)
        case atStart => exact ⟨0, a1, ys, by omega, rfl, rfl, h2, h3, nhid rfl, ⟨by have := hyl; omega⟩, HO, HB⟩
        case round =>
          obtain ⟨q, n, xs, hq, rfl, rfl, hn0, hn1, HX, HL, HO2, HB2⟩ := hrel
          by_cases hlt : q < 8
          · have hw : Hid (IntKind.u8.wrap n = n % 256) := nhid (by rw [IntKind.wrap_u8])
            go_wp2_with (first | ((with_reducible refine gate_builtin (b := .append) (xs := #[.tmp 17, .tmp 20]) rfl ?_); at_builtin; refine Kd.R_append (Kd.int .u8) (w0 := w) w.heap.size rfl (.tmp 17) (.tmp 20) 22 5 (.int .u8 0) 1 rfl Try.underlying22 info5 rfl (by decide) (by omega) u5 xs (n % 256) [.int .u8 (n % 256)] (fun _ => True) (fun _ => False) rfl rfl ?aP (fun _ hk => hk.elim) ?aF ?aO ?aB ?aS ?aL ?_; (case aP => exact rfl); (case aB => exact (by repeat (first | (with_reducible first | exact HB2.out | apply below_alloc | apply pw_below_drewN | apply below_drew1) | exact HB2.out))); (case aF => exact (fun _ _ => trivial)); (case aO => exact (by (with_reducible repeat (first | apply Kd.R_alloc | apply Kd.R_drewN | apply Kd.R_drew)); exact HO2.out)); (case aS => exact (below_size (by repeat (first | (with_reducible first | exact HB2.out | apply below_alloc | apply pw_below_drewN | apply below_drew1) | exact HB2.out)))); (case aL => have := HL.out; omega); intro v168 w4 ho hb hg hat; have HO3 := Aside0.mk ho; have HB3 := Aside0.mk hb; clear ho hb hg hat))
            go_roundw
            case rel =>
              (repeat apply Exists.intro)
              refine ⟨?_, rfl⟩
              exact ⟨q + 1, n / 256, xs ++ [n % 256], by omega, by go_num, rfl, by omega, by omega, nhid (by rw [← HX.out, show 8 - q = (8 - (q + 1)) + 1 from by omega]; simp [eights]), ⟨by have := HL.out; simp; omega⟩, ⟨by (with_reducible repeat (first | apply Kd.R_alloc | apply Kd.R_drewN | apply Kd.R_drew)); exact HO3.out⟩, ⟨by repeat (first | (with_reducible first | exact HB3.out | apply below_alloc | apply pw_below_drewN | apply below_drew1) | exact HB3.out)⟩⟩
            case measure => simp [intOf]; omega
          · obtain rfl : q = 8 := by omega
            go_wp2
            go_roundw
            case rel => exact ⟨1 + 1, xs, by omega, by go_num, nhid (by have h1 := HX.out; have h2 := HY.out; rw [show eights (8 - 8) n = [] from rfl, List.append_nil] at h1; subst h1; simpa only [nodeRest, List.append_assoc, List.append_nil] using h2), ⟨by have := HL.out; omega⟩, HO2, HB2⟩
            case measure => simp [intOf]
      · obtain rfl : k = 2 := by omega
        go_wp2
        go_ret
        refine ⟨_, rfl, ?_, HB.out⟩
        have := HY.out
        simp [nodeRest] at this
        subst this
        exact HO.out
  · simp at h

end Go.Proofs.Ytacjdoekgmmfoaa.PL
