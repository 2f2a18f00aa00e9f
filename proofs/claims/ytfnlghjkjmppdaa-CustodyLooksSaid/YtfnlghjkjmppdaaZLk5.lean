/-
  The texts that the theorem in YtfnlghjkjmppdaaZRowLk rests on, merged (part 6); only what it reaches.
-/
import Derived.Test.YtfnlghjkjmppdaaZLk1
import Derived.Test.YtfnlghjkjmppdaaZLk2
import Derived.Test.YtfnlghjkjmppdaaZLk3
import Derived.Test.YtfnlghjkjmppdaaZLk4
section
namespace Go.Proofs.Ytfnlghjkjmppdaa.PC
open Go.RowKit Go.Proofs.YtfnlghjkjmppdaaW.PrintWords Go.Proofs.YtfnlghjkjmppdaaW.PrintLast Go.Proofs.YtfnlghjkjmppdaaW.PrintMore
set_option linter.unusedVariables false
set_option linter.unusedSimpArgs false
def keyC (day : Int) (G : List S39) (v n by_ : Int) : Int := if ¬ (1 ≤ n ∧ n ≤ G.length) then 6 else if badB day G v n.toNat by_ then 12 else if spB G n.toNat then 8 else 0
theorem key_no (base g : Nat) (F : Nat → Prop) (w : World) (day : Int) (G : List S39) (E : List S44) (v n by_ c : Int) (h : BK base F w g day G E) (hT : Tree G) (hv0 : 0 ≤ v) (hv1 : v ≤ 15) (hc : keyC day G v n by_ = c) (hn : c ≠ 0) :
    Calls Try.prog 76 #[.pointer (some ⟨g, 0, none⟩), .int .i64 v, .int .i64 n, .int .i64 by_] w fun e w' => e = .panicked [{ v := refu c, recovered := false }] ∧ Below w.heap.size w w' := by
  by_cases hr : 1 ≤ n ∧ n ≤ G.length
  · refine (key_calls base g F w day G E v n by_ h hT hr.1 hr.2 hv0 hv1).mono ?_
    rintro e w' ⟨rfl, hb⟩
    refine ⟨?_, hb⟩
    unfold keyC at hc
    rw [if_neg (fun q => q hr)] at hc
    unfold keyE
    split at hc
    · rename_i q; rw [if_pos q, hc]
    · rename_i q; rw [if_neg q]
      split at hc
      · rename_i q; rw [if_pos q, hc]
      · exact absurd hc.symm hn
  · have e6 : c = 6 := by rw [← hc]; unfold keyC; rw [if_pos hr]
    subst e6
    have HH := lhid h
    clear h hc hn
    go_enter Try.func76, Try.ntmps76
    go_wp2_with fail
    with_reducible refine (get_none base g F w day G E n HH.out hr).mono ?_
    rintro e w' ⟨rfl, rfl⟩
    exact ⟨rfl, rfl, Below.refl _ _⟩
theorem key_yes (base g : Nat) (F : Nat → Prop) (w : World) (day : Int) (G : List S39) (E : List S44) (v n by_ : Int) (h : BK base F w g day G E) (hT : Tree G) (hv0 : 0 ≤ v) (hv1 : v ≤ 15) (hc : keyC day G v n by_ = 0) :
    Calls Try.prog 76 #[.pointer (some ⟨g, 0, none⟩), .int .i64 v, .int .i64 n, .int .i64 by_] w fun e w' => e = .returned (.tuple #[]) ∧ Below w.heap.size w w' := by
  unfold keyC at hc
  by_cases hr : 1 ≤ n ∧ n ≤ G.length
  · rw [if_neg (fun q => q hr)] at hc
    refine (key_calls base g F w day G E v n by_ h hT hr.1 hr.2 hv0 hv1).mono ?_
    rintro e w' ⟨rfl, hb⟩
    refine ⟨?_, hb⟩
    unfold keyE
    split at hc
    · cases hc
    · rename_i q; rw [if_neg q]
      split at hc
      · cases hc
      · rename_i q; rw [if_neg q]
  · rw [if_pos hr] at hc; cases hc
theorem keyC_in {day : Int} {G : List S39} {v n by_ : Int} (hc : keyC day G v n by_ = 0) : 1 ≤ n ∧ n ≤ G.length := by
  unfold keyC at hc
  by_cases hr : 1 ≤ n ∧ n ≤ G.length
  · exact hr
  · rw [if_pos hr] at hc; cases hc
theorem vault_yes {v : Int} (h0 : 0 ≤ v) (h1 : v ≤ 15) : custody_vault.f v = some true := by unfold custody_vault.f; simp [h0, h1]
theorem vault_no {v : Int} (h : ¬ (0 ≤ v ∧ v ≤ 15)) : custody_vault.f v = some false := by
  unfold custody_vault.f
  by_cases h0 : 0 ≤ v
  · have h1 : ¬ v ≤ 15 := fun q => h ⟨h0, q⟩
    simp [h0, h1]
  · simp [h0]
def openC (day : Int) (G : List S39) (E : List S44) (v a ab s sb : Int) : Int :=
  if ¬ (0 ≤ v ∧ v ≤ 15) then 2 else if keyC day G v a ab ≠ 0 then keyC day G v a ab else if keyC day G v s sb ≠ 0 then keyC day G v s sb else if ab = sb ∨ (gr G a.toNat).f2 = (gr G s.toNat).f2 then 13 else if 4096 ≤ E.length then 8 else 0
theorem tree_le' {G : List S39} (h : Tree G) : G.length ≤ 1000 := by have := h.1; omega
theorem open_arg (base g : Nat) (F : Nat → Prop) (w : World) (day : Int) (G : List S39) (E : List S44) (v a ab s sb : Int) (h : BK base F w g day G E) (hT : Tree G) (hv : ¬ (0 ≤ v ∧ v ≤ 15)) : Calls Try.prog 38 #[.pointer (some ⟨g, 0, none⟩), .int .i64 v, .int .i64 a, .int .i64 ab, .int .i64 s, .int .i64 sb] w fun e w' => e = .returned (.int .i64 2) ∧ Below w.heap.size w w' := by
  have hu70 := Try.underlying70
  have hu39 := Try.underlying39
  have HBK := lhid h
  have HT := lhid hT
  have HF := lhid (show ∀ k, F k → k < w.heap.size from fun k q => (h.fb k q).2)
  clear h hT
  have hmf : ∀ (fn : Fn) (first cap : Array Value) (w : World), (Instr.makeFunc fn first cap).run Try.prog w = .ok (.func fn first cap) w := fun _ _ _ _ => rfl
  go_enter_defers Try.func38, Try.ntmps38
  go_upto_region 2 with (fail)
  have HB_1 := lhid (Below.refl w.heap.size w)
  have hb := below_alloc (Below.refl w.heap.size w) (.cells #[.int .i64 0] 24)
  have hn := blk_new w (.cells #[.int .i64 0] 24)
  have HZ1 := lhid (show (World.alloc w (.cells #[.int .i64 0] 24)).heap.size = w.heap.size + 1 from by simp)
  generalize hq : World.alloc w (.cells #[.int .i64 0] 24) = w1 at hb hn HZ1 ⊢
  clear hq
  have HBK_2 := lhid (HBK.out.next hb)
  have HB_3 := lhid (below_then HB_1.out HB_1.out.size hb)
  clear HBK HB_1 hb
  have BX_4 := lhid (hn)
  clear hn
  clear hmf
  obtain ⟨AG, cG, AE, cE, ho⟩ := HBK_2.out.opn
  have hc := ho.c0
  clear ho
  go_wp2_with fail
  with_reducible refine (refuse_no _ 1).mono ?_
  rintro e w' ⟨rfl, rfl⟩
  clear hc
  go_wp2_with fail
  with_reducible refine (custody_vault.calls v false w1 (vault_no hv)).mono ?_
  rintro e w2 ⟨rfl, nd, hq⟩
  have hb := pw_below_drewN (Below.refl w1.heap.size w1) nd
  rw [← hq] at hb
  clear hq
  have HBK_5 := lhid (HBK_2.out.next hb)
  have HB_6 := lhid (below_then HB_3.out HB_3.out.size hb)
  have BX_7 := lhid (blk_below BX_4.out hb)
  clear HBK_2 HB_3 BX_4 hb
  go_wp2_with fail
  with_reducible refine (refuse_yes _ 2).mono ?_
  rintro e w' ⟨rfl, rfl⟩
  refine leaves_cons (f := 74) (args := #[.pointer (some ⟨w.heap.size, 0, none⟩)]) (by simp) (by simp [go_sem]) ?_
  refine (catch74_panicking ⟨w.heap.size, 0, none⟩ 0 2 [] _ (blk_cell BX_7.out 0) (blk_frozen BX_7.out 0)).mono ?_
  rintro e u' w'' ⟨rfl, rfl, w1, hb, rfl⟩
  have hbw := (below_then HB_6.out HB_6.out.size hb).setCell (p := ⟨w.heap.size, 0, none⟩) (Nat.le_refl _) (.int .i64 2)
  have hcw := blk_cell (blk_put (blk_below BX_7.out hb) 0 (.int .i64 2) rfl) 0
  simp [Leaves, settle, results, Try.results38, go_sem, hcw]
  exact hbw
theorem open_key1 (base g : Nat) (F : Nat → Prop) (w : World) (day : Int) (G : List S39) (E : List S44) (v a ab s sb : Int) (h : BK base F w g day G E) (hT : Tree G) (hv0 : 0 ≤ v) (hv1 : v ≤ 15) (c : Int) (hk1 : keyC day G v a ab = c) (hcn : c ≠ 0) : Calls Try.prog 38 #[.pointer (some ⟨g, 0, none⟩), .int .i64 v, .int .i64 a, .int .i64 ab, .int .i64 s, .int .i64 sb] w fun e w' => e = .returned (.int .i64 c) ∧ Below w.heap.size w w' := by
  have hu70 := Try.underlying70
  have hu39 := Try.underlying39
  have HBK := lhid h
  have HT := lhid hT
  have HF := lhid (show ∀ k, F k → k < w.heap.size from fun k q => (h.fb k q).2)
  clear h hT
  have hmf : ∀ (fn : Fn) (first cap : Array Value) (w : World), (Instr.makeFunc fn first cap).run Try.prog w = .ok (.func fn first cap) w := fun _ _ _ _ => rfl
  go_enter_defers Try.func38, Try.ntmps38
  go_upto_region 2 with (fail)
  have HB_1 := lhid (Below.refl w.heap.size w)
  have hb := below_alloc (Below.refl w.heap.size w) (.cells #[.int .i64 0] 24)
  have hn := blk_new w (.cells #[.int .i64 0] 24)
  have HZ1 := lhid (show (World.alloc w (.cells #[.int .i64 0] 24)).heap.size = w.heap.size + 1 from by simp)
  generalize hq : World.alloc w (.cells #[.int .i64 0] 24) = w1 at hb hn HZ1 ⊢
  clear hq
  have HBK_2 := lhid (HBK.out.next hb)
  have HB_3 := lhid (below_then HB_1.out HB_1.out.size hb)
  clear HBK HB_1 hb
  have BX_4 := lhid (hn)
  clear hn
  clear hmf
  obtain ⟨AG, cG, AE, cE, ho⟩ := HBK_2.out.opn
  have hc := ho.c0
  clear ho
  go_wp2_with fail
  with_reducible refine (refuse_no _ 1).mono ?_
  rintro e w' ⟨rfl, rfl⟩
  clear hc
  go_wp2_with fail
  with_reducible refine (custody_vault.calls v true w1 (vault_yes hv0 hv1)).mono ?_
  rintro e w2 ⟨rfl, nd, hq⟩
  have hb := pw_below_drewN (Below.refl w1.heap.size w1) nd
  rw [← hq] at hb
  clear hq
  have HBK_5 := lhid (HBK_2.out.next hb)
  have HB_6 := lhid (below_then HB_3.out HB_3.out.size hb)
  have BX_7 := lhid (blk_below BX_4.out hb)
  clear HBK_2 HB_3 BX_4 hb
  go_wp2_with fail
  with_reducible refine (refuse_no _ 2).mono ?_
  rintro e w' ⟨rfl, rfl⟩
  go_wp2_with fail
  with_reducible refine (key_no base g F w2 day G E v a ab c HBK_5.out HT.out hv0 hv1 hk1 hcn).mono ?_
  rintro e w3 ⟨rfl, hb⟩
  have HBK_8 := lhid (HBK_5.out.next hb)
  have HB_9 := lhid (below_then HB_6.out HB_6.out.size hb)
  have BX_10 := lhid (blk_below BX_7.out hb)
  clear HBK_5 HB_6 BX_7 hb
  refine leaves_cons (f := 74) (args := #[.pointer (some ⟨w.heap.size, 0, none⟩)]) (by simp) (by simp [go_sem]) ?_
  refine (catch74_panicking ⟨w.heap.size, 0, none⟩ 0 c [] _ (blk_cell BX_10.out 0) (blk_frozen BX_10.out 0)).mono ?_
  rintro e u' w'' ⟨rfl, rfl, w1, hb, rfl⟩
  have hbw := (below_then HB_9.out HB_9.out.size hb).setCell (p := ⟨w.heap.size, 0, none⟩) (Nat.le_refl _) (.int .i64 c)
  have hcw := blk_cell (blk_put (blk_below BX_10.out hb) 0 (.int .i64 c) rfl) 0
  simp [Leaves, settle, results, Try.results38, go_sem, hcw]
  exact hbw
theorem open_key2 (base g : Nat) (F : Nat → Prop) (w : World) (day : Int) (G : List S39) (E : List S44) (v a ab s sb : Int) (h : BK base F w g day G E) (hT : Tree G) (hv0 : 0 ≤ v) (hv1 : v ≤ 15) (hk1 : keyC day G v a ab = 0) (c : Int) (hk2 : keyC day G v s sb = c) (hcn : c ≠ 0) : Calls Try.prog 38 #[.pointer (some ⟨g, 0, none⟩), .int .i64 v, .int .i64 a, .int .i64 ab, .int .i64 s, .int .i64 sb] w fun e w' => e = .returned (.int .i64 c) ∧ Below w.heap.size w w' := by
  have hu70 := Try.underlying70
  have hu39 := Try.underlying39
  have HBK := lhid h
  have HT := lhid hT
  have HF := lhid (show ∀ k, F k → k < w.heap.size from fun k q => (h.fb k q).2)
  clear h hT
  have hmf : ∀ (fn : Fn) (first cap : Array Value) (w : World), (Instr.makeFunc fn first cap).run Try.prog w = .ok (.func fn first cap) w := fun _ _ _ _ => rfl
  go_enter_defers Try.func38, Try.ntmps38
  go_upto_region 2 with (fail)
  have HB_1 := lhid (Below.refl w.heap.size w)
  have hb := below_alloc (Below.refl w.heap.size w) (.cells #[.int .i64 0] 24)
  have hn := blk_new w (.cells #[.int .i64 0] 24)
  have HZ1 := lhid (show (World.alloc w (.cells #[.int .i64 0] 24)).heap.size = w.heap.size + 1 from by simp)
  generalize hq : World.alloc w (.cells #[.int .i64 0] 24) = w1 at hb hn HZ1 ⊢
  clear hq
  have HBK_2 := lhid (HBK.out.next hb)
  have HB_3 := lhid (below_then HB_1.out HB_1.out.size hb)
  clear HBK HB_1 hb
  have BX_4 := lhid (hn)
  clear hn
  clear hmf
  obtain ⟨AG, cG, AE, cE, ho⟩ := HBK_2.out.opn
  have hc := ho.c0
  clear ho
  go_wp2_with fail
  with_reducible refine (refuse_no _ 1).mono ?_
  rintro e w' ⟨rfl, rfl⟩
  clear hc
  go_wp2_with fail
  with_reducible refine (custody_vault.calls v true w1 (vault_yes hv0 hv1)).mono ?_
  rintro e w2 ⟨rfl, nd, hq⟩
  have hb := pw_below_drewN (Below.refl w1.heap.size w1) nd
  rw [← hq] at hb
  clear hq
  have HBK_5 := lhid (HBK_2.out.next hb)
  have HB_6 := lhid (below_then HB_3.out HB_3.out.size hb)
  have BX_7 := lhid (blk_below BX_4.out hb)
  clear HBK_2 HB_3 BX_4 hb
  go_wp2_with fail
  with_reducible refine (refuse_no _ 2).mono ?_
  rintro e w' ⟨rfl, rfl⟩
  go_wp2_with fail
  with_reducible refine (key_yes base g F w2 day G E v a ab HBK_5.out HT.out hv0 hv1 hk1).mono ?_
  rintro e w3 ⟨rfl, hb⟩
  have HBK_8 := lhid (HBK_5.out.next hb)
  have HB_9 := lhid (below_then HB_6.out HB_6.out.size hb)
  have BX_10 := lhid (blk_below BX_7.out hb)
  clear HBK_5 HB_6 BX_7 hb
  go_wp2_with fail
  with_reducible refine (key_no base g F w3 day G E v s sb c HBK_8.out HT.out hv0 hv1 hk2 hcn).mono ?_
  rintro e w4 ⟨rfl, hb⟩
  have HBK_11 := lhid (HBK_8.out.next hb)
  have HB_12 := lhid (below_then HB_9.out HB_9.out.size hb)
  have BX_13 := lhid (blk_below BX_10.out hb)
  clear HBK_8 HB_9 BX_10 hb
  refine leaves_cons (f := 74) (args := #[.pointer (some ⟨w.heap.size, 0, none⟩)]) (by simp) (by simp [go_sem]) ?_
  refine (catch74_panicking ⟨w.heap.size, 0, none⟩ 0 c [] _ (blk_cell BX_13.out 0) (blk_frozen BX_13.out 0)).mono ?_
  rintro e u' w'' ⟨rfl, rfl, w1, hb, rfl⟩
  have hbw := (below_then HB_12.out HB_12.out.size hb).setCell (p := ⟨w.heap.size, 0, none⟩) (Nat.le_refl _) (.int .i64 c)
  have hcw := blk_cell (blk_put (blk_below BX_13.out hb) 0 (.int .i64 c) rfl) 0
  simp [Leaves, settle, results, Try.results38, go_sem, hcw]
  exact hbw
theorem open_same (base g : Nat) (F : Nat → Prop) (w : World) (day : Int) (G : List S39) (E : List S44) (v a ab s sb : Int) (h : BK base F w g day G E) (hT : Tree G) (hv0 : 0 ≤ v) (hv1 : v ≤ 15) (hk1 : keyC day G v a ab = 0) (hk2 : keyC day G v s sb = 0) (hsame : ab = sb) : Calls Try.prog 38 #[.pointer (some ⟨g, 0, none⟩), .int .i64 v, .int .i64 a, .int .i64 ab, .int .i64 s, .int .i64 sb] w fun e w' => e = .returned (.int .i64 13) ∧ Below w.heap.size w w' := by
  have hu70 := Try.underlying70
  have hu39 := Try.underlying39
  have HBK := lhid h
  have HT := lhid hT
  have HF := lhid (show ∀ k, F k → k < w.heap.size from fun k q => (h.fb k q).2)
  clear h hT
  have HSM := lhid hsame
  clear hsame
  have hmf : ∀ (fn : Fn) (first cap : Array Value) (w : World), (Instr.makeFunc fn first cap).run Try.prog w = .ok (.func fn first cap) w := fun _ _ _ _ => rfl
  go_enter_defers Try.func38, Try.ntmps38
  go_upto_region 2 with (fail)
  have HB_1 := lhid (Below.refl w.heap.size w)
  have hb := below_alloc (Below.refl w.heap.size w) (.cells #[.int .i64 0] 24)
  have hn := blk_new w (.cells #[.int .i64 0] 24)
  have HZ1 := lhid (show (World.alloc w (.cells #[.int .i64 0] 24)).heap.size = w.heap.size + 1 from by simp)
  generalize hq : World.alloc w (.cells #[.int .i64 0] 24) = w1 at hb hn HZ1 ⊢
  clear hq
  have HBK_2 := lhid (HBK.out.next hb)
  have HB_3 := lhid (below_then HB_1.out HB_1.out.size hb)
  clear HBK HB_1 hb
  have BX_4 := lhid (hn)
  clear hn
  clear hmf
  obtain ⟨AG, cG, AE, cE, ho⟩ := HBK_2.out.opn
  have hc := ho.c0
  clear ho
  go_wp2_with fail
  with_reducible refine (refuse_no _ 1).mono ?_
  rintro e w' ⟨rfl, rfl⟩
  clear hc
  go_wp2_with fail
  with_reducible refine (custody_vault.calls v true w1 (vault_yes hv0 hv1)).mono ?_
  rintro e w2 ⟨rfl, nd, hq⟩
  have hb := pw_below_drewN (Below.refl w1.heap.size w1) nd
  rw [← hq] at hb
  clear hq
  have HBK_5 := lhid (HBK_2.out.next hb)
  have HB_6 := lhid (below_then HB_3.out HB_3.out.size hb)
  have BX_7 := lhid (blk_below BX_4.out hb)
  clear HBK_2 HB_3 BX_4 hb
  go_wp2_with fail
  with_reducible refine (refuse_no _ 2).mono ?_
  rintro e w' ⟨rfl, rfl⟩
  go_wp2_with fail
  with_reducible refine (key_yes base g F w2 day G E v a ab HBK_5.out HT.out hv0 hv1 hk1).mono ?_
  rintro e w3 ⟨rfl, hb⟩
  have HBK_8 := lhid (HBK_5.out.next hb)
  have HB_9 := lhid (below_then HB_6.out HB_6.out.size hb)
  have BX_10 := lhid (blk_below BX_7.out hb)
  clear HBK_5 HB_6 BX_7 hb
  go_wp2_with fail
  with_reducible refine (key_yes base g F w3 day G E v s sb HBK_8.out HT.out hv0 hv1 hk2).mono ?_
  rintro e w4 ⟨rfl, hb⟩
  have HBK_11 := lhid (HBK_8.out.next hb)
  have HB_12 := lhid (below_then HB_9.out HB_9.out.size hb)
  have BX_13 := lhid (blk_below BX_10.out hb)
  clear HBK_8 HB_9 BX_10 hb
  have hi1 := keyC_in hk1
  have hi2 := keyC_in hk2
  obtain ⟨m1, rfl⟩ : ∃ m : Nat, a = m := ⟨a.toNat, by omega⟩
  obtain ⟨m2, rfl⟩ : ∃ m : Nat, s = m := ⟨s.toNat, by omega⟩
  have H11 := lhid (show 1 ≤ m1 ∧ m1 ≤ G.length by omega)
  have H22 := lhid (show 1 ≤ m2 ∧ m2 ≤ G.length by omega)
  clear hi1 hi2 hk1 hk2
  simp only [Int.toNat_natCast] at *
  obtain ⟨AG, cG, AE, cE, ho⟩ := HBK_11.out.opn
  obtain ⟨b, hA, hFb⟩ := ho.ad (by have := H11.out; omega)
  subst hA
  have HO_14 := lhid (ho)
  clear ho
  obtain ⟨r1, hr1⟩ : ∃ u, u = (gr G m1).f2 := ⟨_, rfl⟩
  obtain ⟨r2, hr2⟩ : ∃ u, u = (gr G m2).f2 := ⟨_, rfl⟩
  have HR1 := lhid hr1
  have HR2 := lhid hr2
  have hsame := HSM.out
  go_upto_region 6 with (fail)
  refine qp 12 (.pointer (some ⟨w.heap.size, 0, none⟩)) [{ target := Target.fn (Fn.func 74) #[Value.pointer (some { block := w.heap.size, off := 0 })], args := #[] }] (fun c w' => Leaves Try.prog Try.f38 #[undef, undef, undef, undef, undef, undef, undef, undef, undef, undef, undef, undef, .pointer (some ⟨w.heap.size, 0, none⟩)] (fun e w' => e = .returned (.int .i64 13) ∧ Below w.heap.size w w') [{ target := Target.fn (Fn.func 74) #[Value.pointer (some { block := w.heap.size, off := 0 })], args := #[] }] (.panicking c) w') ?_ ?_
  · rintro c a9 w9 ⟨h1, h2, h3⟩
    show Leaves Try.prog Try.f38 a9.tmps _ a9.defers (.panicking c) w9
    rw [h2]
    exact leaves_res (res38 (by rw [h1]; rfl)) _ _ _ h3
  have hqs : (ab == sb) = true := beq_iff_eq.mpr hsame
  clear hr1 hr2
  have hb := below_drew1 (Below.refl w4.heap.size w4)
  have HBK_15 := lhid (HBK_11.out.next hb)
  have HB_16 := lhid (below_then HB_12.out HB_12.out.size hb)
  have BX_17 := lhid (blk_below BX_13.out hb)
  have HO_18 := lhid (HO_14.out.next hb)
  clear HBK_11 HB_12 BX_13 HO_14 hb
  refine start_ (n := 19) (S := fun w' => w'.cell? ⟨b, (m1 - 1) * 9 + 2, none⟩ = some (.int .i64 r1) ∧ w'.cell? ⟨b, (m2 - 1) * 9 + 2, none⟩ = some (.int .i64 r2)) (ds := []) #[false, false, false, false, false, false, false, false, false, false, false, false, false, false, false, false, false, false, false] (by kernel_rfl) rfl rfl ⟨(by rw [HR1.out]; exact (HO_18.out.cells m1 H11.out.1 H11.out.2).2.2.1), (by rw [HR2.out]; exact (HO_18.out.cells m2 H22.out.1 H22.out.2).2.2.1)⟩ (fun hHeld => ?_)
  generalize w4.drew = w5 at HBK_15 HB_16 BX_17 HO_18 hHeld ⊢
  refine pure_ (i := 0) (N := some 40) (v := ?_) (a' := ?_) #[true, false, false, false, false, false, false, false, false, false, false, false, false, false, false, false, false, false, false] rfl rfl (by kernel_rfl) (fun _ _ _ h => qp_put (n := 40) (t := 12) (by decide) h) (Or.inl ⟨by rfl, ?_⟩) ?_ ?_
  rotate_left
  · intro w'
    go_simp
    with_reducible rfl
  rotate_left
  · simp only [Act.put, List.setIfInBounds_toArray, List.set_cons_zero, List.set_cons_succ, i64_w, i32_w]
    rfl
  refine pure_ (i := 1) (N := some 41) (v := ?_) (a' := ?_) #[true, true, false, false, false, false, false, false, false, false, false, false, false, false, false, false, false, false, false] rfl rfl (by kernel_rfl) (fun _ _ _ h => qp_put (n := 41) (t := 12) (by decide) h) (Or.inl ⟨by rfl, ?_⟩) ?_ ?_
  rotate_left
  · intro w'
    go_simp
    with_reducible rfl
  rotate_left
  · simp only [Act.put, List.setIfInBounds_toArray, List.set_cons_zero, List.set_cons_succ, i64_w, i32_w]
    rfl
  refine pure_ (i := 2) (N := some 42) (v := ?_) (a' := ?_) #[true, true, true, false, false, false, false, false, false, false, false, false, false, false, false, false, false, false, false] rfl rfl (by kernel_rfl) (fun _ _ _ h => qp_put (n := 42) (t := 12) (by decide) h) (Or.inl ⟨by rfl, ?_⟩) ?_ ?_
  rotate_left
  · intro w'
    go_simp
    with_reducible rfl
  rotate_left
  · simp only [Act.put, List.setIfInBounds_toArray, List.set_cons_zero, List.set_cons_succ, i64_w, i32_w]
    rfl
  refine pure_ (i := 3) (N := some 43) (v := ?_) (a' := ?_) #[true, true, true, true, false, false, false, false, false, false, false, false, false, false, false, false, false, false, false] rfl rfl (by kernel_rfl) (fun _ _ _ h => qp_put (n := 43) (t := 12) (by decide) h) (Or.inl ⟨by rfl, ?_⟩) ?_ ?_
  rotate_left
  · intro w'
    go_simp
    with_reducible rfl
  rotate_left
  · simp only [Act.put, List.setIfInBounds_toArray, List.set_cons_zero, List.set_cons_succ, i64_w, i32_w]
    rfl
  refine pure_ (i := 4) (N := some 44) (v := undef) (a' := ?_) #[true, true, true, true, true, false, false, false, false, false, false, false, false, false, false, false, false, false, false] rfl rfl (by kernel_rfl) (fun _ _ _ h => qp_put (n := 44) (t := 12) (by decide) h) (Or.inr ⟨by rfl, rfl⟩) ?_ ?_
  rotate_left
  · simp only [Act.put, List.setIfInBounds_toArray, List.set_cons_zero, List.set_cons_succ, i64_w, i32_w]
    rfl
  refine pure_ (i := 5) (N := some 45) (v := undef) (a' := ?_) #[true, true, true, true, true, true, false, false, false, false, false, false, false, false, false, false, false, false, false] rfl rfl (by kernel_rfl) (fun _ _ _ h => qp_put (n := 45) (t := 12) (by decide) h) (Or.inr ⟨by rfl, rfl⟩) ?_ ?_
  rotate_left
  · simp only [Act.put, List.setIfInBounds_toArray, List.set_cons_zero, List.set_cons_succ, i64_w, i32_w]
    rfl
  refine pure_ (i := 6) (N := some 46) (v := undef) (a' := ?_) #[true, true, true, true, true, true, true, false, false, false, false, false, false, false, false, false, false, false, false] rfl rfl (by kernel_rfl) (fun _ _ _ h => qp_put (n := 46) (t := 12) (by decide) h) (Or.inr ⟨by rfl, rfl⟩) ?_ ?_
  rotate_left
  · simp only [Act.put, List.setIfInBounds_toArray, List.set_cons_zero, List.set_cons_succ, i64_w, i32_w]
    rfl
  refine pure_ (i := 7) (N := some 47) (v := undef) (a' := ?_) #[true, true, true, true, true, true, true, true, false, false, false, false, false, false, false, false, false, false, false] rfl rfl (by kernel_rfl) (fun _ _ _ h => qp_put (n := 47) (t := 12) (by decide) h) (Or.inr ⟨by rfl, rfl⟩) ?_ ?_
  rotate_left
  · simp only [Act.put, List.setIfInBounds_toArray, List.set_cons_zero, List.set_cons_succ, i64_w, i32_w]
    rfl
  refine pure_ (i := 8) (N := some 48) (v := undef) (a' := ?_) #[true, true, true, true, true, true, true, true, true, false, false, false, false, false, false, false, false, false, false] rfl rfl (by kernel_rfl) (fun _ _ _ h => qp_put (n := 48) (t := 12) (by decide) h) (Or.inr ⟨by rfl, rfl⟩) ?_ ?_
  rotate_left
  · simp only [Act.put, List.setIfInBounds_toArray, List.set_cons_zero, List.set_cons_succ, i64_w, i32_w]
    rfl
  refine pure_ (i := 9) (N := some 49) (v := undef) (a' := ?_) #[true, true, true, true, true, true, true, true, true, true, false, false, false, false, false, false, false, false, false] rfl rfl (by kernel_rfl) (fun _ _ _ h => qp_put (n := 49) (t := 12) (by decide) h) (Or.inr ⟨by rfl, rfl⟩) ?_ ?_
  rotate_left
  · simp only [Act.put, List.setIfInBounds_toArray, List.set_cons_zero, List.set_cons_succ, i64_w, i32_w]
    rfl
  refine pure_ (i := 10) (N := some 50) (v := undef) (a' := ?_) #[true, true, true, true, true, true, true, true, true, true, true, false, false, false, false, false, false, false, false] rfl rfl (by kernel_rfl) (fun _ _ _ h => qp_put (n := 50) (t := 12) (by decide) h) (Or.inr ⟨by rfl, rfl⟩) ?_ ?_
  rotate_left
  · simp only [Act.put, List.setIfInBounds_toArray, List.set_cons_zero, List.set_cons_succ, i64_w, i32_w]
    rfl
  refine pure_ (i := 11) (N := some 51) (v := undef) (a' := ?_) #[true, true, true, true, true, true, true, true, true, true, true, true, false, false, false, false, false, false, false] rfl rfl (by kernel_rfl) (fun _ _ _ h => qp_put (n := 51) (t := 12) (by decide) h) (Or.inr ⟨by rfl, rfl⟩) ?_ ?_
  rotate_left
  · simp only [Act.put, List.setIfInBounds_toArray, List.set_cons_zero, List.set_cons_succ, i64_w, i32_w]
    rfl
  refine pure_ (i := 12) (N := some 52) (v := undef) (a' := ?_) #[true, true, true, true, true, true, true, true, true, true, true, true, true, false, false, false, false, false, false] rfl rfl (by kernel_rfl) (fun _ _ _ h => qp_put (n := 52) (t := 12) (by decide) h) (Or.inr ⟨by rfl, rfl⟩) ?_ ?_
  rotate_left
  · simp only [Act.put, List.setIfInBounds_toArray, List.set_cons_zero, List.set_cons_succ, i64_w, i32_w]
    rfl
  refine pure_ (i := 13) (N := some 53) (v := undef) (a' := ?_) #[true, true, true, true, true, true, true, true, true, true, true, true, true, true, false, false, false, false, false] rfl rfl (by kernel_rfl) (fun _ _ _ h => qp_put (n := 53) (t := 12) (by decide) h) (Or.inr ⟨by rfl, rfl⟩) ?_ ?_
  rotate_left
  · simp only [Act.put, List.setIfInBounds_toArray, List.set_cons_zero, List.set_cons_succ, i64_w, i32_w]
    rfl
  refine pure_ (i := 14) (N := some 54) (v := undef) (a' := ?_) #[true, true, true, true, true, true, true, true, true, true, true, true, true, true, true, false, false, false, false] rfl rfl (by kernel_rfl) (fun _ _ _ h => qp_put (n := 54) (t := 12) (by decide) h) (Or.inr ⟨by rfl, rfl⟩) ?_ ?_
  rotate_left
  · simp only [Act.put, List.setIfInBounds_toArray, List.set_cons_zero, List.set_cons_succ, i64_w, i32_w]
    rfl
  refine pure_ (i := 15) (N := some 55) (v := undef) (a' := ?_) #[true, true, true, true, true, true, true, true, true, true, true, true, true, true, true, true, false, false, false] rfl rfl (by kernel_rfl) (fun _ _ _ h => qp_put (n := 55) (t := 12) (by decide) h) (Or.inr ⟨by rfl, rfl⟩) ?_ ?_
  rotate_left
  · simp only [Act.put, List.setIfInBounds_toArray, List.set_cons_zero, List.set_cons_succ, i64_w, i32_w]
    rfl
  refine pure_ (i := 16) (N := some 56) (v := undef) (a' := ?_) #[true, true, true, true, true, true, true, true, true, true, true, true, true, true, true, true, true, false, false] rfl rfl (by kernel_rfl) (fun _ _ _ h => qp_put (n := 56) (t := 12) (by decide) h) (Or.inr ⟨by rfl, rfl⟩) ?_ ?_
  rotate_left
  · simp only [Act.put, List.setIfInBounds_toArray, List.set_cons_zero, List.set_cons_succ, i64_w, i32_w]
    rfl
  refine pure_ (i := 17) (N := some 57) (v := ?_) (a' := ?_) #[true, true, true, true, true, true, true, true, true, true, true, true, true, true, true, true, true, true, false] rfl rfl (by kernel_rfl) (fun _ _ _ h => qp_put (n := 57) (t := 12) (by decide) h) (Or.inl ⟨by rfl, ?_⟩) ?_ ?_
  rotate_left
  · intro w'
    go_simp
    with_reducible rfl
  rotate_left
  · simp only [Act.put, List.setIfInBounds_toArray, List.set_cons_zero, List.set_cons_succ, i64_w, i32_w]
    rfl
  refine one_ (i := 18) (N := some 58) #[true, true, true, true, true, true, true, true, true, true, true, true, true, true, true, true, true, true, true] rfl rfl (by kernel_rfl) (by decide) (fun K hK => ?_)
  refine goes_p Try.func42 (by kernel_rfl) rfl #[.bool true, .int .i64 13] (by rfl) rfl rfl (by (try simp only [List.map_toArray, List.map_cons, List.map_nil]); first | done | rfl) ?_
  with_reducible refine (refuse_yes _ 13).mono ?_
  rintro e w9 ⟨rfl, rfl⟩
  refine ⟨_, rfl, ?_⟩
  refine ⟨rfl, rfl, ?_⟩
  refine leaves_cons (f := 74) (args := #[.pointer (some ⟨w.heap.size, 0, none⟩)]) (by simp) (by simp [go_sem]) ?_
  refine (catch74_panicking ⟨w.heap.size, 0, none⟩ 0 13 [] _ (blk_cell BX_17.out 0) (blk_frozen BX_17.out 0)).mono ?_
  rintro e u' w'' ⟨rfl, rfl, w1, hb, rfl⟩
  have hbw := (below_then HB_16.out HB_16.out.size hb).setCell (p := ⟨w.heap.size, 0, none⟩) (Nat.le_refl _) (.int .i64 13)
  have hcw := blk_cell (blk_put (blk_below BX_17.out hb) 0 (.int .i64 13) rfl) 0
  simp [Leaves, settle, results, Try.results38, go_sem, hcw]
  exact hbw
theorem open_root (base g : Nat) (F : Nat → Prop) (w : World) (day : Int) (G : List S39) (E : List S44) (v a ab s sb : Int) (h : BK base F w g day G E) (hT : Tree G) (hv0 : 0 ≤ v) (hv1 : v ≤ 15) (hk1 : keyC day G v a ab = 0) (hk2 : keyC day G v s sb = 0) (hsame : ab ≠ sb) (hroot : (gr G a.toNat).f2 = (gr G s.toNat).f2) : Calls Try.prog 38 #[.pointer (some ⟨g, 0, none⟩), .int .i64 v, .int .i64 a, .int .i64 ab, .int .i64 s, .int .i64 sb] w fun e w' => e = .returned (.int .i64 13) ∧ Below w.heap.size w w' := by
  have hu70 := Try.underlying70
  have hu39 := Try.underlying39
  have HBK := lhid h
  have HT := lhid hT
  have HF := lhid (show ∀ k, F k → k < w.heap.size from fun k q => (h.fb k q).2)
  clear h hT
  have HSM := lhid hsame
  clear hsame
  have hmf : ∀ (fn : Fn) (first cap : Array Value) (w : World), (Instr.makeFunc fn first cap).run Try.prog w = .ok (.func fn first cap) w := fun _ _ _ _ => rfl
  go_enter_defers Try.func38, Try.ntmps38
  go_upto_region 2 with (fail)
  have HB_1 := lhid (Below.refl w.heap.size w)
  have hb := below_alloc (Below.refl w.heap.size w) (.cells #[.int .i64 0] 24)
  have hn := blk_new w (.cells #[.int .i64 0] 24)
  have HZ1 := lhid (show (World.alloc w (.cells #[.int .i64 0] 24)).heap.size = w.heap.size + 1 from by simp)
  generalize hq : World.alloc w (.cells #[.int .i64 0] 24) = w1 at hb hn HZ1 ⊢
  clear hq
  have HBK_2 := lhid (HBK.out.next hb)
  have HB_3 := lhid (below_then HB_1.out HB_1.out.size hb)
  clear HBK HB_1 hb
  have BX_4 := lhid (hn)
  clear hn
  clear hmf
  obtain ⟨AG, cG, AE, cE, ho⟩ := HBK_2.out.opn
  have hc := ho.c0
  clear ho
  go_wp2_with fail
  with_reducible refine (refuse_no _ 1).mono ?_
  rintro e w' ⟨rfl, rfl⟩
  clear hc
  go_wp2_with fail
  with_reducible refine (custody_vault.calls v true w1 (vault_yes hv0 hv1)).mono ?_
  rintro e w2 ⟨rfl, nd, hq⟩
  have hb := pw_below_drewN (Below.refl w1.heap.size w1) nd
  rw [← hq] at hb
  clear hq
  have HBK_5 := lhid (HBK_2.out.next hb)
  have HB_6 := lhid (below_then HB_3.out HB_3.out.size hb)
  have BX_7 := lhid (blk_below BX_4.out hb)
  clear HBK_2 HB_3 BX_4 hb
  go_wp2_with fail
  with_reducible refine (refuse_no _ 2).mono ?_
  rintro e w' ⟨rfl, rfl⟩
  go_wp2_with fail
  with_reducible refine (key_yes base g F w2 day G E v a ab HBK_5.out HT.out hv0 hv1 hk1).mono ?_
  rintro e w3 ⟨rfl, hb⟩
  have HBK_8 := lhid (HBK_5.out.next hb)
  have HB_9 := lhid (below_then HB_6.out HB_6.out.size hb)
  have BX_10 := lhid (blk_below BX_7.out hb)
  clear HBK_5 HB_6 BX_7 hb
  go_wp2_with fail
  with_reducible refine (key_yes base g F w3 day G E v s sb HBK_8.out HT.out hv0 hv1 hk2).mono ?_
  rintro e w4 ⟨rfl, hb⟩
  have HBK_11 := lhid (HBK_8.out.next hb)
  have HB_12 := lhid (below_then HB_9.out HB_9.out.size hb)
  have BX_13 := lhid (blk_below BX_10.out hb)
  clear HBK_8 HB_9 BX_10 hb
  have hi1 := keyC_in hk1
  have hi2 := keyC_in hk2
  obtain ⟨m1, rfl⟩ : ∃ m : Nat, a = m := ⟨a.toNat, by omega⟩
  obtain ⟨m2, rfl⟩ : ∃ m : Nat, s = m := ⟨s.toNat, by omega⟩
  have H11 := lhid (show 1 ≤ m1 ∧ m1 ≤ G.length by omega)
  have H22 := lhid (show 1 ≤ m2 ∧ m2 ≤ G.length by omega)
  clear hi1 hi2 hk1 hk2
  simp only [Int.toNat_natCast] at *
  obtain ⟨AG, cG, AE, cE, ho⟩ := HBK_11.out.opn
  obtain ⟨b, hA, hFb⟩ := ho.ad (by have := H11.out; omega)
  subst hA
  have HO_14 := lhid (ho)
  clear ho
  obtain ⟨r1, hr1⟩ : ∃ u, u = (gr G m1).f2 := ⟨_, rfl⟩
  obtain ⟨r2, hr2⟩ : ∃ u, u = (gr G m2).f2 := ⟨_, rfl⟩
  have HR1 := lhid hr1
  have HR2 := lhid hr2
  go_upto_region 6 with (fail)
  have hsame := HSM.out
  refine qp 12 (.pointer (some ⟨w.heap.size, 0, none⟩)) [{ target := Target.fn (Fn.func 74) #[Value.pointer (some { block := w.heap.size, off := 0 })], args := #[] }] (fun c w' => Leaves Try.prog Try.f38 #[undef, undef, undef, undef, undef, undef, undef, undef, undef, undef, undef, undef, .pointer (some ⟨w.heap.size, 0, none⟩)] (fun e w' => e = .returned (.int .i64 13) ∧ Below w.heap.size w w') [{ target := Target.fn (Fn.func 74) #[Value.pointer (some { block := w.heap.size, off := 0 })], args := #[] }] (.panicking c) w') ?_ ?_
  · rintro c a9 w9 ⟨h1, h2, h3⟩
    show Leaves Try.prog Try.f38 a9.tmps _ a9.defers (.panicking c) w9
    rw [h2]
    exact leaves_res (res38 (by rw [h1]; rfl)) _ _ _ h3
  have hqs : (ab == sb) = false := beq_eq_false_iff_ne.mpr hsame
  have hqr : (r1 == r2) = true := beq_iff_eq.mpr (by rw [hr1, hr2, hroot])
  clear hr1 hr2
  have hb := below_drew1 (Below.refl w4.heap.size w4)
  have HBK_15 := lhid (HBK_11.out.next hb)
  have HB_16 := lhid (below_then HB_12.out HB_12.out.size hb)
  have BX_17 := lhid (blk_below BX_13.out hb)
  have HO_18 := lhid (HO_14.out.next hb)
  clear HBK_11 HB_12 BX_13 HO_14 hb
  refine start_ (n := 19) (S := fun w' => w'.cell? ⟨b, (m1 - 1) * 9 + 2, none⟩ = some (.int .i64 r1) ∧ w'.cell? ⟨b, (m2 - 1) * 9 + 2, none⟩ = some (.int .i64 r2)) (ds := []) #[false, false, false, false, false, false, false, false, false, false, false, false, false, false, false, false, false, false, false] (by kernel_rfl) rfl rfl ⟨(by rw [HR1.out]; exact (HO_18.out.cells m1 H11.out.1 H11.out.2).2.2.1), (by rw [HR2.out]; exact (HO_18.out.cells m2 H22.out.1 H22.out.2).2.2.1)⟩ (fun hHeld => ?_)
  generalize w4.drew = w5 at HBK_15 HB_16 BX_17 HO_18 hHeld ⊢
  refine pure_ (i := 0) (N := some 40) (v := ?_) (a' := ?_) #[true, false, false, false, false, false, false, false, false, false, false, false, false, false, false, false, false, false, false] rfl rfl (by kernel_rfl) (fun _ _ _ h => qp_put (n := 40) (t := 12) (by decide) h) (Or.inl ⟨by rfl, ?_⟩) ?_ ?_
  rotate_left
  · intro w'
    go_simp
    with_reducible rfl
  rotate_left
  · simp only [Act.put, List.setIfInBounds_toArray, List.set_cons_zero, List.set_cons_succ, i64_w, i32_w]
    rfl
  refine pure_ (i := 1) (N := some 41) (v := ?_) (a' := ?_) #[true, true, false, false, false, false, false, false, false, false, false, false, false, false, false, false, false, false, false] rfl rfl (by kernel_rfl) (fun _ _ _ h => qp_put (n := 41) (t := 12) (by decide) h) (Or.inl ⟨by rfl, ?_⟩) ?_ ?_
  rotate_left
  · intro w'
    go_simp
    with_reducible rfl
  rotate_left
  · simp only [Act.put, List.setIfInBounds_toArray, List.set_cons_zero, List.set_cons_succ, i64_w, i32_w]
    rfl
  refine pure_ (i := 2) (N := some 42) (v := ?_) (a' := ?_) #[true, true, true, false, false, false, false, false, false, false, false, false, false, false, false, false, false, false, false] rfl rfl (by kernel_rfl) (fun _ _ _ h => qp_put (n := 42) (t := 12) (by decide) h) (Or.inl ⟨by rfl, ?_⟩) ?_ ?_
  rotate_left
  · intro w'
    go_simp
    with_reducible rfl
  rotate_left
  · simp only [Act.put, List.setIfInBounds_toArray, List.set_cons_zero, List.set_cons_succ, i64_w, i32_w]
    rfl
  refine pure_ (i := 3) (N := some 43) (v := ?_) (a' := ?_) #[true, true, true, true, false, false, false, false, false, false, false, false, false, false, false, false, false, false, false] rfl rfl (by kernel_rfl) (fun _ _ _ h => qp_put (n := 43) (t := 12) (by decide) h) (Or.inl ⟨by rfl, ?_⟩) ?_ ?_
  rotate_left
  · intro w'
    go_simp
    with_reducible rfl
  rotate_left
  · simp only [Act.put, List.setIfInBounds_toArray, List.set_cons_zero, List.set_cons_succ, i64_w, i32_w]
    rfl
  refine pure_ (i := 4) (N := some 44) (v := ?_) (a' := ?_) #[true, true, true, true, true, false, false, false, false, false, false, false, false, false, false, false, false, false, false] rfl rfl (by kernel_rfl) (fun _ _ _ h => qp_put (n := 44) (t := 12) (by decide) h) (Or.inl ⟨by rfl, ?_⟩) ?_ ?_
  rotate_left
  · intro w'
    go_simp
    with_reducible rfl
  rotate_left
  · simp only [Act.put, List.setIfInBounds_toArray, List.set_cons_zero, List.set_cons_succ, i64_w, i32_w]
    rfl
  refine pure_ (i := 5) (N := some 45) (v := ?_) (a' := ?_) #[true, true, true, true, true, true, false, false, false, false, false, false, false, false, false, false, false, false, false] rfl rfl (by kernel_rfl) (fun _ _ _ h => qp_put (n := 45) (t := 12) (by decide) h) (Or.inl ⟨by rfl, ?_⟩) ?_ ?_
  rotate_left
  · intro w'
    go_simp
    with_reducible rfl
  rotate_left
  · simp only [Act.put, List.setIfInBounds_toArray, List.set_cons_zero, List.set_cons_succ, i64_w, i32_w]
    rfl
  refine pure_ (i := 10) (N := some 50) (v := ?_) (a' := ?_) #[true, true, true, true, true, true, false, false, false, false, true, false, false, false, false, false, false, false, false] rfl rfl (by kernel_rfl) (fun _ _ _ h => qp_put (n := 50) (t := 12) (by decide) h) (Or.inl ⟨by rfl, ?_⟩) ?_ ?_
  rotate_left
  · intro w'
    go_simp
    with_reducible rfl
  rotate_left
  · simp only [Act.put, List.setIfInBounds_toArray, List.set_cons_zero, List.set_cons_succ, i64_w, i32_w]
    rfl
  refine pure_ (i := 11) (N := some 51) (v := ?_) (a' := ?_) #[true, true, true, true, true, true, false, false, false, false, true, true, false, false, false, false, false, false, false] rfl rfl (by kernel_rfl) (fun _ _ _ h => qp_put (n := 51) (t := 12) (by decide) h) (Or.inl ⟨by rfl, ?_⟩) ?_ ?_
  rotate_left
  · intro w'
    go_simp
    with_reducible rfl
  rotate_left
  · simp only [Act.put, List.setIfInBounds_toArray, List.set_cons_zero, List.set_cons_succ, i64_w, i32_w]
    rfl
  refine one_ (i := 6) (N := some 46) #[true, true, true, true, true, true, true, false, false, false, true, true, false, false, false, false, false, false, false] rfl rfl (by kernel_rfl) (by decide) (fun K hK => ?_)
  refine goes_ Try.func46 (by kernel_rfl) rfl #[.pointer (some ⟨g, 0, none⟩), .int .i64 m1] (by rfl) rfl rfl (by (try simp only [List.map_toArray, List.map_cons, List.map_nil]); first | done | rfl) ?_
  with_reducible refine (get_some base g F w5 day G E cG AE cE b m1 HO_18.out (by have := H11.out; omega) (by have := H11.out; omega) (tree_le' HT.out)).mono ?_
  rintro e w9 ⟨rfl, rfl⟩
  refine ⟨_, rfl, ?_⟩
  rw [Int.toNat_natCast]
  unfold pt
  refine hK.out _ _ ⟨(by rw [HR1.out]; exact (HO_18.out.cells m1 H11.out.1 H11.out.2).2.2.1), (by rw [HR2.out]; exact (HO_18.out.cells m2 H22.out.1 H22.out.2).2.2.1)⟩ (fun hHeld => ?_)
  clear hK K
  refine norm_ (a' := ?_) ?_ ?_
  rotate_left
  · show Act.put _ (some 46) _ = _
    simp only [Act.put, List.setIfInBounds_toArray, List.set_cons_zero, List.set_cons_succ, i64_w, i32_w]
    rfl
  refine pure_ (i := 7) (N := some 47) (v := ?_) (a' := ?_) #[true, true, true, true, true, true, true, true, false, false, true, true, false, false, false, false, false, false, false] rfl rfl (by kernel_rfl) (fun _ _ _ h => qp_put (n := 47) (t := 12) (by decide) h) (Or.inl ⟨by rfl, ?_⟩) ?_ ?_
  rotate_left
  · intro w'
    go_simp
    with_reducible rfl
  rotate_left
  · simp only [Act.put, List.setIfInBounds_toArray, List.set_cons_zero, List.set_cons_succ, i64_w, i32_w]
    rfl
  refine pure_ (i := 8) (N := some 48) (v := ?_) (a' := ?_) #[true, true, true, true, true, true, true, true, true, false, true, true, false, false, false, false, false, false, false] rfl rfl (by kernel_rfl) (fun _ _ _ h => qp_put (n := 48) (t := 12) (by decide) h) (Or.inl ⟨by rfl, ?_⟩) ?_ ?_
  rotate_left
  · intro w'
    go_simp
    with_reducible rfl
  rotate_left
  · simp only [Act.put, List.setIfInBounds_toArray, List.set_cons_zero, List.set_cons_succ, i64_w, i32_w]
    rfl
  refine take_ (i := 9) (N := some 49) (v := ?_) (a' := ?_) #[true, true, true, true, true, true, true, true, true, true, true, true, false, false, false, false, false, false, false] rfl rfl (by kernel_rfl) (fun _ _ _ h => qp_put (n := 49) (t := 12) (by decide) h) (Or.inl ⟨by rfl, ?_⟩) hHeld ?_ ?_
  rotate_left
  · rintro w' ⟨s0, s1⟩
    go_simp
    with_reducible rfl
  rotate_left
  · simp only [Act.put, List.setIfInBounds_toArray, List.set_cons_zero, List.set_cons_succ, i64_w, i32_w]
    rfl
  refine one_ (i := 12) (N := some 52) #[true, true, true, true, true, true, true, true, true, true, true, true, true, false, false, false, false, false, false] rfl rfl (by kernel_rfl) (by decide) (fun K hK => ?_)
  refine goes_ Try.func46 (by kernel_rfl) rfl #[.pointer (some ⟨g, 0, none⟩), .int .i64 m2] (by rfl) rfl rfl (by (try simp only [List.map_toArray, List.map_cons, List.map_nil]); first | done | rfl) ?_
  with_reducible refine (get_some base g F w5 day G E cG AE cE b m2 HO_18.out (by have := H22.out; omega) (by have := H22.out; omega) (tree_le' HT.out)).mono ?_
  rintro e w9 ⟨rfl, rfl⟩
  refine ⟨_, rfl, ?_⟩
  rw [Int.toNat_natCast]
  unfold pt
  refine hK.out _ _ ⟨(by rw [HR1.out]; exact (HO_18.out.cells m1 H11.out.1 H11.out.2).2.2.1), (by rw [HR2.out]; exact (HO_18.out.cells m2 H22.out.1 H22.out.2).2.2.1)⟩ (fun hHeld => ?_)
  clear hK K
  refine norm_ (a' := ?_) ?_ ?_
  rotate_left
  · show Act.put _ (some 52) _ = _
    simp only [Act.put, List.setIfInBounds_toArray, List.set_cons_zero, List.set_cons_succ, i64_w, i32_w]
    rfl
  refine pure_ (i := 13) (N := some 53) (v := ?_) (a' := ?_) #[true, true, true, true, true, true, true, true, true, true, true, true, true, true, false, false, false, false, false] rfl rfl (by kernel_rfl) (fun _ _ _ h => qp_put (n := 53) (t := 12) (by decide) h) (Or.inl ⟨by rfl, ?_⟩) ?_ ?_
  rotate_left
  · intro w'
    go_simp
    with_reducible rfl
  rotate_left
  · simp only [Act.put, List.setIfInBounds_toArray, List.set_cons_zero, List.set_cons_succ, i64_w, i32_w]
    rfl
  refine pure_ (i := 14) (N := some 54) (v := ?_) (a' := ?_) #[true, true, true, true, true, true, true, true, true, true, true, true, true, true, true, false, false, false, false] rfl rfl (by kernel_rfl) (fun _ _ _ h => qp_put (n := 54) (t := 12) (by decide) h) (Or.inl ⟨by rfl, ?_⟩) ?_ ?_
  rotate_left
  · intro w'
    go_simp
    with_reducible rfl
  rotate_left
  · simp only [Act.put, List.setIfInBounds_toArray, List.set_cons_zero, List.set_cons_succ, i64_w, i32_w]
    rfl
  refine take_ (i := 15) (N := some 55) (v := ?_) (a' := ?_) #[true, true, true, true, true, true, true, true, true, true, true, true, true, true, true, true, false, false, false] rfl rfl (by kernel_rfl) (fun _ _ _ h => qp_put (n := 55) (t := 12) (by decide) h) (Or.inl ⟨by rfl, ?_⟩) hHeld ?_ ?_
  rotate_left
  · rintro w' ⟨s0, s1⟩
    go_simp
    with_reducible rfl
  rotate_left
  · simp only [Act.put, List.setIfInBounds_toArray, List.set_cons_zero, List.set_cons_succ, i64_w, i32_w]
    rfl
  refine pure_ (i := 16) (N := some 56) (v := ?_) (a' := ?_) #[true, true, true, true, true, true, true, true, true, true, true, true, true, true, true, true, true, false, false] rfl rfl (by kernel_rfl) (fun _ _ _ h => qp_put (n := 56) (t := 12) (by decide) h) (Or.inl ⟨by rfl, ?_⟩) ?_ ?_
  rotate_left
  · intro w'
    go_simp
    with_reducible rfl
  rotate_left
  · simp only [Act.put, List.setIfInBounds_toArray, List.set_cons_zero, List.set_cons_succ, i64_w, i32_w]
    rfl
  refine pure_ (i := 17) (N := some 57) (v := ?_) (a' := ?_) #[true, true, true, true, true, true, true, true, true, true, true, true, true, true, true, true, true, true, false] rfl rfl (by kernel_rfl) (fun _ _ _ h => qp_put (n := 57) (t := 12) (by decide) h) (Or.inl ⟨by rfl, ?_⟩) ?_ ?_
  rotate_left
  · intro w'
    go_simp
    with_reducible rfl
  rotate_left
  · simp only [Act.put, List.setIfInBounds_toArray, List.set_cons_zero, List.set_cons_succ, i64_w, i32_w]
    rfl
  refine one_ (i := 18) (N := some 58) #[true, true, true, true, true, true, true, true, true, true, true, true, true, true, true, true, true, true, true] rfl rfl (by kernel_rfl) (by decide) (fun K hK => ?_)
  refine goes_p Try.func42 (by kernel_rfl) rfl #[.bool true, .int .i64 13] (by rfl) rfl rfl (by (try simp only [List.map_toArray, List.map_cons, List.map_nil]); first | done | rfl) ?_
  with_reducible refine (refuse_yes _ 13).mono ?_
  rintro e w9 ⟨rfl, rfl⟩
  refine ⟨_, rfl, ?_⟩
  refine ⟨rfl, rfl, ?_⟩
  refine leaves_cons (f := 74) (args := #[.pointer (some ⟨w.heap.size, 0, none⟩)]) (by simp) (by simp [go_sem]) ?_
  refine (catch74_panicking ⟨w.heap.size, 0, none⟩ 0 13 [] _ (blk_cell BX_17.out 0) (blk_frozen BX_17.out 0)).mono ?_
  rintro e u' w'' ⟨rfl, rfl, w1, hb, rfl⟩
  have hbw := (below_then HB_16.out HB_16.out.size hb).setCell (p := ⟨w.heap.size, 0, none⟩) (Nat.le_refl _) (.int .i64 13)
  have hcw := blk_cell (blk_put (blk_below BX_17.out hb) 0 (.int .i64 13) rfl) 0
  simp [Leaves, settle, results, Try.results38, go_sem, hcw]
  exact hbw
theorem open_full (base g : Nat) (F : Nat → Prop) (w : World) (day : Int) (G : List S39) (E : List S44) (v a ab s sb : Int) (h : BK base F w g day G E) (hT : Tree G) (hv0 : 0 ≤ v) (hv1 : v ≤ 15) (hk1 : keyC day G v a ab = 0) (hk2 : keyC day G v s sb = 0) (hsame : ab ≠ sb) (hroot : (gr G a.toNat).f2 ≠ (gr G s.toNat).f2) (hfull : 4096 ≤ E.length) : Calls Try.prog 38 #[.pointer (some ⟨g, 0, none⟩), .int .i64 v, .int .i64 a, .int .i64 ab, .int .i64 s, .int .i64 sb] w fun e w' => e = .returned (.int .i64 8) ∧ Below w.heap.size w w' := by
  have hu70 := Try.underlying70
  have hu39 := Try.underlying39
  have HBK := lhid h
  have HT := lhid hT
  have HF := lhid (show ∀ k, F k → k < w.heap.size from fun k q => (h.fb k q).2)
  clear h hT
  have HSM := lhid hsame
  clear hsame
  have hmf : ∀ (fn : Fn) (first cap : Array Value) (w : World), (Instr.makeFunc fn first cap).run Try.prog w = .ok (.func fn first cap) w := fun _ _ _ _ => rfl
  go_enter_defers Try.func38, Try.ntmps38
  go_upto_region 2 with (fail)
  have HB_1 := lhid (Below.refl w.heap.size w)
  have hb := below_alloc (Below.refl w.heap.size w) (.cells #[.int .i64 0] 24)
  have hn := blk_new w (.cells #[.int .i64 0] 24)
  have HZ1 := lhid (show (World.alloc w (.cells #[.int .i64 0] 24)).heap.size = w.heap.size + 1 from by simp)
  generalize hq : World.alloc w (.cells #[.int .i64 0] 24) = w1 at hb hn HZ1 ⊢
  clear hq
  have HBK_2 := lhid (HBK.out.next hb)
  have HB_3 := lhid (below_then HB_1.out HB_1.out.size hb)
  clear HBK HB_1 hb
  have BX_4 := lhid (hn)
  clear hn
  clear hmf
  obtain ⟨AG, cG, AE, cE, ho⟩ := HBK_2.out.opn
  have hc := ho.c0
  clear ho
  go_wp2_with fail
  with_reducible refine (refuse_no _ 1).mono ?_
  rintro e w' ⟨rfl, rfl⟩
  clear hc
  go_wp2_with fail
  with_reducible refine (custody_vault.calls v true w1 (vault_yes hv0 hv1)).mono ?_
  rintro e w2 ⟨rfl, nd, hq⟩
  have hb := pw_below_drewN (Below.refl w1.heap.size w1) nd
  rw [← hq] at hb
  clear hq
  have HBK_5 := lhid (HBK_2.out.next hb)
  have HB_6 := lhid (below_then HB_3.out HB_3.out.size hb)
  have BX_7 := lhid (blk_below BX_4.out hb)
  clear HBK_2 HB_3 BX_4 hb
  go_wp2_with fail
  with_reducible refine (refuse_no _ 2).mono ?_
  rintro e w' ⟨rfl, rfl⟩
  go_wp2_with fail
  with_reducible refine (key_yes base g F w2 day G E v a ab HBK_5.out HT.out hv0 hv1 hk1).mono ?_
  rintro e w3 ⟨rfl, hb⟩
  have HBK_8 := lhid (HBK_5.out.next hb)
  have HB_9 := lhid (below_then HB_6.out HB_6.out.size hb)
  have BX_10 := lhid (blk_below BX_7.out hb)
  clear HBK_5 HB_6 BX_7 hb
  go_wp2_with fail
  with_reducible refine (key_yes base g F w3 day G E v s sb HBK_8.out HT.out hv0 hv1 hk2).mono ?_
  rintro e w4 ⟨rfl, hb⟩
  have HBK_11 := lhid (HBK_8.out.next hb)
  have HB_12 := lhid (below_then HB_9.out HB_9.out.size hb)
  have BX_13 := lhid (blk_below BX_10.out hb)
  clear HBK_8 HB_9 BX_10 hb
  have hi1 := keyC_in hk1
  have hi2 := keyC_in hk2
  obtain ⟨m1, rfl⟩ : ∃ m : Nat, a = m := ⟨a.toNat, by omega⟩
  obtain ⟨m2, rfl⟩ : ∃ m : Nat, s = m := ⟨s.toNat, by omega⟩
  have H11 := lhid (show 1 ≤ m1 ∧ m1 ≤ G.length by omega)
  have H22 := lhid (show 1 ≤ m2 ∧ m2 ≤ G.length by omega)
  clear hi1 hi2 hk1 hk2
  simp only [Int.toNat_natCast] at *
  obtain ⟨AG, cG, AE, cE, ho⟩ := HBK_11.out.opn
  obtain ⟨b, hA, hFb⟩ := ho.ad (by have := H11.out; omega)
  subst hA
  have HO_14 := lhid (ho)
  clear ho
  obtain ⟨r1, hr1⟩ : ∃ u, u = (gr G m1).f2 := ⟨_, rfl⟩
  obtain ⟨r2, hr2⟩ : ∃ u, u = (gr G m2).f2 := ⟨_, rfl⟩
  have HR1 := lhid hr1
  have HR2 := lhid hr2
  go_upto_region 6 with (fail)
  have hsame := HSM.out
  refine qp 12 (.pointer (some ⟨w.heap.size, 0, none⟩)) [{ target := Target.fn (Fn.func 74) #[Value.pointer (some { block := w.heap.size, off := 0 })], args := #[] }] (fun c w' => Leaves Try.prog Try.f38 #[undef, undef, undef, undef, undef, undef, undef, undef, undef, undef, undef, undef, .pointer (some ⟨w.heap.size, 0, none⟩)] (fun e w' => e = .returned (.int .i64 8) ∧ Below w.heap.size w w') [{ target := Target.fn (Fn.func 74) #[Value.pointer (some { block := w.heap.size, off := 0 })], args := #[] }] (.panicking c) w') ?_ ?_
  · rintro c a9 w9 ⟨h1, h2, h3⟩
    show Leaves Try.prog Try.f38 a9.tmps _ a9.defers (.panicking c) w9
    rw [h2]
    exact leaves_res (res38 (by rw [h1]; rfl)) _ _ _ h3
  have hqs : (ab == sb) = false := beq_eq_false_iff_ne.mpr hsame
  have hqr : (r1 == r2) = false := beq_eq_false_iff_ne.mpr (by rw [hr1, hr2]; exact hroot)
  clear hr1 hr2
  have hb := below_drew1 (Below.refl w4.heap.size w4)
  have HBK_15 := lhid (HBK_11.out.next hb)
  have HB_16 := lhid (below_then HB_12.out HB_12.out.size hb)
  have BX_17 := lhid (blk_below BX_13.out hb)
  have HO_18 := lhid (HO_14.out.next hb)
  clear HBK_11 HB_12 BX_13 HO_14 hb
  refine start_ (n := 19) (S := fun w' => w'.cell? ⟨b, (m1 - 1) * 9 + 2, none⟩ = some (.int .i64 r1) ∧ w'.cell? ⟨b, (m2 - 1) * 9 + 2, none⟩ = some (.int .i64 r2)) (ds := []) #[false, false, false, false, false, false, false, false, false, false, false, false, false, false, false, false, false, false, false] (by kernel_rfl) rfl rfl ⟨(by rw [HR1.out]; exact (HO_18.out.cells m1 H11.out.1 H11.out.2).2.2.1), (by rw [HR2.out]; exact (HO_18.out.cells m2 H22.out.1 H22.out.2).2.2.1)⟩ (fun hHeld => ?_)
  generalize w4.drew = w5 at HBK_15 HB_16 BX_17 HO_18 hHeld ⊢
  refine pure_ (i := 0) (N := some 40) (v := ?_) (a' := ?_) #[true, false, false, false, false, false, false, false, false, false, false, false, false, false, false, false, false, false, false] rfl rfl (by kernel_rfl) (fun _ _ _ h => qp_put (n := 40) (t := 12) (by decide) h) (Or.inl ⟨by rfl, ?_⟩) ?_ ?_
  rotate_left
  · intro w'
    go_simp
    with_reducible rfl
  rotate_left
  · simp only [Act.put, List.setIfInBounds_toArray, List.set_cons_zero, List.set_cons_succ, i64_w, i32_w]
    rfl
  refine pure_ (i := 1) (N := some 41) (v := ?_) (a' := ?_) #[true, true, false, false, false, false, false, false, false, false, false, false, false, false, false, false, false, false, false] rfl rfl (by kernel_rfl) (fun _ _ _ h => qp_put (n := 41) (t := 12) (by decide) h) (Or.inl ⟨by rfl, ?_⟩) ?_ ?_
  rotate_left
  · intro w'
    go_simp
    with_reducible rfl
  rotate_left
  · simp only [Act.put, List.setIfInBounds_toArray, List.set_cons_zero, List.set_cons_succ, i64_w, i32_w]
    rfl
  refine pure_ (i := 2) (N := some 42) (v := ?_) (a' := ?_) #[true, true, true, false, false, false, false, false, false, false, false, false, false, false, false, false, false, false, false] rfl rfl (by kernel_rfl) (fun _ _ _ h => qp_put (n := 42) (t := 12) (by decide) h) (Or.inl ⟨by rfl, ?_⟩) ?_ ?_
  rotate_left
  · intro w'
    go_simp
    with_reducible rfl
  rotate_left
  · simp only [Act.put, List.setIfInBounds_toArray, List.set_cons_zero, List.set_cons_succ, i64_w, i32_w]
    rfl
  refine pure_ (i := 3) (N := some 43) (v := ?_) (a' := ?_) #[true, true, true, true, false, false, false, false, false, false, false, false, false, false, false, false, false, false, false] rfl rfl (by kernel_rfl) (fun _ _ _ h => qp_put (n := 43) (t := 12) (by decide) h) (Or.inl ⟨by rfl, ?_⟩) ?_ ?_
  rotate_left
  · intro w'
    go_simp
    with_reducible rfl
  rotate_left
  · simp only [Act.put, List.setIfInBounds_toArray, List.set_cons_zero, List.set_cons_succ, i64_w, i32_w]
    rfl
  refine pure_ (i := 4) (N := some 44) (v := ?_) (a' := ?_) #[true, true, true, true, true, false, false, false, false, false, false, false, false, false, false, false, false, false, false] rfl rfl (by kernel_rfl) (fun _ _ _ h => qp_put (n := 44) (t := 12) (by decide) h) (Or.inl ⟨by rfl, ?_⟩) ?_ ?_
  rotate_left
  · intro w'
    go_simp
    with_reducible rfl
  rotate_left
  · simp only [Act.put, List.setIfInBounds_toArray, List.set_cons_zero, List.set_cons_succ, i64_w, i32_w]
    rfl
  refine pure_ (i := 5) (N := some 45) (v := ?_) (a' := ?_) #[true, true, true, true, true, true, false, false, false, false, false, false, false, false, false, false, false, false, false] rfl rfl (by kernel_rfl) (fun _ _ _ h => qp_put (n := 45) (t := 12) (by decide) h) (Or.inl ⟨by rfl, ?_⟩) ?_ ?_
  rotate_left
  · intro w'
    go_simp
    with_reducible rfl
  rotate_left
  · simp only [Act.put, List.setIfInBounds_toArray, List.set_cons_zero, List.set_cons_succ, i64_w, i32_w]
    rfl
  refine pure_ (i := 10) (N := some 50) (v := ?_) (a' := ?_) #[true, true, true, true, true, true, false, false, false, false, true, false, false, false, false, false, false, false, false] rfl rfl (by kernel_rfl) (fun _ _ _ h => qp_put (n := 50) (t := 12) (by decide) h) (Or.inl ⟨by rfl, ?_⟩) ?_ ?_
  rotate_left
  · intro w'
    go_simp
    with_reducible rfl
  rotate_left
  · simp only [Act.put, List.setIfInBounds_toArray, List.set_cons_zero, List.set_cons_succ, i64_w, i32_w]
    rfl
  refine pure_ (i := 11) (N := some 51) (v := ?_) (a' := ?_) #[true, true, true, true, true, true, false, false, false, false, true, true, false, false, false, false, false, false, false] rfl rfl (by kernel_rfl) (fun _ _ _ h => qp_put (n := 51) (t := 12) (by decide) h) (Or.inl ⟨by rfl, ?_⟩) ?_ ?_
  rotate_left
  · intro w'
    go_simp
    with_reducible rfl
  rotate_left
  · simp only [Act.put, List.setIfInBounds_toArray, List.set_cons_zero, List.set_cons_succ, i64_w, i32_w]
    rfl
  refine one_ (i := 6) (N := some 46) #[true, true, true, true, true, true, true, false, false, false, true, true, false, false, false, false, false, false, false] rfl rfl (by kernel_rfl) (by decide) (fun K hK => ?_)
  refine goes_ Try.func46 (by kernel_rfl) rfl #[.pointer (some ⟨g, 0, none⟩), .int .i64 m1] (by rfl) rfl rfl (by (try simp only [List.map_toArray, List.map_cons, List.map_nil]); first | done | rfl) ?_
  with_reducible refine (get_some base g F w5 day G E cG AE cE b m1 HO_18.out (by have := H11.out; omega) (by have := H11.out; omega) (tree_le' HT.out)).mono ?_
  rintro e w9 ⟨rfl, rfl⟩
  refine ⟨_, rfl, ?_⟩
  rw [Int.toNat_natCast]
  unfold pt
  refine hK.out _ _ ⟨(by rw [HR1.out]; exact (HO_18.out.cells m1 H11.out.1 H11.out.2).2.2.1), (by rw [HR2.out]; exact (HO_18.out.cells m2 H22.out.1 H22.out.2).2.2.1)⟩ (fun hHeld => ?_)
  clear hK K
  refine norm_ (a' := ?_) ?_ ?_
  rotate_left
  · show Act.put _ (some 46) _ = _
    simp only [Act.put, List.setIfInBounds_toArray, List.set_cons_zero, List.set_cons_succ, i64_w, i32_w]
    rfl
  refine pure_ (i := 7) (N := some 47) (v := ?_) (a' := ?_) #[true, true, true, true, true, true, true, true, false, false, true, true, false, false, false, false, false, false, false] rfl rfl (by kernel_rfl) (fun _ _ _ h => qp_put (n := 47) (t := 12) (by decide) h) (Or.inl ⟨by rfl, ?_⟩) ?_ ?_
  rotate_left
  · intro w'
    go_simp
    with_reducible rfl
  rotate_left
  · simp only [Act.put, List.setIfInBounds_toArray, List.set_cons_zero, List.set_cons_succ, i64_w, i32_w]
    rfl
  refine pure_ (i := 8) (N := some 48) (v := ?_) (a' := ?_) #[true, true, true, true, true, true, true, true, true, false, true, true, false, false, false, false, false, false, false] rfl rfl (by kernel_rfl) (fun _ _ _ h => qp_put (n := 48) (t := 12) (by decide) h) (Or.inl ⟨by rfl, ?_⟩) ?_ ?_
  rotate_left
  · intro w'
    go_simp
    with_reducible rfl
  rotate_left
  · simp only [Act.put, List.setIfInBounds_toArray, List.set_cons_zero, List.set_cons_succ, i64_w, i32_w]
    rfl
  refine take_ (i := 9) (N := some 49) (v := ?_) (a' := ?_) #[true, true, true, true, true, true, true, true, true, true, true, true, false, false, false, false, false, false, false] rfl rfl (by kernel_rfl) (fun _ _ _ h => qp_put (n := 49) (t := 12) (by decide) h) (Or.inl ⟨by rfl, ?_⟩) hHeld ?_ ?_
  rotate_left
  · rintro w' ⟨s0, s1⟩
    go_simp
    with_reducible rfl
  rotate_left
  · simp only [Act.put, List.setIfInBounds_toArray, List.set_cons_zero, List.set_cons_succ, i64_w, i32_w]
    rfl
  refine one_ (i := 12) (N := some 52) #[true, true, true, true, true, true, true, true, true, true, true, true, true, false, false, false, false, false, false] rfl rfl (by kernel_rfl) (by decide) (fun K hK => ?_)
  refine goes_ Try.func46 (by kernel_rfl) rfl #[.pointer (some ⟨g, 0, none⟩), .int .i64 m2] (by rfl) rfl rfl (by (try simp only [List.map_toArray, List.map_cons, List.map_nil]); first | done | rfl) ?_
  with_reducible refine (get_some base g F w5 day G E cG AE cE b m2 HO_18.out (by have := H22.out; omega) (by have := H22.out; omega) (tree_le' HT.out)).mono ?_
  rintro e w9 ⟨rfl, rfl⟩
  refine ⟨_, rfl, ?_⟩
  rw [Int.toNat_natCast]
  unfold pt
  refine hK.out _ _ ⟨(by rw [HR1.out]; exact (HO_18.out.cells m1 H11.out.1 H11.out.2).2.2.1), (by rw [HR2.out]; exact (HO_18.out.cells m2 H22.out.1 H22.out.2).2.2.1)⟩ (fun hHeld => ?_)
  clear hK K
  refine norm_ (a' := ?_) ?_ ?_
  rotate_left
  · show Act.put _ (some 52) _ = _
    simp only [Act.put, List.setIfInBounds_toArray, List.set_cons_zero, List.set_cons_succ, i64_w, i32_w]
    rfl
  refine pure_ (i := 13) (N := some 53) (v := ?_) (a' := ?_) #[true, true, true, true, true, true, true, true, true, true, true, true, true, true, false, false, false, false, false] rfl rfl (by kernel_rfl) (fun _ _ _ h => qp_put (n := 53) (t := 12) (by decide) h) (Or.inl ⟨by rfl, ?_⟩) ?_ ?_
  rotate_left
  · intro w'
    go_simp
    with_reducible rfl
  rotate_left
  · simp only [Act.put, List.setIfInBounds_toArray, List.set_cons_zero, List.set_cons_succ, i64_w, i32_w]
    rfl
  refine pure_ (i := 14) (N := some 54) (v := ?_) (a' := ?_) #[true, true, true, true, true, true, true, true, true, true, true, true, true, true, true, false, false, false, false] rfl rfl (by kernel_rfl) (fun _ _ _ h => qp_put (n := 54) (t := 12) (by decide) h) (Or.inl ⟨by rfl, ?_⟩) ?_ ?_
  rotate_left
  · intro w'
    go_simp
    with_reducible rfl
  rotate_left
  · simp only [Act.put, List.setIfInBounds_toArray, List.set_cons_zero, List.set_cons_succ, i64_w, i32_w]
    rfl
  refine take_ (i := 15) (N := some 55) (v := ?_) (a' := ?_) #[true, true, true, true, true, true, true, true, true, true, true, true, true, true, true, true, false, false, false] rfl rfl (by kernel_rfl) (fun _ _ _ h => qp_put (n := 55) (t := 12) (by decide) h) (Or.inl ⟨by rfl, ?_⟩) hHeld ?_ ?_
  rotate_left
  · rintro w' ⟨s0, s1⟩
    go_simp
    with_reducible rfl
  rotate_left
  · simp only [Act.put, List.setIfInBounds_toArray, List.set_cons_zero, List.set_cons_succ, i64_w, i32_w]
    rfl
  refine pure_ (i := 16) (N := some 56) (v := ?_) (a' := ?_) #[true, true, true, true, true, true, true, true, true, true, true, true, true, true, true, true, true, false, false] rfl rfl (by kernel_rfl) (fun _ _ _ h => qp_put (n := 56) (t := 12) (by decide) h) (Or.inl ⟨by rfl, ?_⟩) ?_ ?_
  rotate_left
  · intro w'
    go_simp
    with_reducible rfl
  rotate_left
  · simp only [Act.put, List.setIfInBounds_toArray, List.set_cons_zero, List.set_cons_succ, i64_w, i32_w]
    rfl
  refine pure_ (i := 17) (N := some 57) (v := ?_) (a' := ?_) #[true, true, true, true, true, true, true, true, true, true, true, true, true, true, true, true, true, true, false] rfl rfl (by kernel_rfl) (fun _ _ _ h => qp_put (n := 57) (t := 12) (by decide) h) (Or.inl ⟨by rfl, ?_⟩) ?_ ?_
  rotate_left
  · intro w'
    go_simp
    with_reducible rfl
  rotate_left
  · simp only [Act.put, List.setIfInBounds_toArray, List.set_cons_zero, List.set_cons_succ, i64_w, i32_w]
    rfl
  refine one_ (i := 18) (N := some 58) #[true, true, true, true, true, true, true, true, true, true, true, true, true, true, true, true, true, true, true] rfl rfl (by kernel_rfl) (by decide) (fun K hK => ?_)
  refine goes_ Try.func42 (by kernel_rfl) rfl #[.bool false, .int .i64 13] (by rfl) rfl rfl (by (try simp only [List.map_toArray, List.map_cons, List.map_nil]); first | done | rfl) ?_
  with_reducible refine (refuse_no _ 13).mono ?_
  rintro e w9 ⟨rfl, rfl⟩
  refine ⟨_, rfl, ?_⟩
  refine hK.out _ _ ⟨(by rw [HR1.out]; exact (HO_18.out.cells m1 H11.out.1 H11.out.2).2.2.1), (by rw [HR2.out]; exact (HO_18.out.cells m2 H22.out.1 H22.out.2).2.2.1)⟩ (fun hHeld => ?_)
  clear hK K
  refine norm_ (a' := ?_) ?_ ?_
  rotate_left
  · show Act.put _ (some 58) _ = _
    simp only [Act.put, List.setIfInBounds_toArray, List.set_cons_zero, List.set_cons_succ, i64_w, i32_w]
    rfl
  refine done_ (by kernel_rfl) ?_
  
  refine qp_normal ?_
  have hd : decide ((E.length : Int) ≥ 4096) = true := decide_eq_true (by omega)
  have hc3 := HO_18.out.c3
  go_wp2_with fail
  with_reducible refine (refuse_yes _ 8).mono ?_
  rintro e w' ⟨rfl, rfl⟩
  refine leaves_cons (f := 74) (args := #[.pointer (some ⟨w.heap.size, 0, none⟩)]) (by simp) (by simp [go_sem]) ?_
  refine (catch74_panicking ⟨w.heap.size, 0, none⟩ 0 8 [] _ (blk_cell BX_17.out 0) (blk_frozen BX_17.out 0)).mono ?_
  rintro e u' w'' ⟨rfl, rfl, w1, hb, rfl⟩
  have hbw := (below_then HB_16.out HB_16.out.size hb).setCell (p := ⟨w.heap.size, 0, none⟩) (Nat.le_refl _) (.int .i64 8)
  have hcw := blk_cell (blk_put (blk_below BX_17.out hb) 0 (.int .i64 8) rfl) 0
  simp [Leaves, settle, results, Try.results38, go_sem, hcw]
  exact hbw
end Go.Proofs.Ytfnlghjkjmppdaa.PC
namespace Go.Proofs.Ytfnlghjkjmppdaa.PC
open Go.RowKit Go.Proofs.YtfnlghjkjmppdaaW.PrintWords Go.Proofs.YtfnlghjkjmppdaaW.PrintLast Go.Proofs.YtfnlghjkjmppdaaW.PrintMore
set_option linter.unusedVariables false
set_option linter.unusedSimpArgs false
theorem Got.boxC {base : Nat} {F : Nat → Prop} {w0 w w' : World} {g : Nat} {day : Int} {G : List S39} {E : List S44} (h : Got base F w w' g day G E) (hc : Chg F w0 w) {p : Addr} (h1 : w0.heap.size ≤ p.block) (h2 : p.block < w.heap.size) (hF : ∀ k, F k → k < w0.heap.size) (u v : Value) : Got base F w0 ((w'.setCell p u).setCell p v).drew g day G E := by
  obtain ⟨F2, m1, m2, m3⟩ := h
  have k3 := hc.trans m3 (fun _ _ q => q)
  have hn : ¬ F2 p.block := fun q => by rcases m2 _ q with r | r; have := hF _ r; omega; omega
  exact ⟨F2, ((m1.set hn u).set hn v).next (below_drew1 (Below.refl _ _)), fun k q => (m2 k q).imp_right (fun r => Nat.le_trans hc.size r), ((k3.set (Or.inl h1) u).set (Or.inl h1) v).next (below_drew1 (Below.refl _ _))⟩
theorem BO.far {base g : Nat} {F F2 : Nat → Prop} {w W : World} {day : Int} {G : List S39} {E : List S44} {AG AE : Option Addr} {cG cE : Nat} (h : BO base F w g day AG cG G AE cE E) (hc : Chg F2 w W) (hd : ∀ k, F k → ¬ F2 k) : BO base F W g day AG cG G AE cE E :=
  ⟨hc.blk h.hb (hd g h.fg), Kd.R_step h.rG (fun k q hk => hc.block k hk (hd k q)), Kd.R_step h.rE (fun k q hk => hc.block k hk (hd k q)), h.fg, fun k q => ⟨(h.fb k q).1, Nat.lt_of_lt_of_le (h.fb k q).2 hc.size⟩⟩
theorem BO.appE {base g : Nat} {F : Nat → Prop} {w W W1 : World} {day : Int} {G : List S39} {E E1 : List S44} {AG AE A1 : Option Addr} {cG cE c1 : Nat} (hw : ∀ k, F k → k < w.heap.size) (h : BO base F W g day AG cG G AE cE E) (hz : w.heap.size ≤ W.heap.size) (hwb : base ≤ w.heap.size)
    (h1 : Kd.R k44 44 W1 base (fun k => F k ∨ w.heap.size ≤ k) (.slice A1 E1.length c1) E1) (hg : W.grownBy W1 (Value.slice AE E.length cE).ownBlock) (hE : (Value.slice AE E.length cE).ownBlock = none ∨ (Value.slice AE E.length cE).ownBlock ≠ (Value.slice AG G.length cG).ownBlock) :
    BK base (fun k => F k ∨ (w.heap.size ≤ k ∧ k < W1.heap.size)) (W1.setCell ⟨g, 3, none⟩ (.slice A1 E1.length c1)) g day G E1 := by
  have hgn : some g ≠ (Value.slice AE E.length cE).ownBlock := Kd.R_ne h.rE h.hb (by decide)
  have hb1 := blk_grown h.hb hg hgn
  have hgw := hw g h.fg
  have hlt : ∀ k, (fun k => F k ∨ (w.heap.size ≤ k ∧ k < W1.heap.size)) k → base ≤ k ∧ k < (W1.setCell ⟨g, 3, none⟩ (.slice A1 E1.length c1)).heap.size := by
    intro k q
    have hs : (W1.setCell ⟨g, 3, none⟩ (.slice A1 E1.length c1)).heap.size = W1.heap.size := by simp
    rw [hs]
    rcases q with q | q
    · have := h.fb k q; have := hg.size; omega
    · omega
  refine ⟨⟨.slice AG G.length cG, .slice A1 E1.length c1, ?_, ?_, ?_⟩, Or.inl h.fg, hlt⟩
  · have := blk_put hb1 3 (.slice A1 E1.length c1) rfl
    simpa using this
  · have hEg : Kd.R k39 39 W1 base F (.slice AG G.length cG) G := by
      rcases hE with hE | hE
      · exact Kd.R_grown h.rG hg (fun k _ => by rw [hE]; simp)
      · exact Kd.R_mono (Kd.R_grown (Kd.R_tight rfl h.rG) hg (fun k q => by rw [q]; exact fun e => hE e.symm)) (fun k q => h.rG.1 k q.symm)
    exact Kd.R_mono (Kd.R_far (Kd.R_types hEg hb1 (by decide)) (p := ⟨g, 3, none⟩) (fun k q => q.2) _) (fun k q => Or.inl q.1)
  · have h2 := Kd.R_bound h1
    have h3 := Kd.R_types h1 hb1 (by decide)
    refine Kd.R_mono (Kd.R_far (Kd.R_bound h3) (p := ⟨g, 3, none⟩) (fun k q => q.1.2) _) (fun k q => ?_)
    rcases q.1.1 with r | r
    · exact Or.inl r
    · exact Or.inr ⟨r, q.2.2.1⟩
set_option maxHeartbeats 12800000 in
set_option maxRecDepth 100000 in
theorem open_ok (base g : Nat) (F : Nat → Prop) (w : World) (day : Int) (G : List S39) (E : List S44) (v a ab s sb : Int) (h : BK base F w g day G E) (hT : Tree G) (hv0 : 0 ≤ v) (hv1 : v ≤ 15) (hk1 : keyC day G v a ab = 0) (hk2 : keyC day G v s sb = 0) (hsame : ab ≠ sb) (hroot : (gr G a.toNat).f2 ≠ (gr G s.toNat).f2) (hfull : E.length < 4096) (hu : Us G) :
    Calls Try.prog 38 #[.pointer (some ⟨g, 0, none⟩), .int .i64 v, .int .i64 a, .int .i64 ab, .int .i64 s, .int .i64 sb] w fun e w' => e = .returned (.int .i64 0) ∧ Got base F w w' g day ((up G a.toNat ++ up G s.toNat).foldl use1 G) (E ++ [⟨day, v, a, s⟩]) := by
  have hu70 := Try.underlying70
  have hu39 := Try.underlying39
  have HBK := lhid h
  have HT := lhid hT
  have HF := lhid (show ∀ k, F k → k < w.heap.size from fun k q => (h.fb k q).2)
  clear h hT
  have HSM := lhid hsame
  clear hsame
  have hmf : ∀ (fn : Fn) (first cap : Array Value) (w : World), (Instr.makeFunc fn first cap).run Try.prog w = .ok (.func fn first cap) w := fun _ _ _ _ => rfl
  go_enter_defers Try.func38, Try.ntmps38
  go_upto_region 2 with (fail)
  have HB_1 := lhid (Below.refl w.heap.size w)
  have hb := below_alloc (Below.refl w.heap.size w) (.cells #[.int .i64 0] 24)
  have hn := blk_new w (.cells #[.int .i64 0] 24)
  have HZ1 := lhid (show (World.alloc w (.cells #[.int .i64 0] 24)).heap.size = w.heap.size + 1 from by simp)
  generalize hq : World.alloc w (.cells #[.int .i64 0] 24) = w1 at hb hn HZ1 ⊢
  clear hq
  have HBK_2 := lhid (HBK.out.next hb)
  have HB_3 := lhid (below_then HB_1.out HB_1.out.size hb)
  clear HBK HB_1 hb
  have BX_4 := lhid (hn)
  clear hn
  clear hmf
  obtain ⟨AG, cG, AE, cE, ho⟩ := HBK_2.out.opn
  have hc := ho.c0
  clear ho
  go_wp2_with fail
  with_reducible refine (refuse_no _ 1).mono ?_
  rintro e w' ⟨rfl, rfl⟩
  clear hc
  go_wp2_with fail
  with_reducible refine (custody_vault.calls v true w1 (vault_yes hv0 hv1)).mono ?_
  rintro e w2 ⟨rfl, nd, hq⟩
  have hb := pw_below_drewN (Below.refl w1.heap.size w1) nd
  rw [← hq] at hb
  clear hq
  have HBK_5 := lhid (HBK_2.out.next hb)
  have HB_6 := lhid (below_then HB_3.out HB_3.out.size hb)
  have BX_7 := lhid (blk_below BX_4.out hb)
  clear HBK_2 HB_3 BX_4 hb
  go_wp2_with fail
  with_reducible refine (refuse_no _ 2).mono ?_
  rintro e w' ⟨rfl, rfl⟩
  go_wp2_with fail
  with_reducible refine (key_yes base g F w2 day G E v a ab HBK_5.out HT.out hv0 hv1 hk1).mono ?_
  rintro e w3 ⟨rfl, hb⟩
  have HBK_8 := lhid (HBK_5.out.next hb)
  have HB_9 := lhid (below_then HB_6.out HB_6.out.size hb)
  have BX_10 := lhid (blk_below BX_7.out hb)
  clear HBK_5 HB_6 BX_7 hb
  go_wp2_with fail
  with_reducible refine (key_yes base g F w3 day G E v s sb HBK_8.out HT.out hv0 hv1 hk2).mono ?_
  rintro e w4 ⟨rfl, hb⟩
  have HBK_11 := lhid (HBK_8.out.next hb)
  have HB_12 := lhid (below_then HB_9.out HB_9.out.size hb)
  have BX_13 := lhid (blk_below BX_10.out hb)
  clear HBK_8 HB_9 BX_10 hb
  have hi1 := keyC_in hk1
  have hi2 := keyC_in hk2
  obtain ⟨m1, rfl⟩ : ∃ m : Nat, a = m := ⟨a.toNat, by omega⟩
  obtain ⟨m2, rfl⟩ : ∃ m : Nat, s = m := ⟨s.toNat, by omega⟩
  have H11 := lhid (show 1 ≤ m1 ∧ m1 ≤ G.length by omega)
  have H22 := lhid (show 1 ≤ m2 ∧ m2 ≤ G.length by omega)
  clear hi1 hi2 hk1 hk2
  simp only [Int.toNat_natCast] at *
  obtain ⟨AG, cG, AE, cE, ho⟩ := HBK_11.out.opn
  obtain ⟨b, hA, hFb⟩ := ho.ad (by have := H11.out; omega)
  subst hA
  have HO_14 := lhid (ho)
  clear ho
  obtain ⟨r1, hr1⟩ : ∃ u, u = (gr G m1).f2 := ⟨_, rfl⟩
  obtain ⟨r2, hr2⟩ : ∃ u, u = (gr G m2).f2 := ⟨_, rfl⟩
  have HR1 := lhid hr1
  have HR2 := lhid hr2
  go_upto_region 6 with (fail)
  have hsame := HSM.out
  refine qp 12 (.pointer (some ⟨w.heap.size, 0, none⟩)) [{ target := Target.fn (Fn.func 74) #[Value.pointer (some { block := w.heap.size, off := 0 })], args := #[] }] (fun c w' => Leaves Try.prog Try.f38 #[undef, undef, undef, undef, undef, undef, undef, undef, undef, undef, undef, undef, .pointer (some ⟨w.heap.size, 0, none⟩)] (fun e w' => e = .returned (.int .i64 0) ∧ Got base F w w' g day ((up G m1 ++ up G m2).foldl use1 G) (E ++ [⟨day, v, m1, m2⟩])) [{ target := Target.fn (Fn.func 74) #[Value.pointer (some { block := w.heap.size, off := 0 })], args := #[] }] (.panicking c) w') ?_ ?_
  · rintro c a9 w9 ⟨h1, h2, h3⟩
    show Leaves Try.prog Try.f38 a9.tmps _ a9.defers (.panicking c) w9
    rw [h2]
    exact leaves_res (res38 (by rw [h1]; rfl)) _ _ _ h3
  have hqs : (ab == sb) = false := beq_eq_false_iff_ne.mpr hsame
  have hqr : (r1 == r2) = false := beq_eq_false_iff_ne.mpr (by rw [hr1, hr2]; exact hroot)
  clear hr1 hr2
  have hb := below_drew1 (Below.refl w4.heap.size w4)
  have HBK_15 := lhid (HBK_11.out.next hb)
  have HB_16 := lhid (below_then HB_12.out HB_12.out.size hb)
  have BX_17 := lhid (blk_below BX_13.out hb)
  have HO_18 := lhid (HO_14.out.next hb)
  clear HBK_11 HB_12 BX_13 HO_14 hb
  refine start_ (n := 19) (S := fun w' => w'.cell? ⟨b, (m1 - 1) * 9 + 2, none⟩ = some (.int .i64 r1) ∧ w'.cell? ⟨b, (m2 - 1) * 9 + 2, none⟩ = some (.int .i64 r2)) (ds := []) #[false, false, false, false, false, false, false, false, false, false, false, false, false, false, false, false, false, false, false] (by kernel_rfl) rfl rfl ⟨(by rw [HR1.out]; exact (HO_18.out.cells m1 H11.out.1 H11.out.2).2.2.1), (by rw [HR2.out]; exact (HO_18.out.cells m2 H22.out.1 H22.out.2).2.2.1)⟩ (fun hHeld => ?_)
  generalize w4.drew = w5 at HBK_15 HB_16 BX_17 HO_18 hHeld ⊢
  refine pure_ (i := 0) (N := some 40) (v := ?_) (a' := ?_) #[true, false, false, false, false, false, false, false, false, false, false, false, false, false, false, false, false, false, false] rfl rfl (by kernel_rfl) (fun _ _ _ h => qp_put (n := 40) (t := 12) (by decide) h) (Or.inl ⟨by rfl, ?_⟩) ?_ ?_
  rotate_left
  · intro w'
    go_simp
    with_reducible rfl
  rotate_left
  · simp only [Act.put, List.setIfInBounds_toArray, List.set_cons_zero, List.set_cons_succ, i64_w, i32_w]
    rfl
  refine pure_ (i := 1) (N := some 41) (v := ?_) (a' := ?_) #[true, true, false, false, false, false, false, false, false, false, false, false, false, false, false, false, false, false, false] rfl rfl (by kernel_rfl) (fun _ _ _ h => qp_put (n := 41) (t := 12) (by decide) h) (Or.inl ⟨by rfl, ?_⟩) ?_ ?_
  rotate_left
  · intro w'
    go_simp
    with_reducible rfl
  rotate_left
  · simp only [Act.put, List.setIfInBounds_toArray, List.set_cons_zero, List.set_cons_succ, i64_w, i32_w]
    rfl
  refine pure_ (i := 2) (N := some 42) (v := ?_) (a' := ?_) #[true, true, true, false, false, false, false, false, false, false, false, false, false, false, false, false, false, false, false] rfl rfl (by kernel_rfl) (fun _ _ _ h => qp_put (n := 42) (t := 12) (by decide) h) (Or.inl ⟨by rfl, ?_⟩) ?_ ?_
  rotate_left
  · intro w'
    go_simp
    with_reducible rfl
  rotate_left
  · simp only [Act.put, List.setIfInBounds_toArray, List.set_cons_zero, List.set_cons_succ, i64_w, i32_w]
    rfl
  refine pure_ (i := 3) (N := some 43) (v := ?_) (a' := ?_) #[true, true, true, true, false, false, false, false, false, false, false, false, false, false, false, false, false, false, false] rfl rfl (by kernel_rfl) (fun _ _ _ h => qp_put (n := 43) (t := 12) (by decide) h) (Or.inl ⟨by rfl, ?_⟩) ?_ ?_
  rotate_left
  · intro w'
    go_simp
    with_reducible rfl
  rotate_left
  · simp only [Act.put, List.setIfInBounds_toArray, List.set_cons_zero, List.set_cons_succ, i64_w, i32_w]
    rfl
  refine pure_ (i := 4) (N := some 44) (v := ?_) (a' := ?_) #[true, true, true, true, true, false, false, false, false, false, false, false, false, false, false, false, false, false, false] rfl rfl (by kernel_rfl) (fun _ _ _ h => qp_put (n := 44) (t := 12) (by decide) h) (Or.inl ⟨by rfl, ?_⟩) ?_ ?_
  rotate_left
  · intro w'
    go_simp
    with_reducible rfl
  rotate_left
  · simp only [Act.put, List.setIfInBounds_toArray, List.set_cons_zero, List.set_cons_succ, i64_w, i32_w]
    rfl
  refine pure_ (i := 5) (N := some 45) (v := ?_) (a' := ?_) #[true, true, true, true, true, true, false, false, false, false, false, false, false, false, false, false, false, false, false] rfl rfl (by kernel_rfl) (fun _ _ _ h => qp_put (n := 45) (t := 12) (by decide) h) (Or.inl ⟨by rfl, ?_⟩) ?_ ?_
  rotate_left
  · intro w'
    go_simp
    with_reducible rfl
  rotate_left
  · simp only [Act.put, List.setIfInBounds_toArray, List.set_cons_zero, List.set_cons_succ, i64_w, i32_w]
    rfl
  refine pure_ (i := 10) (N := some 50) (v := ?_) (a' := ?_) #[true, true, true, true, true, true, false, false, false, false, true, false, false, false, false, false, false, false, false] rfl rfl (by kernel_rfl) (fun _ _ _ h => qp_put (n := 50) (t := 12) (by decide) h) (Or.inl ⟨by rfl, ?_⟩) ?_ ?_
  rotate_left
  · intro w'
    go_simp
    with_reducible rfl
  rotate_left
  · simp only [Act.put, List.setIfInBounds_toArray, List.set_cons_zero, List.set_cons_succ, i64_w, i32_w]
    rfl
  refine pure_ (i := 11) (N := some 51) (v := ?_) (a' := ?_) #[true, true, true, true, true, true, false, false, false, false, true, true, false, false, false, false, false, false, false] rfl rfl (by kernel_rfl) (fun _ _ _ h => qp_put (n := 51) (t := 12) (by decide) h) (Or.inl ⟨by rfl, ?_⟩) ?_ ?_
  rotate_left
  · intro w'
    go_simp
    with_reducible rfl
  rotate_left
  · simp only [Act.put, List.setIfInBounds_toArray, List.set_cons_zero, List.set_cons_succ, i64_w, i32_w]
    rfl
  refine one_ (i := 6) (N := some 46) #[true, true, true, true, true, true, true, false, false, false, true, true, false, false, false, false, false, false, false] rfl rfl (by kernel_rfl) (by decide) (fun K hK => ?_)
  refine goes_ Try.func46 (by kernel_rfl) rfl #[.pointer (some ⟨g, 0, none⟩), .int .i64 m1] (by rfl) rfl rfl (by (try simp only [List.map_toArray, List.map_cons, List.map_nil]); first | done | rfl) ?_
  with_reducible refine (get_some base g F w5 day G E cG AE cE b m1 HO_18.out (by have := H11.out; omega) (by have := H11.out; omega) (tree_le' HT.out)).mono ?_
  rintro e w9 ⟨rfl, rfl⟩
  refine ⟨_, rfl, ?_⟩
  rw [Int.toNat_natCast]
  unfold pt
  refine hK.out _ _ ⟨(by rw [HR1.out]; exact (HO_18.out.cells m1 H11.out.1 H11.out.2).2.2.1), (by rw [HR2.out]; exact (HO_18.out.cells m2 H22.out.1 H22.out.2).2.2.1)⟩ (fun hHeld => ?_)
  clear hK K
  refine norm_ (a' := ?_) ?_ ?_
  rotate_left
  · show Act.put _ (some 46) _ = _
    simp only [Act.put, List.setIfInBounds_toArray, List.set_cons_zero, List.set_cons_succ, i64_w, i32_w]
    rfl
  refine pure_ (i := 7) (N := some 47) (v := ?_) (a' := ?_) #[true, true, true, true, true, true, true, true, false, false, true, true, false, false, false, false, false, false, false] rfl rfl (by kernel_rfl) (fun _ _ _ h => qp_put (n := 47) (t := 12) (by decide) h) (Or.inl ⟨by rfl, ?_⟩) ?_ ?_
  rotate_left
  · intro w'
    go_simp
    with_reducible rfl
  rotate_left
  · simp only [Act.put, List.setIfInBounds_toArray, List.set_cons_zero, List.set_cons_succ, i64_w, i32_w]
    rfl
  refine pure_ (i := 8) (N := some 48) (v := ?_) (a' := ?_) #[true, true, true, true, true, true, true, true, true, false, true, true, false, false, false, false, false, false, false] rfl rfl (by kernel_rfl) (fun _ _ _ h => qp_put (n := 48) (t := 12) (by decide) h) (Or.inl ⟨by rfl, ?_⟩) ?_ ?_
  rotate_left
  · intro w'
    go_simp
    with_reducible rfl
  rotate_left
  · simp only [Act.put, List.setIfInBounds_toArray, List.set_cons_zero, List.set_cons_succ, i64_w, i32_w]
    rfl
  refine take_ (i := 9) (N := some 49) (v := ?_) (a' := ?_) #[true, true, true, true, true, true, true, true, true, true, true, true, false, false, false, false, false, false, false] rfl rfl (by kernel_rfl) (fun _ _ _ h => qp_put (n := 49) (t := 12) (by decide) h) (Or.inl ⟨by rfl, ?_⟩) hHeld ?_ ?_
  rotate_left
  · rintro w' ⟨s0, s1⟩
    go_simp
    with_reducible rfl
  rotate_left
  · simp only [Act.put, List.setIfInBounds_toArray, List.set_cons_zero, List.set_cons_succ, i64_w, i32_w]
    rfl
  refine one_ (i := 12) (N := some 52) #[true, true, true, true, true, true, true, true, true, true, true, true, true, false, false, false, false, false, false] rfl rfl (by kernel_rfl) (by decide) (fun K hK => ?_)
  refine goes_ Try.func46 (by kernel_rfl) rfl #[.pointer (some ⟨g, 0, none⟩), .int .i64 m2] (by rfl) rfl rfl (by (try simp only [List.map_toArray, List.map_cons, List.map_nil]); first | done | rfl) ?_
  with_reducible refine (get_some base g F w5 day G E cG AE cE b m2 HO_18.out (by have := H22.out; omega) (by have := H22.out; omega) (tree_le' HT.out)).mono ?_
  rintro e w9 ⟨rfl, rfl⟩
  refine ⟨_, rfl, ?_⟩
  rw [Int.toNat_natCast]
  unfold pt
  refine hK.out _ _ ⟨(by rw [HR1.out]; exact (HO_18.out.cells m1 H11.out.1 H11.out.2).2.2.1), (by rw [HR2.out]; exact (HO_18.out.cells m2 H22.out.1 H22.out.2).2.2.1)⟩ (fun hHeld => ?_)
  clear hK K
  refine norm_ (a' := ?_) ?_ ?_
  rotate_left
  · show Act.put _ (some 52) _ = _
    simp only [Act.put, List.setIfInBounds_toArray, List.set_cons_zero, List.set_cons_succ, i64_w, i32_w]
    rfl
  refine pure_ (i := 13) (N := some 53) (v := ?_) (a' := ?_) #[true, true, true, true, true, true, true, true, true, true, true, true, true, true, false, false, false, false, false] rfl rfl (by kernel_rfl) (fun _ _ _ h => qp_put (n := 53) (t := 12) (by decide) h) (Or.inl ⟨by rfl, ?_⟩) ?_ ?_
  rotate_left
  · intro w'
    go_simp
    with_reducible rfl
  rotate_left
  · simp only [Act.put, List.setIfInBounds_toArray, List.set_cons_zero, List.set_cons_succ, i64_w, i32_w]
    rfl
  refine pure_ (i := 14) (N := some 54) (v := ?_) (a' := ?_) #[true, true, true, true, true, true, true, true, true, true, true, true, true, true, true, false, false, false, false] rfl rfl (by kernel_rfl) (fun _ _ _ h => qp_put (n := 54) (t := 12) (by decide) h) (Or.inl ⟨by rfl, ?_⟩) ?_ ?_
  rotate_left
  · intro w'
    go_simp
    with_reducible rfl
  rotate_left
  · simp only [Act.put, List.setIfInBounds_toArray, List.set_cons_zero, List.set_cons_succ, i64_w, i32_w]
    rfl
  refine take_ (i := 15) (N := some 55) (v := ?_) (a' := ?_) #[true, true, true, true, true, true, true, true, true, true, true, true, true, true, true, true, false, false, false] rfl rfl (by kernel_rfl) (fun _ _ _ h => qp_put (n := 55) (t := 12) (by decide) h) (Or.inl ⟨by rfl, ?_⟩) hHeld ?_ ?_
  rotate_left
  · rintro w' ⟨s0, s1⟩
    go_simp
    with_reducible rfl
  rotate_left
  · simp only [Act.put, List.setIfInBounds_toArray, List.set_cons_zero, List.set_cons_succ, i64_w, i32_w]
    rfl
  refine pure_ (i := 16) (N := some 56) (v := ?_) (a' := ?_) #[true, true, true, true, true, true, true, true, true, true, true, true, true, true, true, true, true, false, false] rfl rfl (by kernel_rfl) (fun _ _ _ h => qp_put (n := 56) (t := 12) (by decide) h) (Or.inl ⟨by rfl, ?_⟩) ?_ ?_
  rotate_left
  · intro w'
    go_simp
    with_reducible rfl
  rotate_left
  · simp only [Act.put, List.setIfInBounds_toArray, List.set_cons_zero, List.set_cons_succ, i64_w, i32_w]
    rfl
  refine pure_ (i := 17) (N := some 57) (v := ?_) (a' := ?_) #[true, true, true, true, true, true, true, true, true, true, true, true, true, true, true, true, true, true, false] rfl rfl (by kernel_rfl) (fun _ _ _ h => qp_put (n := 57) (t := 12) (by decide) h) (Or.inl ⟨by rfl, ?_⟩) ?_ ?_
  rotate_left
  · intro w'
    go_simp
    with_reducible rfl
  rotate_left
  · simp only [Act.put, List.setIfInBounds_toArray, List.set_cons_zero, List.set_cons_succ, i64_w, i32_w]
    rfl
  refine one_ (i := 18) (N := some 58) #[true, true, true, true, true, true, true, true, true, true, true, true, true, true, true, true, true, true, true] rfl rfl (by kernel_rfl) (by decide) (fun K hK => ?_)
  refine goes_ Try.func42 (by kernel_rfl) rfl #[.bool false, .int .i64 13] (by rfl) rfl rfl (by (try simp only [List.map_toArray, List.map_cons, List.map_nil]); first | done | rfl) ?_
  with_reducible refine (refuse_no _ 13).mono ?_
  rintro e w9 ⟨rfl, rfl⟩
  refine ⟨_, rfl, ?_⟩
  refine hK.out _ _ ⟨(by rw [HR1.out]; exact (HO_18.out.cells m1 H11.out.1 H11.out.2).2.2.1), (by rw [HR2.out]; exact (HO_18.out.cells m2 H22.out.1 H22.out.2).2.2.1)⟩ (fun hHeld => ?_)
  clear hK K
  refine norm_ (a' := ?_) ?_ ?_
  rotate_left
  · show Act.put _ (some 58) _ = _
    simp only [Act.put, List.setIfInBounds_toArray, List.set_cons_zero, List.set_cons_succ, i64_w, i32_w]
    rfl
  refine done_ (by kernel_rfl) ?_
  
  refine qp_normal ?_
  have hd : decide ((E.length : Int) ≥ 4096) = false := decide_eq_false (by omega)
  have hc3 := HO_18.out.c3
  go_wp2_with fail
  with_reducible refine (refuse_no _ 8).mono ?_
  rintro e w' ⟨rfl, rfl⟩
  clear hc3 hd
  have HFL := lhid hfull
  clear hfull hroot
  go_wp2_with fail
  with_reducible refine (up_calls base g F _ day G E (some ⟨b, 0, none⟩) cG AE cE b m1 HO_18.out HT.out H11.out.2 (fun _ => rfl)).mono ?_
  rintro e w6 ⟨vu1, rfl, hU1, hb⟩
  have HU1_19 := lhid (Kd.R_lower hU1 HB_16.out.size)
  clear hU1
  have HBK_20 := lhid (HBK_15.out.next hb)
  have HB_21 := lhid (below_then HB_16.out HB_16.out.size hb)
  have BX_22 := lhid (blk_below BX_17.out hb)
  have HO_23 := lhid (HO_18.out.next hb)
  clear HBK_15 HB_16 BX_17 HO_18 hb
  go_wp2_with fail
  with_reducible refine (up_calls base g F _ day G E (some ⟨b, 0, none⟩) cG AE cE b m2 HO_23.out HT.out H22.out.2 (fun _ => rfl)).mono ?_
  rintro e w7 ⟨vu2, rfl, hU2, hb⟩
  have HU2_24 := lhid (Kd.R_lower hU2 HB_21.out.size)
  clear hU2
  have HBK_25 := lhid (HBK_20.out.next hb)
  have HB_26 := lhid (below_then HB_21.out HB_21.out.size hb)
  have BX_27 := lhid (blk_below BX_22.out hb)
  have HO_28 := lhid (HO_23.out.next hb)
  have HU1_29 := lhid (Kd.R_below HU1_19.out hb)
  clear HBK_20 HB_21 BX_22 HO_23 HU1_19 hb
  obtain ⟨A1, c1, rfl⟩ := Kd.R_slice HU1_29.out
  obtain ⟨A2, c2, rfl⟩ := Kd.R_slice HU2_24.out
  have hB0 := below_then HB_26.out HB_26.out.size (Below.refl _ _)
  have hl1 := up_len HT.out m1 m1 (Nat.le_refl _) H11.out.2
  have hl2 := up_len HT.out m2 m2 (Nat.le_refl _) H22.out.2
  have hT1 : G.length ≤ 1000 := tree_le' HT.out
  have HL1 := lhid (show (up G m1).length ≤ 1000 by have := H11.out.2; omega)
  have HL2 := lhid (show (up G m2).length ≤ 1000 by have := H22.out.2; omega)
  clear hB0 hl1 hl2 hT1
  have HMS := lhid (show ∀ m ∈ up G m1 ++ up G m2, 1 ≤ m ∧ m ≤ G.length from fun m q => by
    rcases List.mem_append.1 q with r | r
    · have := up_mem HT.out m1 m1 (Nat.le_refl _) H11.out.2 m r; have := H11.out.2; omega
    · have := up_mem HT.out m2 m2 (Nat.le_refl _) H22.out.2 m r; have := H22.out.2; omega)
  obtain ⟨ms, hms⟩ : ∃ x, x = up G m1 ++ up G m2 := ⟨_, rfl⟩
  rw [← hms] at HMS
  have HMSE := lhid hms
  have HML := lhid (show ms.length ≤ 2000 by rw [hms, List.length_append]; have := HL1.out; have := HL2.out; omega)
  clear hms
  have HV1 := lhid (show Kd.R kptr 80 w7 w.heap.size (fun _ => True) (.slice A1 (up G m1).length c1) ((up G m1).map (pt b)) from by have q := HU1_29.out; rw [List.length_map] at q; exact q)
  have HV2 := lhid (show Kd.C kptr w7 A2 (up G m2).length ((up G m2).map (pt b)) from by have q := (Kd.R_reads' HU2_24.out).2.2; rw [List.length_map] at q; exact q)
  go_wp2_with (first | ((with_reducible refine gate_builtin (b := .append) (xs := #[.tmp 68, .tmp 71]) rfl ?_); at_builtin; refine Kd.R_append_row (fun a : Addr => Value.pointer (some a)) (⟨0, 0, none⟩ : Addr) (h1 := fun _ => rfl) (w0 := w) w.heap.size rfl (.tmp 68) (.tmp 71) 86 80 (.pointer none) 8 rfl Try.underlying86 info80 rfl (by decide) (.slice A1 (up G m1).length c1) ((up G m1).map (pt b)) ((up G m2).map (pt b)) A2 (up G m2).length c2 (fun _ => True) rfl rfl (fun _ _ => trivial) ?aO ?aC ?aB ?aS ?aL ?_; (case aO => exact HV1.out); (case aC => exact HV2.out); (case aB => exact HB_26.out); (case aS => exact HB_26.out.size); (case aL => have := HL1.out; have := HL2.out; simp only [List.length_map]; omega); intro v8 w8 ho8 hb8 hg8 hat8; obtain ⟨A8, c8, rfl⟩ := Kd.R_slice ho8; have HP8 := lhid ho8; have HB8 := lhid hb8; have HG8 := lhid hg8; clear ho8 hb8 hg8 hat8))
  have hml : (up G m1).length + (up G m2).length = ms.length := by rw [HMSE.out, List.length_append]
  have hmz : ((up G m1).length : Int) + ((up G m2).length : Int) = (ms.length : Int) := by omega
  try simp only [List.length_append, List.length_map, Int.natCast_add, hml, hmz]
  have HO8 := lhid (HO_28.out.far (F2 := fun k => w.heap.size ≤ k) ((Chg.refl _ w7).grown HG8.out (fun k hk => Or.inr ((Kd.R_bound HV1.out).1 k hk).2.1)) (fun k q r => by have := HF.out k q; omega))
  have HX8 := lhid (blk_grown BX_27.out HG8.out (Kd.R_ne HV1.out BX_27.out (by decide)))
  have HC8 := lhid (Chg.of_below (F := F) HB8.out)
  have HPP := lhid (show Kd.R kptr 80 w8 w.heap.size (fun k => w.heap.size ≤ k) (.slice A8 ms.length c8) (ms.map (pt b)) from by
    have q := Kd.R_mono (ok' := fun k => w.heap.size ≤ k) (Kd.R_bound HP8.out) (fun k q => q.2.1)
    rw [← List.map_append, ← HMSE.out] at q
    rw [List.length_map] at q
    exact q)
  have HUS := lhid hu
  clear hu HU1_29 HU2_24 HO_28 hml hmz HP8 HG8 HV1 HV2 HB8
  have hbF := HF.out b hFb
  go_loopw [14, 74] (fun p t wr => ∃ i : Nat, i ≤ ms.length ∧ t = .int .i64 i ∧ Hid (BO base F wr g day (some ⟨b, 0, none⟩) cG ((ms.take i).foldl use1 G) AE cE E) ∧ Hid (Chg F w wr) ∧ Hid (wr.heap[w.heap.size]? = some (.cells #[.int .i64 0] 24)) ∧ Hid (Kd.R kptr 80 wr w.heap.size (fun k => w.heap.size ≤ k) (.slice A8 ms.length c8) (ms.map (pt b)))) (fun _ t _ => ms.length - (intOf t).toNat)
  case atStart => exact ⟨0, Nat.zero_le _, rfl, lhid (by simpa using HO8.out), HC8, HX8, HPP⟩
  case round =>
    obtain ⟨i, hi, rfl, HOr, HCr, HXr, HPr⟩ := hrel
    clear HO8 HC8 HX8 HPP
    have hml2 := HML.out
    by_cases hlt : i < ms.length
    · have hlt2 : (i : Int) < (ms.length : Int) := by omega
      have hme : ms[i]? = some ms[i] := List.getElem?_eq_getElem hlt
      obtain ⟨m, hm⟩ : ∃ x, x = ms[i] := ⟨_, rfl⟩
      rw [← hm] at hme
      have HME := lhid hme
      have HMM := lhid (HMS.out m (by rw [hm]; exact List.getElem_mem hlt))
      clear hme hm
      obtain ⟨Gi, hGi⟩ : ∃ x, x = (ms.take i).foldl use1 G := ⟨_, rfl⟩
      have HGI := lhid hGi
      have HGL := lhid (show Gi.length = G.length by rw [hGi, uses_len])
      have HUI := lhid (show Us Gi by rw [hGi]; exact HUS.out.uses _ (fun q hq => HMS.out q (List.mem_of_mem_take hq)))
      rw [← hGi] at HOr
      clear hGi
      obtain ⟨ad, eA, hcp⟩ := ptr_at (Kd.R_reads' HPr.out).2.2 i (pt b m) (by rw [List.getElem?_map, HME.out]; rfl)
      cases eA
      have hc7 := (HOr.out.cells m HMM.out.1 (by rw [HGL.out]; exact HMM.out.2)).2.2.2.2.2.2.2.1
      unfold pt at hcp
      have hfz := HOr.out.frz
      obtain ⟨u, huu⟩ : ∃ x, x = (gr Gi m).f7 := ⟨_, rfl⟩
      rw [← huu] at hc7
      have HUU := lhid huu
      have hub := HUI.out m HMM.out.1 (by rw [HGL.out]; exact HMM.out.2)
      rw [← huu] at hub
      clear huu
      have hsn : (ms.take (i + 1)).foldl use1 G = use1 Gi m := by rw [HGI.out]; exact uses_snoc HME.out G
      have HSN := lhid hsn
      clear hsn
      by_cases hpos : 0 < u
      · have hgt : decide (u > 0) = true := decide_eq_true hpos
        go_wp2_with fail
        try any_goals (exfalso; omega)
        go_roundw
        case rel =>
          exact ⟨i + 1, by omega, by simp, lhid (by rw [HSN.out]; unfold use1; rw [← HUU.out, if_pos hpos]; exact HOr.out.put7 m HMM.out.1 (by rw [HGL.out]; exact HMM.out.2) _), lhid (HCr.out.set (Or.inr hFb) _), lhid (blk_far HXr.out (by intro e; have := hbF; simp at e; omega) _), lhid (Kd.R_far HPr.out (fun k q e => by have := hbF; simp at e; omega) _)⟩
        case measure => simp [intOf]; omega
      · have hgt : decide (u > 0) = false := decide_eq_false hpos
        go_wp2_with fail
        try any_goals (exfalso; omega)
        go_roundw
        case rel =>
          exact ⟨i + 1, by omega, by simp, lhid (by rw [HSN.out]; unfold use1; rw [← HUU.out, if_neg hpos]; exact HOr.out), HCr, HXr, HPr⟩
        case measure => simp [intOf]; omega
    · have hie : i = ms.length := by omega
      subst hie
      have hlt2 : ¬ (ms.length : Int) < (ms.length : Int) := by omega
      rw [List.take_length] at HOr
      go_upto_region 14 with (fail)
      try any_goals (exfalso; omega)
      obtain ⟨Gi, hGi⟩ : ∃ x, x = ms.foldl use1 G := ⟨_, rfl⟩
      rw [← hGi] at HOr
      have HGI := lhid hGi
      clear hGi
      have HBr := lhid (Below.refl wr.heap.size wr)
      refine qp 12 (.pointer (some ⟨w.heap.size, 0, none⟩)) [{ target := Target.fn (Fn.func 74) #[Value.pointer (some { block := w.heap.size, off := 0 })], args := #[] }] (fun c w' => Leaves Try.prog Try.f38 #[undef, undef, undef, undef, undef, undef, undef, undef, undef, undef, undef, undef, .pointer (some ⟨w.heap.size, 0, none⟩)] (fun e w' => e = .returned (.int .i64 0) ∧ Got base F w w' g day ((up G m1 ++ up G m2).foldl use1 G) (E ++ [⟨day, v, m1, m2⟩])) [{ target := Target.fn (Fn.func 74) #[Value.pointer (some { block := w.heap.size, off := 0 })], args := #[] }] (.panicking c) w') ?_ ?_
      · rintro c a9 w9 ⟨h1, h2, h3⟩
        show Leaves Try.prog Try.f38 a9.tmps _ a9.defers (.panicking c) w9
        rw [h2]
        exact leaves_res (res38 (by rw [h1]; rfl)) _ _ _ h3
      have HFr := lhid (show ∀ k, F k → k < wr.heap.size from fun k q => (HOr.out.fb k q).2)
      have HLT := lhid (blk_lt HXr.out)
      have hwb := HOr.out.size
      have HFL2 := HFL.out
      have hcE := HOr.out.cap.2
      have hb := below_drew1 (Below.refl wr.heap.size wr)
      have HO_30 := lhid (HOr.out.next hb)
      have BX_31 := lhid (blk_below HXr.out hb)
      have HB_32 := lhid (below_then HBr.out HBr.out.size hb)
      clear HOr HXr HBr hb
      refine start_ (n := 18) (S := fun w' => w'.cell? ⟨g, 3, none⟩ = some (.slice AE E.length cE) ∧ w'.cell? ⟨g, 1, none⟩ = some (.int .i64 day)) (ds := [14, 17]) #[false, false, false, false, false, false, false, false, false, false, false, false, false, false, false, false, false, false] (by kernel_rfl) rfl rfl ⟨HO_30.out.c3, HO_30.out.c1⟩ (fun hHeld => ?_)
      generalize wr.drew = w21 at HO_30 BX_31 HB_32 hHeld ⊢
      refine pure_ (i := 0) (N := some 91) (v := ?_) (a' := ?_) #[true, false, false, false, false, false, false, false, false, false, false, false, false, false, false, false, false, false] rfl rfl (by kernel_rfl) (fun _ _ _ h => qp_put (n := 91) (t := 12) (by decide) h) (Or.inl ⟨by rfl, ?_⟩) ?_ ?_
      rotate_left
      · intro w'
        go_simp
        with_reducible rfl
      rotate_left
      · simp only [Act.put, List.setIfInBounds_toArray, List.set_cons_zero, List.set_cons_succ, i64_w, i32_w]
        rfl
      refine pure_ (i := 1) (N := some 92) (v := ?_) (a' := ?_) #[true, true, false, false, false, false, false, false, false, false, false, false, false, false, false, false, false, false] rfl rfl (by kernel_rfl) (fun _ _ _ h => qp_put (n := 92) (t := 12) (by decide) h) (Or.inl ⟨by rfl, ?_⟩) ?_ ?_
      rotate_left
      · intro w'
        go_simp
        with_reducible rfl
      rotate_left
      · simp only [Act.put, List.setIfInBounds_toArray, List.set_cons_zero, List.set_cons_succ, i64_w, i32_w]
        rfl
      refine pure_ (i := 2) (N := some 93) (v := ?_) (a' := ?_) #[true, true, true, false, false, false, false, false, false, false, false, false, false, false, false, false, false, false] rfl rfl (by kernel_rfl) (fun _ _ _ h => qp_put (n := 93) (t := 12) (by decide) h) (Or.inl ⟨by rfl, ?_⟩) ?_ ?_
      rotate_left
      · intro w'
        go_simp
        with_reducible rfl
      rotate_left
      · simp only [Act.put, List.setIfInBounds_toArray, List.set_cons_zero, List.set_cons_succ, i64_w, i32_w]
        rfl
      refine pure_ (i := 3) (N := some 94) (v := ?_) (a' := ?_) #[true, true, true, true, false, false, false, false, false, false, false, false, false, false, false, false, false, false] rfl rfl (by kernel_rfl) (fun _ _ _ h => qp_put (n := 94) (t := 12) (by decide) h) (Or.inl ⟨by rfl, ?_⟩) ?_ ?_
      rotate_left
      · intro w'
        go_simp
        with_reducible rfl
      rotate_left
      · simp only [Act.put, List.setIfInBounds_toArray, List.set_cons_zero, List.set_cons_succ, i64_w, i32_w]
        rfl
      refine pure_ (i := 5) (N := some 96) (v := ?_) (a' := ?_) #[true, true, true, true, false, true, false, false, false, false, false, false, false, false, false, false, false, false] rfl rfl (by kernel_rfl) (fun _ _ _ h => qp_put (n := 96) (t := 12) (by decide) h) (Or.inl ⟨by rfl, ?_⟩) ?_ ?_
      rotate_left
      · intro w'
        go_simp
        with_reducible rfl
      rotate_left
      · simp only [Act.put, List.setIfInBounds_toArray, List.set_cons_zero, List.set_cons_succ, i64_w, i32_w]
        rfl
      refine pure_ (i := 6) (N := some 97) (v := ?_) (a' := ?_) #[true, true, true, true, false, true, true, false, false, false, false, false, false, false, false, false, false, false] rfl rfl (by kernel_rfl) (fun _ _ _ h => qp_put (n := 97) (t := 12) (by decide) h) (Or.inl ⟨by rfl, ?_⟩) ?_ ?_
      rotate_left
      · intro w'
        go_simp
        with_reducible rfl
      rotate_left
      · simp only [Act.put, List.setIfInBounds_toArray, List.set_cons_zero, List.set_cons_succ, i64_w, i32_w]
        rfl
      refine pure_ (i := 7) (N := some 98) (v := ?_) (a' := ?_) #[true, true, true, true, false, true, true, true, false, false, false, false, false, false, false, false, false, false] rfl rfl (by kernel_rfl) (fun _ _ _ h => qp_put (n := 98) (t := 12) (by decide) h) (Or.inl ⟨by rfl, ?_⟩) ?_ ?_
      rotate_left
      · intro w'
        go_simp
        with_reducible rfl
      rotate_left
      · simp only [Act.put, List.setIfInBounds_toArray, List.set_cons_zero, List.set_cons_succ, i64_w, i32_w]
        rfl
      refine pure_ (i := 9) (N := some 100) (v := ?_) (a' := ?_) #[true, true, true, true, false, true, true, true, false, true, false, false, false, false, false, false, false, false] rfl rfl (by kernel_rfl) (fun _ _ _ h => qp_put (n := 100) (t := 12) (by decide) h) (Or.inl ⟨by rfl, ?_⟩) ?_ ?_
      rotate_left
      · intro w'
        go_simp
        with_reducible rfl
      rotate_left
      · simp only [Act.put, List.setIfInBounds_toArray, List.set_cons_zero, List.set_cons_succ, i64_w, i32_w]
        rfl
      refine pure_ (i := 10) (N := some 101) (v := ?_) (a' := ?_) #[true, true, true, true, false, true, true, true, false, true, true, false, false, false, false, false, false, false] rfl rfl (by kernel_rfl) (fun _ _ _ h => qp_put (n := 101) (t := 12) (by decide) h) (Or.inl ⟨by rfl, ?_⟩) ?_ ?_
      rotate_left
      · intro w'
        go_simp
        with_reducible rfl
      rotate_left
      · simp only [Act.put, List.setIfInBounds_toArray, List.set_cons_zero, List.set_cons_succ, i64_w, i32_w]
        rfl
      refine pure_ (i := 11) (N := some 102) (v := ?_) (a' := ?_) #[true, true, true, true, false, true, true, true, false, true, true, true, false, false, false, false, false, false] rfl rfl (by kernel_rfl) (fun _ _ _ h => qp_put (n := 102) (t := 12) (by decide) h) (Or.inl ⟨by rfl, ?_⟩) ?_ ?_
      rotate_left
      · intro w'
        go_simp
        with_reducible rfl
      rotate_left
      · simp only [Act.put, List.setIfInBounds_toArray, List.set_cons_zero, List.set_cons_succ, i64_w, i32_w]
        rfl
      refine take_ (i := 4) (N := some 95) (v := ?_) (a' := ?_) #[true, true, true, true, true, true, true, true, false, true, true, true, false, false, false, false, false, false] rfl rfl (by kernel_rfl) (fun _ _ _ h => qp_put (n := 95) (t := 12) (by decide) h) (Or.inl ⟨by rfl, ?_⟩) hHeld ?_ ?_
      rotate_left
      · rintro w' ⟨s0, s1⟩
        go_simp
        with_reducible rfl
      rotate_left
      · simp only [Act.put, List.setIfInBounds_toArray, List.set_cons_zero, List.set_cons_succ, i64_w, i32_w]
        rfl
      refine take_ (i := 8) (N := some 99) (v := ?_) (a' := ?_) #[true, true, true, true, true, true, true, true, true, true, true, true, false, false, false, false, false, false] rfl rfl (by kernel_rfl) (fun _ _ _ h => qp_put (n := 99) (t := 12) (by decide) h) (Or.inl ⟨by rfl, ?_⟩) hHeld ?_ ?_
      rotate_left
      · rintro w' ⟨s0, s1⟩
        go_simp
        with_reducible rfl
      rotate_left
      · simp only [Act.put, List.setIfInBounds_toArray, List.set_cons_zero, List.set_cons_succ, i64_w, i32_w]
        rfl
      refine pure_ (i := 12) (N := some 103) (v := ?_) (a' := ?_) #[true, true, true, true, true, true, true, true, true, true, true, true, true, false, false, false, false, false] rfl rfl (by kernel_rfl) (fun _ _ _ h => qp_put (n := 103) (t := 12) (by decide) h) (Or.inl ⟨by rfl, ?_⟩) ?_ ?_
      rotate_left
      · intro w'
        go_simp
        with_reducible rfl
      rotate_left
      · simp only [Act.put, List.setIfInBounds_toArray, List.set_cons_zero, List.set_cons_succ, i64_w, i32_w]
        rfl
      refine one_ (i := 13) (N := some 104) #[true, true, true, true, true, true, true, true, true, true, true, true, true, true, false, false, false, false] rfl rfl (by kernel_rfl) (by decide) (fun K hK => ?_)
      refine value_ (w1 := ?_) (v := ?_) (by rfl) rfl ?_ ?_
      rotate_left 2
      · go_simp
        constructor
        · rfl
        · rfl
      refine hK.out _ _ ⟨(pw_cell_below (below_alloc (Below.refl _ _) _) HO_30.out.c3), (pw_cell_below (below_alloc (Below.refl _ _) _) HO_30.out.c1)⟩ (fun hHeld => ?_)
      clear hK K
      refine norm_ (a' := ?_) ?_ ?_
      rotate_left
      · show Act.put _ (some 104) _ = _
        simp only [Act.put, List.setIfInBounds_toArray, List.set_cons_zero, List.set_cons_succ, i64_w, i32_w]
        rfl
      refine last_ (i := 14) (N := some 105) #[true, true, true, true, true, true, true, true, true, true, true, true, true, true, true, false, false, false] rfl rfl (by kernel_rfl) (by decide) (fun K hK => ?_)
      refine Kd.R_append_step k44 (w0 := wr) base (by rfl) (.tmp 95) (.tmp 104) 40 44 (.agg #[(.int .i64 0), (.int .i64 0), (.int .i64 0), (.int .i64 0)]) 32 rfl Try.underlying40 info44 rfl (by decide) (by omega) (.slice AE E.length cE) E ⟨day, v, m1, m2⟩ [.int .i64 day, .int .i64 v, .int .i64 m1, .int .i64 m2] (fun q => F q ∨ wr.heap.size ≤ q) (fun _ => False) rfl rfl ?aP7 (fun _ hk => hk.elim) ?aF7 ?aO7 ?aB7 ?aS7 ?aL7 ?_
      (case aP7 => exact k44_mkM _ _ _ ⟨day, v, m1, m2⟩)
      (case aF7 => exact fun q hq => Or.inr (Nat.le_trans HB_32.out.size hq))
      (case aO7 => exact Kd.R_mono HO_30.out.rE (fun q hq => Or.inl hq))
      (case aB7 => exact HB_32.out.mono hwb)
      (case aS7 => exact Nat.le_trans hwb HB_32.out.size)
      (case aL7 => omega)
      intro v4 w4 ho4 hb4 hg4 hat4
      obtain ⟨A4, c4, rfl⟩ := Kd.R_slice ho4
      have HO4 := lhid ho4
      have HG4 := lhid hg4
      clear ho4 hb4 hg4 hat4
      refine hK.out _ _ ?_
      clear hK K
      refine norm_ (a' := ?_) ?_ ?_
      rotate_left
      · show Act.put _ (some 105) _ = _
        simp only [Act.put, List.setIfInBounds_toArray, List.set_cons_zero, List.set_cons_succ, i64_w, i32_w]
        rfl
      refine pure_ (i := 15) (N := some 106) (v := ?_) (a' := ?_) #[true, true, true, true, true, true, true, true, true, true, true, true, true, true, true, true, false, false] rfl rfl (by kernel_rfl) (fun _ _ _ h => qp_put (n := 106) (t := 12) (by decide) h) (Or.inl ⟨by rfl, ?_⟩) ?_ ?_
      rotate_left
      · intro w'
        go_simp
        with_reducible rfl
      rotate_left
      · simp only [Act.put, List.setIfInBounds_toArray, List.set_cons_zero, List.set_cons_succ, i64_w, i32_w]
        rfl
      refine pure_ (i := 16) (N := some 107) (v := ?_) (a' := ?_) #[true, true, true, true, true, true, true, true, true, true, true, true, true, true, true, true, true, false] rfl rfl (by kernel_rfl) (fun _ _ _ h => qp_put (n := 107) (t := 12) (by decide) h) (Or.inl ⟨by rfl, ?_⟩) ?_ ?_
      rotate_left
      · intro w'
        go_simp
        with_reducible rfl
      rotate_left
      · simp only [Act.put, List.setIfInBounds_toArray, List.set_cons_zero, List.set_cons_succ, i64_w, i32_w]
        rfl
      refine last_ (i := 17) (N := none) #[true, true, true, true, true, true, true, true, true, true, true, true, true, true, true, true, true, true] rfl rfl (by kernel_rfl) (by decide) (fun K hK => ?_)
      have hbk := blk_grown HO_30.out.hb HG4.out (Kd.R_ne HO_30.out.rE HO_30.out.hb (by decide))
      have hk2 : w4.cell? ⟨g, 3, none⟩ = some (.slice AE E.length cE) := (blk_cell hbk 3).trans rfl
      have hf2 := blk_frozen hbk 3
      clear hbk
      refine skip_ (w1 := ?_) (by rfl) rfl ?_ ?_
      rotate_left
      · go_simp
        rfl
      refine hK.out _ _ ?_
      clear hK K
      refine done_ (by kernel_rfl) ?_
      
      refine qp_normal ?_
      have hlen : (E ++ [(⟨day, v, m1, m2⟩ : S44)]).length = E.length + 1 := by simp
      have hBA := BO.appE HFr.out HO_30.out HB_32.out.size hwb HO4.out HG4.out (own_type_ne (Kd.R_own HO_30.out.rE).choose_spec (Kd.R_own HO_30.out.rG).choose_spec (by decide))
      rw [hlen] at hBA
      have HBA := lhid hBA
      have HN6 := lhid (show (w4.setCell ⟨g, 3, none⟩ (.slice A4 (E.length + 1) c4)).heap[w.heap.size]? = _ from blk_far (blk_grown BX_31.out HG4.out (Kd.R_ne HO_30.out.rE BX_31.out (by decide))) (by have := HF.out g HO_30.out.fg; simp; omega) _)
      have HC6 := lhid (show Chg F wr (w4.setCell ⟨g, 3, none⟩ (.slice A4 (E.length + 1) c4)) from ((Chg.of_below HB_32.out).grown HG4.out (fun q hq => Or.inr (HO_30.out.rE.1 q hq))).set (Or.inr HO_30.out.fg) _)
      have HG := lhid (show Got base F wr (w4.setCell ⟨g, 3, none⟩ (.slice A4 (E.length + 1) c4)) g day ((up G m1 ++ up G m2).foldl use1 G) (E ++ [(⟨day, v, m1, m2⟩ : S44)]) from ⟨fun k => F k ∨ (wr.heap.size ≤ k ∧ k < w4.heap.size), by rw [← HMSE.out, ← HGI.out]; exact HBA.out, fun k q => Or.imp_right (fun r => r.1) q, HC6.out⟩)
      clear hBA hlen HBA HC6
      generalize World.setCell w4 ⟨g, 3, none⟩ (.slice A4 (E.length + 1) c4) = w6 at HN6 HG ⊢
      have hxc := blk_cell HN6.out 0
      have hxz : ∀ o, w6.frozen? ⟨w.heap.size, o, none⟩ = false := fun o => blk_frozen HN6.out o
      simp only [List.getElem?_toArray, List.getElem?_cons_zero] at hxc
      go_wp2_with fail
      have hz8 := blk_put HN6.out 0 (.int .i64 0) rfl
      have hg8 : Got base F w (World.setCell (World.setCell w6 ⟨w.heap.size, 0, none⟩ (.int .i64 0)) ⟨w.heap.size, 0, none⟩ (.int .i64 0)).drew _ _ _ _ := Got.boxC HG.out HCr.out (p := ⟨w.heap.size, 0, none⟩) (Nat.le_refl _) HLT.out HF.out (.int .i64 0) (.int .i64 0)
      generalize World.setCell w6 ⟨w.heap.size, 0, none⟩ (.int .i64 0) = w8 at hz8 hg8 ⊢
      have hcw := blk_cell (blk_put hz8 0 (.int .i64 0) rfl) 0
      have hc8 := blk_cell hz8 0
      have hf8 := blk_frozen hz8 0
      simp only [List.getElem?_toArray, List.getElem?_cons_zero, Array.setIfInBounds_def, List.size_toArray] at hc8 hcw
      refine leaves_cons (f := 74) (args := #[.pointer (some ⟨w.heap.size, 0, none⟩)]) (by simp) (by simp [go_sem]) ?_
      refine (catch74_idle ⟨w.heap.size, 0, none⟩ 0 w8 (by simpa using hc8) hf8).mono ?_
      rintro e u' w'' ⟨rfl, rfl, rfl⟩
      simp [Leaves, settle, results, Try.results38, go_sem, hcw]
      first | exact hg8 | (rw [List.foldl_append] at hg8; exact hg8)
end Go.Proofs.Ytfnlghjkjmppdaa.PC
end
