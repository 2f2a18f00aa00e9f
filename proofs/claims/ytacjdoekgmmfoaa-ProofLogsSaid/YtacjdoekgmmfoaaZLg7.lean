/-
  The texts that the theorem in YtacjdoekgmmfoaaZRowLg rests on, merged (part 8); only what it reaches.
-/
import Derived.Laws.IdiomCopy
import Derived.Test.YtacjdoekgmmfoaaZLg2
import Derived.Test.YtacjdoekgmmfoaaZLg3
import Derived.Test.YtacjdoekgmmfoaaZLg5
import Derived.Test.YtacjdoekgmmfoaaZLg6
section
namespace Go.Proofs.Ytacjdoekgmmfoaa.PL
open Go.RowKit Go.Proofs.YtacjdoekgmmfoaaW.PrintWords Go.Proofs.YtacjdoekgmmfoaaW.PrintLast Go.Proofs.YtacjdoekgmmfoaaW.PrintMore Go.Proofs.Ytacjdoekgmmfoaa.Opn
set_option linter.unusedVariables false
set_option linter.unusedSimpArgs false
theorem copyX_own {e size n : Nat} {W : World} {base : Nat} {v : Value} {xs : List Value} (h : W.ownsRow base e size v n xs) (hn : 0 < n) : ∃ g cap cur, v = .slice (some ⟨g, 0, none⟩) n cap ∧ base ≤ g ∧ W.heap[g]? = some (.cells cur e (0, 0)) ∧ n ≤ cap ∧ cap ≤ maxLen ∧ cur.size = cap * size ∧ cur.toList.take (n * size) = xs := by
  rcases h.2 with ⟨_, h0⟩ | ⟨g, cap, cur, h1, h2, h3, h4, h5, h6, h7⟩
  · omega
  · exact ⟨g, cap, cur, h1, h2, h3, h4, h5, h6, h7⟩
/-- copy(v, l.entries), v a row of one's own as long as they are. -/
theorem run_copyX (W : World) (base bs : Nat) (ty : Nat) (v : Value) (A : Option Addr) (c : Nat) (es : List (List Int)) (O : Nat → Prop) (inner0 : List Value) (hown : W.ownsRow bs 22 1 v es.length inner0) (hb : base ≤ bs)
    (hsrc : Kd.R (Kd.slice 5 (Kd.int .u8)) 22 W base O (.slice A es.length c) es) (hne : ∀ k, O k → some k ≠ v.ownBlock) :
    ∃ w1, (Builtin.copy_ #[39, 39] ty #[v, .slice A es.length c]).run Try.prog W = .ok (goInt es.length) w1 ∧ Kd.R (Kd.slice 5 (Kd.int .u8)) 22 w1 base (fun k => O k ∨ v.ownBlock = some k) v es ∧ W.grownBy w1 v.ownBlock := by
  obtain ⟨h0, inner, ho0, hr0⟩ := hsrc
  have ho : W.ownsRow base 22 1 (.slice A es.length c) es.length inner := ho0
  have hr : Reps ((Kd.slice 5 (Kd.int .u8)).M W base (fun k => O k ∧ some k ≠ (Value.slice A es.length c).ownBlock)) 1 es inner := hr0
  clear ho0 hr0
  have hil : inner.length = es.length := by have := ho.1; rw [Nat.mul_one] at this; exact this
  rcases Nat.eq_zero_or_pos es.length with hz | hp
  · obtain rfl : es = [] := List.eq_nil_of_length_eq_zero hz
    have hv : ∃ A' c', v = .slice A' 0 c' := by
      rcases hown.2 with ⟨rfl, _⟩ | ⟨g, cap, cur, rfl, _⟩
      · exact ⟨none, 0, rfl⟩
      · exact ⟨_, _, rfl⟩
    obtain ⟨A', c', rfl⟩ := hv
    refine ⟨W, run_copy_none (P := Try.prog) W 39 39 ty 22 A' A 0 c' 0 c Try.underlying39 (by kernel_rfl) rfl, ?_, World.grownBy.refl W _⟩
    refine ⟨fun k hk => .inr hk, [], ?_, Reps.none _ _⟩
    have h1 : inner0 = [] := by have := hown.1; exact List.eq_nil_of_length_eq_zero (by simpa using this)
    rw [h1] at hown
    have h2 := own_weaken hown hb
    exact h2
  · obtain ⟨g', cap', cur', hv', _, hh', hnc', _, hcs', ht'⟩ := copyX_own ho hp
    obtain ⟨g, cap, cur, rfl, hbg, hh, hnc, hcm, hcs, ht⟩ := copyX_own hown hp
    injection hv' with hA _ hcc
    subst hA
    have hdst : ∀ j, j < inner.length → (W.cell? ⟨g, 0 + j, none⟩).isSome = true := fun j hj => by
      rw [cell_of_row W g _ cur 22 (0, 0) hh]; simp; omega
    have hsc : ∀ j u, inner[j]? = some u → W.cell? (Addr.add ⟨g', 0, none⟩ j) = some u := fun j u hu => by
      have hj : j < inner.length := (List.getElem?_eq_some_iff.1 hu).1
      have e1 : Addr.add ⟨g', 0, none⟩ j = ⟨g', j, none⟩ := by simp [Addr.add]; try omega
      rw [e1, cell_of_row W g' j cur' 22 (0, 0) hh', ← hu, ← ht', ← Array.getElem?_toList, List.getElem?_take_of_lt (by omega)]
    have hone : ∀ u ∈ inner, u.oneCell' = true := fun u hu => by
      obtain ⟨j, hj⟩ := List.getElem?_of_mem hu
      have hjl : j < es.length := by rw [← hil]; exact (List.getElem?_eq_some_iff.1 hj).1
      have hM := hr.2 j _ (List.getElem?_eq_getElem hjl)
      refine (Kd.slice 5 (Kd.int .u8)).K_one ((Kd.slice 5 (Kd.int .u8)).K_of_M hM) u (List.mem_of_getElem? (i := 0) ?_)
      rw [List.getElem?_take_of_lt (by omega), List.getElem?_drop]
      simpa using hj
    have hrun := run_copy_cells (P := Try.prog) W 39 39 ty 22 g 0 es.length cap ⟨g', 0, none⟩ es.length c inner Try.underlying39 (by kernel_rfl) (by rw [hil]; exact (Nat.min_self _).symm) hsc hdst (fun j _ => blk_frozen hh _) hone
    obtain ⟨cur2, h3, h4, h5⟩ := setCells_row inner 0 W cur hh (by omega)
    obtain ⟨s1, s2, s3, s4⟩ := setCells_same g inner 0 W
    have hO : ∀ k, O k → k ≠ g := fun k hk e => hne k hk (by rw [e]; simp [Value.ownBlock])
    have hrow : World.ownsRow (W.setCells g 0 inner) base 22 1 (.slice (some ⟨g, 0, none⟩) es.length cap) es.length inner := by
      refine ⟨by rw [hil, Nat.mul_one], .inr ⟨g, cap, cur2, rfl, by omega, h3, hnc, hcm, by rw [h4, hcs], ?_⟩⟩
      rw [h5, List.take_zero, List.nil_append, Nat.mul_one, ← hil, List.take_left']
      rfl
    refine ⟨_, by rw [hil] at hrun; exact hrun, ⟨fun k hk => .inr hk, inner, hrow, ?_⟩, ⟨s1, s2, s3, by rw [s4]; exact Nat.le_refl _, fun k _ hk => setCells_far _ _ k (fun he => hk (by rw [he]; simp [Value.ownBlock]))⟩⟩
    refine hr.imp_ (fun p cs hM => ?_)
    refine (Kd.slice 5 (Kd.int .u8)).M_mono (fun k hk => ?_) (Kd.M_step hM (fun k hk _ => setCells_far _ _ k (hO k hk.1)))
    exact ⟨.inl hk.1, hne k hk.1⟩
end Go.Proofs.Ytacjdoekgmmfoaa.PL
end
section
namespace Go.Proofs.Ytacjdoekgmmfoaa.PL
open Go.RowKit Go.Proofs.YtacjdoekgmmfoaaW.PrintWords Go.Proofs.YtacjdoekgmmfoaaW.PrintLast Go.Proofs.YtacjdoekgmmfoaaW.PrintMore Go.Proofs.Ytacjdoekgmmfoaa.Opn
set_option linter.unusedVariables false
set_option linter.unusedSimpArgs false
def lsb (n m : Nat) : Array Bool := ((List.range n).map m.testBit).toArray
theorem copy_run {P : Program} {a : Act} {o : Oper} {s x : Operand} {t t' : TypeId} (ho : o.op = .call { callee := .builtin .copy, args := #[s, x], argTypes := #[t, t'] }) {v u : Value} (hs : a.eval s = v) (hx : a.eval x = u) {w w1 : World} {r : Value} {ty : TypeId} (hty : o.type = ty) (hr : (Builtin.copy_ #[t, t'] ty #[v, u]).run P w = .ok r w1) : (execOp a.eval o).run P w = .ok (.value r) w1 := by
  subst hty
  unfold execOp
  simp only [ho, resolve, invoke, builtin, Sem.run_bind, Sem.run_pure, Result.andThen_ok, List.map_toArray, List.map_cons, List.map_nil, hs, hx, hr]
theorem below_none {w W : World} (h : w.grownBy W none) : Below w.heap.size w W := Below.grown (Below.refl _ _) h (Nat.le_refl _) (fun k hk => by cases hk)
set_option maxHeartbeats 12800000 in
set_option maxRecDepth 100000 in
/-- Copy. -/
theorem copyX_calls (base : Nat) (O M : Nat → Prop) (w : World) (g : Nat) (es : List (List Int)) (ls : List Int) (h : LX base O M w g es ls) (hn : es.length ≤ 4096) (hl : ls.length ≤ 4096) :
    Calls Try.prog 46 #[.pointer (some ⟨g, 0, none⟩)] w fun e w' => ∃ g', e = .returned (.pointer (some ⟨g', 0, none⟩)) ∧ LX base (fun k => (O k ∧ k < w.heap.size) ∨ w.heap.size ≤ k) (fun k => w.heap.size ≤ k) w' g' es ls ∧ Below w.heap.size w w' := by
  have hb0 := h.bound
  obtain ⟨ve, vl, h1, h2, h3, _, _⟩ := hb0.row
  obtain ⟨Ae, ce, rfl⟩ := Kd.R_slice h2
  obtain ⟨Al, cl, rfl⟩ := Kd.R_slice h3
  have hrd := lhid (ready_calls w g _ _ h1)
  have HO := lhid h
  have HN := lhid (And.intro hn hl)
  have HG := lhid h1
  have HE := lhid h2
  have HL := lhid h3
  have hu70 := Try.underlying70
  have hu39 := Try.underlying39
  have hlo := lhid h.lo
  have HLT := lhid (Nat.le_trans h.lo (Nat.le_of_lt h.lt))
  clear h hb0 h1 h2 h3
  go_enter Try.func46, Try.ntmps46
  go_wp2_with fail
  refine hrd.out.mono ?_
  rintro e w' ⟨rfl, rfl⟩
  clear hrd
  have HB := lhid (Below.refl w.heap.size w)
  go_wp2_with fail
  have hb := below_drew1 (Below.refl w.heap.size w)
  have HG_1 := lhid (blk_below HG.out hb)
  have HE_2 := lhid (Kd.R_below HE.out hb)
  have HL_3 := lhid (Kd.R_below HL.out hb)
  have HB_4 := lhid (below_then HB.out HB.out.size hb)
  clear HG HE HL HB hb
  refine start_ (n := 14) (S := fun w' => w'.cell? ⟨g, 1, none⟩ = some (.slice Ae es.length ce) ∧ w'.cell? ⟨g, 2, none⟩ = some (.slice Al ls.length cl)) (ds := []) (lsb 14 0) (by kernel_rfl) rfl (by kernel_rfl) ⟨((blk_cell HG_1.out 1).trans rfl), ((blk_cell HG_1.out 2).trans rfl)⟩ (fun hHeld => ?_)
  generalize w.drew = w1 at HG_1 HE_2 HL_3 HB_4 hHeld ⊢
  refine pure_ (i := 0) (N := some 7) (v := ?_) (a' := ?_) (lsb 14 1) rfl rfl (by as_aux_lemma => kernel_rfl) (fun _ _ _ h => h) (Or.inl ⟨by rfl, ?_⟩) ?_ ?_; rotate_left; (intro w'; go_simp; with_reducible rfl); rotate_left; (simp only [Act.put, List.setIfInBounds_toArray, List.set_cons_zero, List.set_cons_succ, i64_w, i32_w]; rfl)
  refine pure_ (i := 1) (N := some 8) (v := ?_) (a' := ?_) (lsb 14 3) rfl rfl (by as_aux_lemma => kernel_rfl) (fun _ _ _ h => h) (Or.inl ⟨by rfl, ?_⟩) ?_ ?_; rotate_left; (intro w'; go_simp; with_reducible rfl); rotate_left; (simp only [Act.put, List.setIfInBounds_toArray, List.set_cons_zero, List.set_cons_succ, i64_w, i32_w]; rfl)
  refine pure_ (i := 2) (N := some 9) (v := ?_) (a' := ?_) (lsb 14 7) rfl rfl (by as_aux_lemma => kernel_rfl) (fun _ _ _ h => h) (Or.inl ⟨by rfl, ?_⟩) ?_ ?_; rotate_left; (intro w'; go_simp; with_reducible rfl); rotate_left; (simp only [Act.put, List.setIfInBounds_toArray, List.set_cons_zero, List.set_cons_succ, i64_w, i32_w]; rfl)
  refine pure_ (i := 6) (N := some 13) (v := ?_) (a' := ?_) (lsb 14 71) rfl rfl (by as_aux_lemma => kernel_rfl) (fun _ _ _ h => h) (Or.inl ⟨by rfl, ?_⟩) ?_ ?_; rotate_left; (intro w'; go_simp; with_reducible rfl); rotate_left; (simp only [Act.put, List.setIfInBounds_toArray, List.set_cons_zero, List.set_cons_succ, i64_w, i32_w]; rfl)
  refine pure_ (i := 7) (N := some 14) (v := ?_) (a' := ?_) (lsb 14 199) rfl rfl (by as_aux_lemma => kernel_rfl) (fun _ _ _ h => h) (Or.inl ⟨by rfl, ?_⟩) ?_ ?_; rotate_left; (intro w'; go_simp; with_reducible rfl); rotate_left; (simp only [Act.put, List.setIfInBounds_toArray, List.set_cons_zero, List.set_cons_succ, i64_w, i32_w]; rfl)
  refine pure_ (i := 8) (N := some 15) (v := ?_) (a' := ?_) (lsb 14 455) rfl rfl (by as_aux_lemma => kernel_rfl) (fun _ _ _ h => h) (Or.inl ⟨by rfl, ?_⟩) ?_ ?_; rotate_left; (intro w'; go_simp; with_reducible rfl); rotate_left; (simp only [Act.put, List.setIfInBounds_toArray, List.set_cons_zero, List.set_cons_succ, i64_w, i32_w]; rfl)
  refine take_ (i := 3) (N := some 10) (v := ?_) (a' := ?_) (lsb 14 463) rfl rfl (by as_aux_lemma => kernel_rfl) (fun _ _ _ h => h) (Or.inl ⟨by rfl, ?_⟩) hHeld ?_ ?_; rotate_left; (rintro w' ⟨s0, s1⟩; go_simp; with_reducible rfl); rotate_left; (simp only [Act.put, List.setIfInBounds_toArray, List.set_cons_zero, List.set_cons_succ, i64_w, i32_w]; rfl)
  refine pure_ (i := 4) (N := some 11) (v := ?_) (a' := ?_) (lsb 14 479) rfl rfl (by as_aux_lemma => kernel_rfl) (fun _ _ _ h => h) (Or.inl ⟨by rfl, ?_⟩) ?_ ?_; rotate_left; (intro w'; go_simp; with_reducible rfl); rotate_left; (simp only [Act.put, List.setIfInBounds_toArray, List.set_cons_zero, List.set_cons_succ, i64_w, i32_w]; rfl)
  refine take_ (i := 9) (N := some 16) (v := ?_) (a' := ?_) (lsb 14 991) rfl rfl (by as_aux_lemma => kernel_rfl) (fun _ _ _ h => h) (Or.inl ⟨by rfl, ?_⟩) hHeld ?_ ?_; rotate_left; (rintro w' ⟨s0, s1⟩; go_simp; with_reducible rfl); rotate_left; (simp only [Act.put, List.setIfInBounds_toArray, List.set_cons_zero, List.set_cons_succ, i64_w, i32_w]; rfl)
  refine join_ (σ := Value × Value) 3 (lsb 14 2047) (fun s_ => [(12, s_.1), (17, s_.2)]) (fun s_ w' => (w'.cell? ⟨g, 1, none⟩ = some (.slice Ae es.length ce) ∧ w'.cell? ⟨g, 2, none⟩ = some (.slice Al ls.length cl)) ∧ Hid (Below w1.heap.size w1 w') ∧ Hid (Kd.R (Kd.slice 5 (Kd.int .u8)) 22 w' w1.heap.size (fun _ => True) s_.1 (List.replicate ((es.length : Nat) : Int).toNat [])) ∧ Hid (Kd.R (Kd.int .u64) 33 w' w1.heap.size (fun _ => True) s_.2 ls)) ?_ ?_
  rotate_left
  · intro hCont
    refine two_ (i := 5) (j := 10) (Ni := some 12) (Nj := some 17) (lsb 14 1023) (lsb 14 2015) rfl rfl rfl rfl (by kernel_rfl) (by decide) (by decide) (fun K hK => ?_) (fun K hK => ?_)
    · skip
      refine Kd.R_make_step (Kd.slice 5 (Kd.int .u8)) (w0 := w1) w1.heap.size 22 (by rfl) rfl 39 _ _ rfl (es.length : Int) rfl rfl Try.underlying39 (.slice none 0 0) 24 info22 rfl (by decide) (by decide) ([] : List Int) (ok := fun _ => True) (okp := fun _ => True) ⟨.slice none 0 0, rfl, Kd.R_nil ..⟩ (fun _ hk => hk) trivial (by omega) (by have := HN.out; omega) (Below.refl _ _) (Nat.le_refl _) ?_
      intro v1 wf ho1 hb1 hg1 hn1
      have HV1 := lhid ho1
      have HB1 := lhid hb1
      clear ho1 hb1 hg1 hn1
      refine hK.out _ _ ⟨(pw_cell_below HB1.out ((blk_cell HG_1.out 1).trans rfl)), (pw_cell_below HB1.out ((blk_cell HG_1.out 2).trans rfl))⟩ (fun hHeld => ?_)
      clear hK K
      refine norm_ (a' := ?_) ?_ ?_
      rotate_left
      · show Act.put _ (some 12) _ = _
        simp only [Act.put, List.setIfInBounds_toArray, List.set_cons_zero, List.set_cons_succ, i64_w, i32_w]
        rfl
      refine one_ (i := 10) (N := some 17) (lsb 14 2047) rfl rfl (by kernel_rfl) (by decide) (fun K hK => ?_)
      refine goes_ Try.func80 (by kernel_rfl) rfl #[.slice Al ls.length cl] (by rfl) rfl rfl (by (try simp only [List.map_toArray, List.map_cons, List.map_nil]); first | done | rfl) ?_
      with_reducible refine (clone64_calls wf Al cl ls (Kd.R_reads' (Kd.R_below HL_3.out HB1.out)).2.2 (Kd.R_reads' HL_3.out).2.1 (by have := HN.out; omega)).mono ?_
      rintro e ws ⟨v2, rfl, hR, hb⟩
      refine ⟨_, rfl, ?_⟩
      have HM2 := lhid (Kd.R_lower hR HB1.out.size)
      have HV2 := lhid (Kd.R_below HV1.out hb)
      have HB2 := lhid (below_then HB1.out HB1.out.size hb)
      clear hR hb HB1 HV1
      refine hK.out _ _ ⟨(pw_cell_below HB2.out ((blk_cell HG_1.out 1).trans rfl)), (pw_cell_below HB2.out ((blk_cell HG_1.out 2).trans rfl))⟩ (fun hHeld => ?_)
      clear hK K
      refine norm_ (a' := ?_) ?_ ?_
      rotate_left
      · show Act.put _ (some 17) _ = _
        simp only [Act.put, List.setIfInBounds_toArray, List.set_cons_zero, List.set_cons_succ, i64_w, i32_w]
        rfl
      exact norm_ (by simp only [putAll, Act.put, List.setIfInBounds_toArray, List.set_cons_zero, List.set_cons_succ]) (hCont (v1, v2) _ ⟨hHeld, HB2, HV2, HM2⟩)
    · skip
      refine goes_ Try.func80 (by kernel_rfl) rfl #[.slice Al ls.length cl] (by rfl) rfl rfl (by (try simp only [List.map_toArray, List.map_cons, List.map_nil]); first | done | rfl) ?_
      with_reducible refine (clone64_calls w1 Al cl ls (Kd.R_reads' HL_3.out).2.2 (Kd.R_reads' HL_3.out).2.1 (by have := HN.out; omega)).mono ?_
      rintro e wf ⟨v2, rfl, hR, hb⟩
      refine ⟨_, rfl, ?_⟩
      have HM1 := lhid hR
      have HB1 := lhid hb
      clear hR hb
      refine hK.out _ _ ⟨(pw_cell_below HB1.out ((blk_cell HG_1.out 1).trans rfl)), (pw_cell_below HB1.out ((blk_cell HG_1.out 2).trans rfl))⟩ (fun hHeld => ?_)
      clear hK K
      refine norm_ (a' := ?_) ?_ ?_
      rotate_left
      · show Act.put _ (some 17) _ = _
        simp only [Act.put, List.setIfInBounds_toArray, List.set_cons_zero, List.set_cons_succ, i64_w, i32_w]
        rfl
      refine one_ (i := 5) (N := some 12) (lsb 14 2047) rfl rfl (by kernel_rfl) (by decide) (fun K hK => ?_)
      refine Kd.R_make_step (Kd.slice 5 (Kd.int .u8)) (w0 := w1) w1.heap.size 22 (by rfl) rfl 39 _ _ rfl (es.length : Int) rfl rfl Try.underlying39 (.slice none 0 0) 24 info22 rfl (by decide) (by decide) ([] : List Int) (ok := fun _ => True) (okp := fun _ => True) ⟨.slice none 0 0, rfl, Kd.R_nil ..⟩ (fun _ hk => hk) trivial (by omega) (by have := HN.out; omega) HB1.out HB1.out.size ?_
      intro v1 ws ho1 hb1 hg1 hn1
      have HV2 := lhid ho1
      have HB2 := lhid hb1
      have HM2 := lhid (Kd.R_below HM1.out (below_none hg1))
      clear ho1 hb1 hg1 hn1 HB1 HM1
      refine hK.out _ _ ⟨(pw_cell_below HB2.out ((blk_cell HG_1.out 1).trans rfl)), (pw_cell_below HB2.out ((blk_cell HG_1.out 2).trans rfl))⟩ (fun hHeld => ?_)
      clear hK K
      refine norm_ (a' := ?_) ?_ ?_
      rotate_left
      · show Act.put _ (some 12) _ = _
        simp only [Act.put, List.setIfInBounds_toArray, List.set_cons_zero, List.set_cons_succ, i64_w, i32_w]
        rfl
      exact norm_ (by simp only [putAll, Act.put, List.setIfInBounds_toArray, List.set_cons_zero, List.set_cons_succ]) (hCont (v1, v2) _ ⟨hHeld, HB2, HV2, HM2⟩)
  rintro ⟨v1, v2⟩ w' ⟨hHeld, HBN, HVN0, HMN⟩
  have HVN := lhid (show Kd.R (Kd.slice 5 (Kd.int .u8)) 22 w' w1.heap.size (fun _ => True) v1 (List.replicate es.length []) by have h1 := HVN0.out; rwa [Int.toNat_natCast] at h1)
  clear HVN0
  obtain ⟨A1, c1, rfl⟩ := Kd.R_slice HVN.out
  obtain ⟨A2, c2, rfl⟩ := Kd.R_slice HMN.out
  rw [List.length_replicate] at HVN ⊢
  refine norm_ (a' := ?_) ?_ ?_
  rotate_left
  · simp only [putAll, Act.put, List.setIfInBounds_toArray, List.set_cons_zero, List.set_cons_succ]
    rfl
  refine pure_ (i := 11) (N := some 18) (v := ?_) (a' := ?_) (lsb 14 4095) rfl rfl (by as_aux_lemma => kernel_rfl) (fun _ _ _ h => h) (Or.inl ⟨by rfl, ?_⟩) ?_ ?_; rotate_left; (intro w'; go_simp; with_reducible rfl); rotate_left; (simp only [Act.put, List.setIfInBounds_toArray, List.set_cons_zero, List.set_cons_succ, i64_w, i32_w]; rfl)
  refine one_ (i := 12) (N := some 19) (lsb 14 8191) rfl rfl (by kernel_rfl) (by decide) (fun K hK => ?_)
  refine value_ (w1 := ?_) (v := ?_) (by rfl) rfl ?_ ?_
  rotate_left 2
  · go_simp
    constructor
    · rfl
    · rfl
  refine hK.out _ _ ⟨(pw_cell_below (below_alloc (Below.refl _ _) _) hHeld.1), (pw_cell_below (below_alloc (Below.refl _ _) _) hHeld.2)⟩ (fun hHeld => ?_)
  clear hK K
  refine norm_ (a' := ?_) ?_ ?_
  rotate_left
  · show Act.put _ (some 19) _ = _
    simp only [Act.put, List.setIfInBounds_toArray, List.set_cons_zero, List.set_cons_succ, i64_w, i32_w]
    rfl
  refine pure_ (i := 13) (N := some 3) (v := ?_) (a' := ?_) (lsb 14 16383) rfl rfl (by as_aux_lemma => kernel_rfl) (fun _ _ _ h => h) (Or.inl ⟨by rfl, ?_⟩) ?_ ?_; rotate_left; (intro w'; go_simp; with_reducible rfl); rotate_left; (simp only [Act.put, List.setIfInBounds_toArray, List.set_cons_zero, List.set_cons_succ, i64_w, i32_w]; rfl)
  refine done_ (by kernel_rfl) ?_
  
  obtain ⟨gd, hgd⟩ : ∃ x, x = w'.heap.size := ⟨_, rfl⟩
  have hba := below_alloc HBN.out (.cells #[.bool true, .slice A1 es.length c1, .slice A2 ls.length c2] 70)
  have HD := lhid (show (w'.alloc (.cells #[.bool true, .slice A1 es.length c1, .slice A2 ls.length c2] 70)).heap[gd]? = some (.cells #[.bool true, .slice A1 es.length c1, .slice A2 ls.length c2] 70) by rw [hgd]; exact blk_new _ _)
  have HGD := lhid (show w1.heap.size ≤ gd by rw [hgd]; exact HBN.out.size)
  have HV3 := lhid (Kd.R_alloc HVN.out (.cells #[.bool true, .slice A1 es.length c1, .slice A2 ls.length c2] 70))
  have HM3 := lhid (Kd.R_alloc HMN.out (.cells #[.bool true, .slice A1 es.length c1, .slice A2 ls.length c2] 70))
  rw [← hgd]
  clear HVN HMN HBN hgd
  have HWW := lhid (HB_4.out.size)
  have HG_5 := lhid (blk_below HG_1.out hba)
  have HE_6 := lhid (Kd.R_below HE_2.out hba)
  have HL_7 := lhid (Kd.R_below HL_3.out hba)
  have HB_8 := lhid (below_then HB_4.out HB_4.out.size hba)
  clear HG_1 HE_2 HL_3 HB_4 hba
  generalize World.alloc w' (.cells #[.bool true, .slice A1 es.length c1, .slice A2 ls.length c2] 70) = w20 at HD HV3 HM3 HG_5 HE_6 HL_7 HB_8 ⊢
  go_wp2_with fail
  have hb := below_drew1 (Below.refl w20.heap.size w20)
  have HG_9 := lhid (blk_below HG_5.out hb)
  have HE_10 := lhid (Kd.R_below HE_6.out hb)
  have HL_11 := lhid (Kd.R_below HL_7.out hb)
  have HB_12 := lhid (below_then HB_8.out HB_8.out.size hb)
  have HD_13 := lhid (blk_below HD.out hb)
  have HV_14 := lhid (Kd.R_below HV3.out hb)
  have HM_15 := lhid (Kd.R_below HM3.out hb)
  clear HG_5 HE_6 HL_7 HB_8 HD HV3 HM3 hb
  refine start_ (n := 9) (S := fun w' => w'.cell? ⟨gd, 1, none⟩ = some (.slice A1 es.length c1) ∧ w'.cell? ⟨g, 1, none⟩ = some (.slice Ae es.length ce)) (ds := []) (lsb 9 0) (by kernel_rfl) rfl (by kernel_rfl) ⟨((blk_cell HD_13.out 1).trans rfl), ((blk_cell HG_9.out 1).trans rfl)⟩ (fun hHeld => ?_)
  generalize w20.drew = w2 at HG_9 HE_10 HL_11 HB_12 HD_13 HV_14 HM_15 hHeld ⊢
  refine pure_ (i := 0) (N := some 20) (v := ?_) (a' := ?_) (lsb 9 1) rfl rfl (by as_aux_lemma => kernel_rfl) (fun _ _ _ h => h) (Or.inl ⟨by rfl, ?_⟩) ?_ ?_; rotate_left; (intro w'; go_simp; with_reducible rfl); rotate_left; (simp only [Act.put, List.setIfInBounds_toArray, List.set_cons_zero, List.set_cons_succ, i64_w, i32_w]; rfl)
  refine pure_ (i := 1) (N := some 21) (v := ?_) (a' := ?_) (lsb 9 3) rfl rfl (by as_aux_lemma => kernel_rfl) (fun _ _ _ h => h) (Or.inl ⟨by rfl, ?_⟩) ?_ ?_; rotate_left; (intro w'; go_simp; with_reducible rfl); rotate_left; (simp only [Act.put, List.setIfInBounds_toArray, List.set_cons_zero, List.set_cons_succ, i64_w, i32_w]; rfl)
  refine pure_ (i := 2) (N := some 22) (v := ?_) (a' := ?_) (lsb 9 7) rfl rfl (by as_aux_lemma => kernel_rfl) (fun _ _ _ h => h) (Or.inl ⟨by rfl, ?_⟩) ?_ ?_; rotate_left; (intro w'; go_simp; with_reducible rfl); rotate_left; (simp only [Act.put, List.setIfInBounds_toArray, List.set_cons_zero, List.set_cons_succ, i64_w, i32_w]; rfl)
  refine pure_ (i := 4) (N := some 24) (v := ?_) (a' := ?_) (lsb 9 23) rfl rfl (by as_aux_lemma => kernel_rfl) (fun _ _ _ h => h) (Or.inl ⟨by rfl, ?_⟩) ?_ ?_; rotate_left; (intro w'; go_simp; with_reducible rfl); rotate_left; (simp only [Act.put, List.setIfInBounds_toArray, List.set_cons_zero, List.set_cons_succ, i64_w, i32_w]; rfl)
  refine pure_ (i := 5) (N := some 25) (v := ?_) (a' := ?_) (lsb 9 55) rfl rfl (by as_aux_lemma => kernel_rfl) (fun _ _ _ h => h) (Or.inl ⟨by rfl, ?_⟩) ?_ ?_; rotate_left; (intro w'; go_simp; with_reducible rfl); rotate_left; (simp only [Act.put, List.setIfInBounds_toArray, List.set_cons_zero, List.set_cons_succ, i64_w, i32_w]; rfl)
  refine pure_ (i := 6) (N := some 26) (v := ?_) (a' := ?_) (lsb 9 119) rfl rfl (by as_aux_lemma => kernel_rfl) (fun _ _ _ h => h) (Or.inl ⟨by rfl, ?_⟩) ?_ ?_; rotate_left; (intro w'; go_simp; with_reducible rfl); rotate_left; (simp only [Act.put, List.setIfInBounds_toArray, List.set_cons_zero, List.set_cons_succ, i64_w, i32_w]; rfl)
  refine take_ (i := 3) (N := some 23) (v := ?_) (a' := ?_) (lsb 9 127) rfl rfl (by as_aux_lemma => kernel_rfl) (fun _ _ _ h => h) (Or.inl ⟨by rfl, ?_⟩) hHeld ?_ ?_; rotate_left; (rintro w' ⟨s0, s1⟩; go_simp; with_reducible rfl); rotate_left; (simp only [Act.put, List.setIfInBounds_toArray, List.set_cons_zero, List.set_cons_succ, i64_w, i32_w]; rfl)
  refine take_ (i := 7) (N := some 27) (v := ?_) (a' := ?_) (lsb 9 255) rfl rfl (by as_aux_lemma => kernel_rfl) (fun _ _ _ h => h) (Or.inl ⟨by rfl, ?_⟩) hHeld ?_ ?_; rotate_left; (rintro w' ⟨s0, s1⟩; go_simp; with_reducible rfl); rotate_left; (simp only [Act.put, List.setIfInBounds_toArray, List.set_cons_zero, List.set_cons_succ, i64_w, i32_w]; rfl)
  refine one_ (i := 8) (N := some 28) (lsb 9 511) rfl rfl (by kernel_rfl) (by decide) (fun K hK => ?_)
  obtain ⟨inner0, hown⟩ := Kd.R_own HV_14.out
  rw [List.length_replicate] at hown
  obtain ⟨w30, hrun, hR, hg⟩ := run_copyX w2 base w1.heap.size 3 (.slice A1 es.length c1) Ae ce es _ inner0 hown (Nat.le_trans HLT.out HWW.out) HE_10.out (fun k hk e => by have h1 := (own_base hown k e.symm); have h2 := hk.2; have h3 := HWW.out; omega)
  have hne1 : some gd ≠ (Value.slice A1 es.length c1).ownBlock := Kd.R_ne HV_14.out HD_13.out (by decide)
  have hne2 : some g ≠ (Value.slice A1 es.length c1).ownBlock := Kd.R_ne HV_14.out HG_9.out (by decide)
  have HR := lhid hR
  have HGW := lhid hg
  have HOW := lhid hown
  refine value_ (w1 := w30) (v := .int .i64 (es.length : Int)) (by rfl) rfl (copy_run rfl rfl rfl rfl hrun) ?_
  refine hK.out _ _ ⟨((blk_cell (blk_grown HD_13.out hg hne1) 1).trans rfl), ((blk_cell (blk_grown HG_9.out hg hne2) 1).trans rfl)⟩ (fun hHeld => ?_)
  clear hK K
  refine norm_ (a' := ?_) ?_ ?_
  rotate_left
  · show Act.put _ (some 28) _ = _
    simp only [Act.put, List.setIfInBounds_toArray, List.set_cons_zero, List.set_cons_succ, i64_w, i32_w]
    rfl
  refine done_ (by kernel_rfl) ?_
  
  have HM5 := lhid (Kd.R_grown2 HM_15.out rfl HGW.out (fun k hk => by obtain ⟨_, _, cs, q⟩ := own_typed HV_14.out k hk; exact Kd.R_ne HM_15.out q (by decide)))
  have HD5 := lhid (blk_grown HD_13.out HGW.out (Kd.R_ne HV_14.out HD_13.out (by decide)))
  have HB5 := lhid (Below.grown HB_12.out HGW.out HB_12.out.size (fun k hk => Nat.le_trans HWW.out (own_base HOW.out k hk)))
  have HS5 := lhid (fun k (hk : (Value.slice A1 es.length c1).ownBlock = some k) => Nat.le_trans HWW.out (own_base HOW.out k hk))
  clear HG_9 HE_10 HL_11 HB_12 HD_13 HV_14 HM_15 HOW HGW hn hl
  go_wp2_with fail
  go_ret
  have hm5 := Kd.R_bound HM5.out
  refine ⟨gd, rfl, ⟨Nat.le_trans HLT.out (Nat.le_trans HWW.out HGD.out), blk_lt HD5.out, .inr (Nat.le_trans HWW.out HGD.out), Nat.le_trans HWW.out HGD.out, _, _, HD5.out, Kd.R_mono HR.out (fun k hk => hk.imp id (fun q => HS5.out k q)), Kd.R_lower (Kd.R_mono hm5 (fun k hk => .inr (Nat.le_trans HWW.out hk.2.1))) (Nat.le_trans HLT.out HWW.out), HS5.out, fun k hk => Nat.le_trans HWW.out (own_typed HM5.out k hk).1⟩, HB5.out⟩
end Go.Proofs.Ytacjdoekgmmfoaa.PL
end
section
namespace Go.Proofs.Ytacjdoekgmmfoaa.PL
open Go.RowKit Go.Proofs.YtacjdoekgmmfoaaW.PrintWords Go.Proofs.YtacjdoekgmmfoaaW.PrintLast Go.Proofs.YtacjdoekgmmfoaaW.PrintMore
attribute [local go_sem] max2_int min2_int max_two min_two max_three min_three max_four min_four   -- for this text's walks alone
set_option linter.unusedVariables false
set_option linter.unusedSimpArgs false
def kimberliteref07_Include.f (k : Nat) (l0 : List (List Int)) (a1 : Int) : Option ((List (S54)) × Int) := (kimberliteref07_List.f k l0).bind fun t426 => (if t426 = 0 then (if a1 < 0 then (some (([] : List (S54)), 6)) else (if a1 ≥ (l0.length : Int) then (some (([] : List (S54)), 6)) else ((kimberliteref07_way.f k l0 a1).bind fun t427 => (some (t427, 0))))) else (some (([] : List (S54)), t426)))
theorem kimberliteref07_Include.mono : ∀ a0 a1 k, LeO (kimberliteref07_Include.f k a0 a1) (kimberliteref07_Include.f (k + 1) a0 a1) := by
  intro a0 a1 k
  unfold kimberliteref07_Include.f
  repeat' first
      | (with_reducible exact kimberliteref07_List.mono _ _)
      | (with_reducible exact kimberliteref07_way.mono _ _ _)
      | (with_reducible exact LeO.refl _)
      | (with_reducible exact LeO.none _)
      | (with_reducible refine LeO.ite ?_ ?_)
      | (with_reducible refine LeO.bind ?_ (fun _ => ?_))
      | exact kimberliteref07_List.mono _ _
      | exact kimberliteref07_way.mono _ _ _
      | exact LeO.none _
      | refine LeO.ite ?_ ?_
      | refine LeO.bind ?_ (fun _ => ?_)
set_option maxHeartbeats 8000000 in
set_option maxRecDepth 100000 in
theorem kimberliteref07_Include.calls (k : Nat) (A0 : Option Addr) (c0 : Nat) (l0 : List (List Int)) (a1 : Int) (r1 : List (S54)) (r2 : Int) (w : World) (hr0 : Kd.C (Kd.slice 5 (Kd.int .u8)) w A0 l0.length l0) (hc0 : l0.length ≤ c0) (h : kimberliteref07_Include.f k l0 a1 = some (r1, r2)) :
    Calls Try.prog 38 #[.slice A0 l0.length c0, .int .i64 a1] w fun e w' => ∃ v0_ : Value, e = .returned (.tuple #[v0_, .int .i64 r2]) ∧ Kd.R k54 54 w' w.heap.size (fun _ => True) v0_ r1 ∧ Below w.heap.size w w' := by
  have HR0 := Aside0.mk hr0
  have HC0 := Aside0.mk hc0
  clear hr0 hc0
  have HB := Aside0.mk (Below.refl w.heap.size w)
  have H : ((kimberliteref07_List.f k l0).bind fun t426 => (if t426 = 0 then (if a1 < 0 then (some (([] : List (S54)), 6)) else (if a1 ≥ (l0.length : Int) then (some (([] : List (S54)), 6)) else ((kimberliteref07_way.f k l0 a1).bind fun t427 => (some (t427, 0))))) else (some (([] : List (S54)), t426)))) = some (r1, r2) := h
  clear h
  replace H := Option.bind_eq_some_iff.mp H
  obtain ⟨t426, A30, H⟩ := H
  replace H : (if t426 = 0 then (if a1 < 0 then (some (([] : List (S54)), 6)) else (if a1 ≥ (l0.length : Int) then (some (([] : List (S54)), 6)) else ((kimberliteref07_way.f k l0 a1).bind fun t427 => (some (t427, 0))))) else (some (([] : List (S54)), t426))) = some (r1, r2) := H
  have A3 := Aside0.mk A30
  clear A30
  by_cases c4 : t426 = 0
  · rw [if_pos c4] at H
    have c4b0 : (t426 == 0) = true := beq_iff_eq.mpr c4
    have c4b1 : (t426 != 0) = false := bne_eq_false_iff_eq.mpr c4
    clear c4
    by_cases c5 : a1 < 0
    · rw [if_pos c5] at H
      have c5b0 : decide (a1 < 0) = true := decide_eq_true c5
      clear c5
      simp only [Option.some.injEq, Prod.mk.injEq] at H
      obtain ⟨rfl, rfl⟩ := H
      go_enter Try.func38, Try.ntmps38
      go_wp2_with (first | ((with_reducible refine gate_callee (f := 65) rfl ?_); refine goesL_ (some 8) rfl rfl Try.func65 (by kernel_rfl) rfl #[.slice A0 l0.length c0] rfl (by (try simp only [List.map_toArray, List.map_cons, List.map_nil]); first | done | rfl | (simp only [List.length_drop, List.length_take]; rfl)) ?_; (with_reducible refine (kimberliteref07_List.calls k _ _ l0 t426 _ ?side1 ?side2 A3.out).mono ?_); (case side1 => repeat (first | exact HR0.out | (with_reducible refine Kd.C_alloc ?_ _) | (with_reducible refine Kd.C_drewN ?_ _) | (with_reducible refine Kd.C_drew ?_))); (case side2 => exact HC0.out); rintro e w' ⟨rfl, ⟨nd, rfl⟩⟩; refine ⟨_, rfl, ?_⟩))
      go_ret2
      exact ⟨_, by first | rfl | (simp [errW_none, errW_some] <;> rfl) | (simp [*, errW_none, errW_some] <;> rfl), by first | exact Kd.R_nil _ _ _ _ _ | exact Kd.N_nil _ _ _ _ _ | exact Kd.V_nil _ _ _ _ _ | exact Kd.Q_nil _ _ _ _ _ | exact Kd.S_nil _ _ _ _ _, by repeat (first | (with_reducible first | exact HB.out | apply below_alloc | apply pw_below_drewN | apply below_drew1) | exact HB.out)⟩
    · rw [if_neg c5] at H
      have c5b0 : decide (a1 < 0) = false := decide_eq_false c5
      clear c5
      by_cases c6 : a1 ≥ (l0.length : Int)
      · rw [if_pos c6] at H
        have c6b0 : decide ((l0.length : Int) ≤ a1) = true := decide_eq_true c6
        clear c6
        simp only [Option.some.injEq, Prod.mk.injEq] at H
        obtain ⟨rfl, rfl⟩ := H
        go_enter Try.func38, Try.ntmps38
        go_wp2_with (first | ((with_reducible refine gate_callee (f := 65) rfl ?_); refine goesL_ (some 8) rfl rfl Try.func65 (by kernel_rfl) rfl #[.slice A0 l0.length c0] rfl (by (try simp only [List.map_toArray, List.map_cons, List.map_nil]); first | done | rfl | (simp only [List.length_drop, List.length_take]; rfl)) ?_; (with_reducible refine (kimberliteref07_List.calls k _ _ l0 t426 _ ?side1 ?side2 A3.out).mono ?_); (case side1 => repeat (first | exact HR0.out | (with_reducible refine Kd.C_alloc ?_ _) | (with_reducible refine Kd.C_drewN ?_ _) | (with_reducible refine Kd.C_drew ?_))); (case side2 => exact HC0.out); rintro e w' ⟨rfl, ⟨nd, rfl⟩⟩; refine ⟨_, rfl, ?_⟩))
        go_ret2
        exact ⟨_, by first | rfl | (simp [errW_none, errW_some] <;> rfl) | (simp [*, errW_none, errW_some] <;> rfl), by first | exact Kd.R_nil _ _ _ _ _ | exact Kd.N_nil _ _ _ _ _ | exact Kd.V_nil _ _ _ _ _ | exact Kd.Q_nil _ _ _ _ _ | exact Kd.S_nil _ _ _ _ _, by repeat (first | (with_reducible first | exact HB.out | apply below_alloc | apply pw_below_drewN | apply below_drew1) | exact HB.out)⟩
      · rw [if_neg c6] at H
        have c6b0 : decide ((l0.length : Int) ≤ a1) = false := decide_eq_false c6
        clear c6
        replace H := Option.bind_eq_some_iff.mp H
        obtain ⟨t427, A70, H⟩ := H
        replace H : (some (t427, 0)) = some (r1, r2) := H
        have A7 := Aside0.mk A70
        clear A70
        simp only [Option.some.injEq, Prod.mk.injEq] at H
        obtain ⟨rfl, rfl⟩ := H
        go_enter Try.func38, Try.ntmps38
        go_wp2_with (first | ((with_reducible refine gate_callee (f := 65) rfl ?_); refine goesL_ (some 8) rfl rfl Try.func65 (by kernel_rfl) rfl #[.slice A0 l0.length c0] rfl (by (try simp only [List.map_toArray, List.map_cons, List.map_nil]); first | done | rfl | (simp only [List.length_drop, List.length_take]; rfl)) ?_; (with_reducible refine (kimberliteref07_List.calls k _ _ l0 t426 _ ?side1 ?side2 A3.out).mono ?_); (case side1 => repeat (first | exact HR0.out | (with_reducible refine Kd.C_alloc ?_ _) | (with_reducible refine Kd.C_drewN ?_ _) | (with_reducible refine Kd.C_drew ?_))); (case side2 => exact HC0.out); rintro e w' ⟨rfl, ⟨nd, rfl⟩⟩; refine ⟨_, rfl, ?_⟩) | ((with_reducible refine gate_callee (f := 71) rfl ?_); refine goesL_ (some 22) rfl rfl Try.func71 (by kernel_rfl) rfl #[.slice A0 l0.length c0, .int .i64 a1] rfl (by (try simp only [List.map_toArray, List.map_cons, List.map_nil]); first | done | rfl | (simp only [List.length_drop, List.length_take]; rfl)) ?_; (with_reducible refine (kimberliteref07_way.calls k _ _ l0 a1 t427 _ ?side1 ?side2 A7.out).mono ?_); (case side1 => repeat (first | exact HR0.out | (with_reducible refine Kd.C_alloc ?_ _) | (with_reducible refine Kd.C_drewN ?_ _) | (with_reducible refine Kd.C_drew ?_))); (case side2 => exact HC0.out); rintro e w8 ⟨v428, rfl, ho0, hb⟩; refine ⟨_, rfl, ?_⟩; have n0_ := Aside0.mk (Kd.R_lower ho0 (below_size (by repeat (first | (with_reducible first | exact HB.out | apply below_alloc | apply pw_below_drewN | apply below_drew1) | exact HB.out)))); have n1_ := Aside0.mk (below_step (by repeat (first | (with_reducible first | exact HB.out | apply below_alloc | apply pw_below_drewN | apply below_drew1) | exact HB.out)) hb); clear HB; have HO429 := n0_; have HB := n1_; clear n0_ n1_; (try clear hb); (try clear hb2); (try clear hk); (try clear hi); (try clear ho0)))
        go_ret2
        exact ⟨_, by first | rfl | (simp [errW_none, errW_some] <;> rfl) | (simp [*, errW_none, errW_some] <;> rfl), by (with_reducible repeat (first | apply Kd.R_alloc | apply Kd.R_drewN | apply Kd.R_drew)); exact HO429.out, by repeat (first | (with_reducible first | exact HB.out | apply below_alloc | apply pw_below_drewN | apply below_drew1) | exact HB.out)⟩
  · rw [if_neg c4] at H
    have c4b0 : (t426 == 0) = false := beq_eq_false_iff_ne.mpr c4
    have c4b1 : (t426 != 0) = true := bne_iff_ne.mpr c4
    simp only [Option.some.injEq, Prod.mk.injEq] at H
    obtain ⟨rfl, rfl⟩ := H
    go_enter Try.func38, Try.ntmps38
    go_wp2_with (first | ((with_reducible refine gate_callee (f := 65) rfl ?_); refine goesL_ (some 8) rfl rfl Try.func65 (by kernel_rfl) rfl #[.slice A0 l0.length c0] rfl (by (try simp only [List.map_toArray, List.map_cons, List.map_nil]); first | done | rfl | (simp only [List.length_drop, List.length_take]; rfl)) ?_; (with_reducible refine (kimberliteref07_List.calls k _ _ l0 t426 _ ?side1 ?side2 A3.out).mono ?_); (case side1 => repeat (first | exact HR0.out | (with_reducible refine Kd.C_alloc ?_ _) | (with_reducible refine Kd.C_drewN ?_ _) | (with_reducible refine Kd.C_drew ?_))); (case side2 => exact HC0.out); rintro e w' ⟨rfl, ⟨nd, rfl⟩⟩; refine ⟨_, rfl, ?_⟩))
    go_ret2
    exact ⟨_, by first | rfl | (simp [errW_none, errW_some] <;> rfl) | (simp [*, errW_none, errW_some] <;> rfl), by first | exact Kd.R_nil _ _ _ _ _ | exact Kd.N_nil _ _ _ _ _ | exact Kd.V_nil _ _ _ _ _ | exact Kd.Q_nil _ _ _ _ _ | exact Kd.S_nil _ _ _ _ _, by repeat (first | (with_reducible first | exact HB.out | apply below_alloc | apply pw_below_drewN | apply below_drew1) | exact HB.out)⟩
def kimberliteref07_proof.f : Nat → List (List Int) → Int → Bool → Option (List Int)
  | 0, _, _, _ => none
  | k + 1, l0, a1, a2 => if a1 = (l0.length : Int) then (if a2 = true then (some ([] : List Int)) else ((kimberliteref07_Top.f k l0).bind fun t430 => (some (([t430] : List Int))))) else ((kimberliteref07_half.f k (l0.length : Int)).bind fun t434 => (if a1 ≤ t434 then (if 0 ≤ t434 then (if t434 ≤ (l0.length : Int) then ((kimberliteref07_proof.f k (l0.take (t434 : Int).toNat) a1 a2).bind fun t439 => ((kimberliteref07_Top.f k (l0.drop (t434 : Int).toNat)).bind fun t446 => (if t439.length < 17592186044416 then (some (t439 ++ [t446])) else (none)))) else (none)) else (none)) else (if 0 ≤ t434 then (if t434 ≤ (l0.length : Int) then ((kimberliteref07_proof.f k (l0.drop (t434 : Int).toNat) (wrap64 (a1 - t434)) false).bind fun t454 => ((kimberliteref07_Top.f k (l0.take (t434 : Int).toNat)).bind fun t461 => (if t454.length < 17592186044416 then (some (t454 ++ [t461])) else (none)))) else (none)) else (none))))
theorem kimberliteref07_proof.mono_l : ∀ k, (∀ y0 y1 y2, LeO (kimberliteref07_proof.f k y0 y1 y2) (kimberliteref07_proof.f (k + 1) y0 y1 y2))
  | 0 => fun _ _ _ r h => by simp [kimberliteref07_proof.f] at h
  | k + 1 => by
    have ih0 := kimberliteref07_proof.mono_l k
    · intro y0 y1 y2
      unfold kimberliteref07_proof.f
      repeat' first
      | (with_reducible exact ih0 _ _ _)
      | (with_reducible exact kimberliteref07_Top.mono _ _)
      | (with_reducible exact kimberliteref07_half.mono _ _)
      | (with_reducible exact LeO.refl _)
      | (with_reducible exact LeO.none _)
      | (with_reducible refine LeO.ite ?_ ?_)
      | (with_reducible refine LeO.bind ?_ (fun _ => ?_))
      | exact ih0 _ _ _
      | exact kimberliteref07_Top.mono _ _
      | exact kimberliteref07_half.mono _ _
      | exact LeO.none _
      | refine LeO.ite ?_ ?_
      | refine LeO.bind ?_ (fun _ => ?_)
theorem kimberliteref07_proof.mono : ∀ a0 a1 a2 k, LeO (kimberliteref07_proof.f k a0 a1 a2) (kimberliteref07_proof.f (k + 1) a0 a1 a2) := by
  intro a0 a1 a2 k
  have ih0 := kimberliteref07_proof.mono_l k
  exact ih0 a0 a1 a2
def kimberliteref07_proof.T7 : Bool × List (List Nat × List Nat) := (true, [([], []), ([], []), ([0, 1], [0, 1]), ([], []), ([], []), ([2, 3, 4], [2, 3, 4]), ([], []), ([], []), ([6, 7], [6, 7]), ([8, 5], [8]), ([9], [9]), ([5, 10, 9], [5, 10]), ([11, 11, 0, 1, 2, 3, 4, 5, 6, 7, 8, 9, 10, 11], [11])])
def kimberliteref07_proof.B7 : List Nat := [0, 0, 3, 0, 0, 31, 0, 0, 192, 511, 1023, 2047, 4095]
theorem kimberliteref07_proof.tab7 : rtab .any (opsOf Try.f72 7) = kimberliteref07_proof.T7 := by kernel_rfl
theorem kimberliteref07_proof.bits7 : waitsOk kimberliteref07_proof.T7.2 kimberliteref07_proof.B7 = true := by kernel_rfl
def kimberliteref07_proof.T8 : Bool × List (List Nat × List Nat) := (true, [([], []), ([], []), ([0, 1], [0, 1]), ([], []), ([], []), ([3, 4], [3, 4]), ([2, 5], [2, 5]), ([], []), ([], []), ([7, 8], [7, 8]), ([9, 6], [9]), ([10], [10]), ([6, 11, 10], [6, 11]), ([12, 12, 0, 1, 2, 3, 4, 5, 6, 7, 8, 9, 10, 11, 12], [12])])
def kimberliteref07_proof.B8 : List Nat := [0, 0, 3, 0, 0, 24, 63, 0, 0, 384, 1023, 2047, 4095, 8191]
theorem kimberliteref07_proof.tab8 : rtab .any (opsOf Try.f72 8) = kimberliteref07_proof.T8 := by kernel_rfl
theorem kimberliteref07_proof.bits8 : waitsOk kimberliteref07_proof.T8.2 kimberliteref07_proof.B8 = true := by kernel_rfl
set_option maxHeartbeats 8000000 in
set_option maxRecDepth 100000 in
theorem kimberliteref07_proof.calls (k : Nat) : ∀ (A0 : Option Addr) (c0 : Nat) (l0 : List (List Int)) (a1 : Int) (a2 : Bool) (r : List Int) (w : World) (hr0 : Kd.C (Kd.slice 5 (Kd.int .u8)) w A0 l0.length l0) (hc0 : l0.length ≤ c0) (h : kimberliteref07_proof.f k l0 a1 a2 = some r),
    Calls Try.prog 72 #[.slice A0 l0.length c0, .int .i64 a1, .bool a2] w fun e w' => ∃ v0_ : Value, e = .returned (v0_) ∧ Kd.R (Kd.int .u64) 33 w' w.heap.size (fun _ => True) v0_ r ∧ Below w.heap.size w w' := by
  induction k using Nat.strongRecOn with
  | _ k ih =>
  intro A0 c0 l0 a1 a2 r w hr0 hc0 h
  cases k with
  | zero => exact absurd h (by simp [kimberliteref07_proof.f])
  | succ k =>
  simp only [kimberliteref07_proof.f] at h
  have HR0 := Aside0.mk hr0
  have HC0 := Aside0.mk hc0
  clear hr0 hc0
  have HB := Aside0.mk (Below.refl w.heap.size w)
  have H : (if a1 = (l0.length : Int) then (if a2 = true then (some ([] : List Int)) else ((kimberliteref07_Top.f k l0).bind fun t430 => (some (([t430] : List Int))))) else ((kimberliteref07_half.f k (l0.length : Int)).bind fun t434 => (if a1 ≤ t434 then (if 0 ≤ t434 then (if t434 ≤ (l0.length : Int) then ((kimberliteref07_proof.f k (l0.take (t434 : Int).toNat) a1 a2).bind fun t439 => ((kimberliteref07_Top.f k (l0.drop (t434 : Int).toNat)).bind fun t446 => (if t439.length < 17592186044416 then (some (t439 ++ [t446])) else (none)))) else (none)) else (none)) else (if 0 ≤ t434 then (if t434 ≤ (l0.length : Int) then ((kimberliteref07_proof.f k (l0.drop (t434 : Int).toNat) (wrap64 (a1 - t434)) false).bind fun t454 => ((kimberliteref07_Top.f k (l0.take (t434 : Int).toNat)).bind fun t461 => (if t454.length < 17592186044416 then (some (t454 ++ [t461])) else (none)))) else (none)) else (none))))) = some r := h
  clear h
  by_cases c4 : a1 = (l0.length : Int)
  · rw [if_pos c4] at H
    have c4b0 : (a1 == (l0.length : Int)) = true := beq_iff_eq.mpr c4
    have c4b1 : (a1 != (l0.length : Int)) = false := bne_eq_false_iff_eq.mpr c4
    clear c4
    by_cases c5 : a2 = true
    · subst c5
      have H1 : (some ([] : List Int)) = some r := by rw [if_pos rfl] at H; exact H
      clear H
      have H := H1
      clear H1
      obtain rfl := Option.some.inj H
      go_enter Try.func72, Try.ntmps72
      go_wp2
      go_ret
      exact ⟨_, by first | rfl | (simp [errW_none, errW_some] <;> rfl) | (simp [*, errW_none, errW_some] <;> rfl), by first | exact Kd.R_nil _ _ _ _ _ | exact Kd.N_nil _ _ _ _ _ | exact Kd.V_nil _ _ _ _ _ | exact Kd.Q_nil _ _ _ _ _ | exact Kd.S_nil _ _ _ _ _, by repeat (first | (with_reducible first | exact HB.out | apply below_alloc | apply pw_below_drewN | apply below_drew1) | exact HB.out)⟩
    · replace c5 := Bool.eq_false_iff.mpr c5
      subst c5
      have H1 : ((kimberliteref07_Top.f k l0).bind fun t430 => (some (([t430] : List Int)))) = some r := by rw [if_neg (show ¬ (false = true) by decide)] at H; exact H
      clear H
      have H := H1
      clear H1
      replace H := Option.bind_eq_some_iff.mp H
      obtain ⟨t430, A60, H⟩ := H
      replace H : (some (([t430] : List Int))) = some r := H
      have A6 := Aside0.mk A60
      clear A60
      obtain ⟨y431, hy431⟩ : ∃ y_ : List Int, y_ = (([t430] : List Int)) := ⟨_, rfl⟩
      replace H : (some y431) = some r := by first | (rw [hy431]; with_reducible exact H) | (have H2_ := (Option.bind_some _ _).symm.trans H; rw [hy431]; with_reducible exact H2_) | (have H2_ := (Option.bind_some _ _).symm.trans H; with_reducible exact H2_) | with_reducible exact H | (rw [hy431]; exact H) | exact H
      have Ny431 := Aside0.mk hy431
      clear hy431
      obtain rfl := Option.some.inj H
      go_enter Try.func72, Try.ntmps72
      go_wp2_with (first | ((with_reducible refine gate_callee (f := 66) rfl ?_); refine goesL_ (some 14) rfl rfl Try.func66 (by kernel_rfl) rfl #[.slice A0 l0.length c0] rfl (by (try simp only [List.map_toArray, List.map_cons, List.map_nil]); first | done | rfl | (simp only [List.length_drop, List.length_take]; rfl)) ?_; (with_reducible refine (kimberliteref07_Top.calls k _ _ l0 t430 _ ?side1 ?side2 A6.out).mono ?_); (case side1 => repeat (first | exact HR0.out | (with_reducible refine Kd.C_alloc ?_ _) | (with_reducible refine Kd.C_drewN ?_ _) | (with_reducible refine Kd.C_drew ?_))); (case side2 => exact HC0.out); rintro e w7 ⟨rfl, hb⟩; refine ⟨_, rfl, ?_⟩; have n0_ := Aside0.mk (below_step (by repeat (first | (with_reducible first | exact HB.out | apply below_alloc | apply pw_below_drewN | apply below_drew1) | exact HB.out)) hb); clear HB; have HB := n0_; clear n0_; (try clear hb); (try clear hb2); (try clear hk); (try clear hi)) | ((with_reducible refine gate_dst (N := 15) rfl ?_); refine Kd.R_lit (Kd.int .u64) _ 33 ?hg (N := 15) ?hd (xs := ([t430] : List Int)) (inner := [.int .u64 t430]) (ok := fun _ => True) (okp := fun _ => True) ?hr ?hp (fun _ hk => hk) trivial (Below.refl _ _) (Nat.le_refl _) (by simp) ?_; (case hd => rfl); (case hg => rfl); (case hr => first | (go_simp; done) | (go_simp; rfl)); (case hp => exact (Reps.one (show Kd.M (Kd.int .u64) _ _ _ t430 [.int .u64 t430] from rfl) (Reps.none _ _))); intro v432 w8 ho9 hb hg_ hnew_; clear hg_ hnew_; (first | rw [← Ny431.out] at ho9 | (simp only [Int.reduceToNat] at ho9; rw [← Ny431.out] at ho9)); have n0_ := Aside0.mk (Kd.R_lower ho9 (below_size (by repeat (first | (with_reducible first | exact HB.out | apply below_alloc | apply pw_below_drewN | apply below_drew1) | exact HB.out)))); have n1_ := Aside0.mk (below_step (by repeat (first | (with_reducible first | exact HB.out | apply below_alloc | apply pw_below_drewN | apply below_drew1) | exact HB.out)) hb); clear HB; have HO433 := n0_; have HB := n1_; clear n0_ n1_; clear hb ho9))
      go_ret
      exact ⟨_, by first | rfl | (simp [errW_none, errW_some] <;> rfl) | (simp [*, errW_none, errW_some] <;> rfl), by (with_reducible repeat (first | apply Kd.R_alloc | apply Kd.R_drewN | apply Kd.R_drew)); exact HO433.out, by repeat (first | (with_reducible first | exact HB.out | apply below_alloc | apply pw_below_drewN | apply below_drew1) | exact HB.out)⟩
  · rw [if_neg c4] at H
    have c4b0 : (a1 == (l0.length : Int)) = false := beq_eq_false_iff_ne.mpr c4
    have c4b1 : (a1 != (l0.length : Int)) = true := bne_iff_ne.mpr c4
    replace H := Option.bind_eq_some_iff.mp H
    obtain ⟨t434, A100, H⟩ := H
    replace H : (if a1 ≤ t434 then (if 0 ≤ t434 then (if t434 ≤ (l0.length : Int) then ((kimberliteref07_proof.f k (l0.take (t434 : Int).toNat) a1 a2).bind fun t439 => ((kimberliteref07_Top.f k (l0.drop (t434 : Int).toNat)).bind fun t446 => (if t439.length < 17592186044416 then (some (t439 ++ [t446])) else (none)))) else (none)) else (none)) else (if 0 ≤ t434 then (if t434 ≤ (l0.length : Int) then ((kimberliteref07_proof.f k (l0.drop (t434 : Int).toNat) (wrap64 (a1 - t434)) false).bind fun t454 => ((kimberliteref07_Top.f k (l0.take (t434 : Int).toNat)).bind fun t461 => (if t454.length < 17592186044416 then (some (t454 ++ [t461])) else (none)))) else (none)) else (none))) = some r := H
    have A10 := Aside0.mk A100
    clear A100
    by_cases c11 : a1 ≤ t434
    · rw [if_pos c11] at H
      have c11b0 : decide (a1 ≤ t434) = true := decide_eq_true c11
      clear c11
      by_cases c12 : 0 ≤ t434
      · rw [if_pos c12] at H
        have c12b0 := eq_true c12
        have c12b1 : decide (0 ≤ t434) = true := decide_eq_true c12
        clear c12
        by_cases c13 : t434 ≤ (l0.length : Int)
        · rw [if_pos c13] at H
          have c13b0 := eq_true c13
          have c13b1 : decide (t434 ≤ (l0.length : Int)) = true := decide_eq_true c13
          clear c13
          obtain ⟨y435, hy435⟩ : ∃ y_ : List (List Int), y_ = (l0.take (t434 : Int).toNat) := ⟨_, rfl⟩
          replace H : ((kimberliteref07_proof.f k y435 a1 a2).bind fun t439 => ((kimberliteref07_Top.f k (l0.drop (t434 : Int).toNat)).bind fun t446 => (if t439.length < 17592186044416 then (some (t439 ++ [t446])) else (none)))) = some r := by first | (rw [hy435]; with_reducible exact H) | (have H2_ := (Option.bind_some _ _).symm.trans H; rw [hy435]; with_reducible exact H2_) | (have H2_ := (Option.bind_some _ _).symm.trans H; with_reducible exact H2_) | with_reducible exact H | (rw [hy435]; exact H) | exact H
          have Ny435 := Aside0.mk hy435
          clear hy435
          replace H := Option.bind_eq_some_iff.mp H
          obtain ⟨t439, A140, H⟩ := H
          replace H : ((kimberliteref07_Top.f k (l0.drop (t434 : Int).toNat)).bind fun t446 => (if t439.length < 17592186044416 then (some (t439 ++ [t446])) else (none))) = some r := H
          have A14 := Aside0.mk A140
          clear A140
          have c15b0 := eq_true (of_decide_eq_true (by first | (with_reducible assumption) | assumption) : 0 ≤ t434)
          have c16b0 := eq_true (of_decide_eq_true (by first | (with_reducible assumption) | assumption) : t434 ≤ (l0.length : Int))
          obtain ⟨y442, hy442⟩ : ∃ y_ : List (List Int), y_ = (l0.drop (t434 : Int).toNat) := ⟨_, rfl⟩
          replace H : ((kimberliteref07_Top.f k y442).bind fun t446 => (if t439.length < 17592186044416 then (some (t439 ++ [t446])) else (none))) = some r := by first | (rw [hy442]; with_reducible exact H) | (have H2_ := (Option.bind_some _ _).symm.trans H; rw [hy442]; with_reducible exact H2_) | (have H2_ := (Option.bind_some _ _).symm.trans H; with_reducible exact H2_) | with_reducible exact H | (rw [hy442]; exact H) | exact H
          have Ny442 := Aside0.mk hy442
          clear hy442
          replace H := Option.bind_eq_some_iff.mp H
          obtain ⟨t446, A170, H⟩ := H
          replace H : (if t439.length < 17592186044416 then (some (t439 ++ [t446])) else (none)) = some r := H
          have A17 := Aside0.mk A170
          clear A170
          by_cases c18 : t439.length < 17592186044416
          · rw [if_pos c18] at H
            have LMc18 := Aside0.mk c18
            clear c18
            obtain ⟨y447, hy447⟩ : ∃ y_ : List Int, y_ = (t439 ++ [t446]) := ⟨_, rfl⟩
            replace H : (some y447) = some r := by first | (rw [hy447]; with_reducible exact H) | (have H2_ := (Option.bind_some _ _).symm.trans H; rw [hy447]; with_reducible exact H2_) | (have H2_ := (Option.bind_some _ _).symm.trans H; with_reducible exact H2_) | with_reducible exact H | (rw [hy447]; exact H) | exact H
            have Ny447 := Aside0.mk hy447
            clear hy447
            obtain rfl := Option.some.inj H
            go_enter Try.func72, Try.ntmps72
            try go_wp2_with (first | ((with_reducible refine gate_callee (f := 87) rfl ?_); refine goesL_ (some 18) rfl rfl Try.func87 (by kernel_rfl) rfl #[.int .i64 (l0.length : Int)] rfl (by (try simp only [List.map_toArray, List.map_cons, List.map_nil]); first | done | rfl | (simp only [List.length_drop, List.length_take]; rfl)) ?_; (with_reducible refine (kimberliteref07_half.calls k (l0.length : Int) t434 _ A10.out).mono ?_); rintro e w' ⟨rfl, ⟨nd, rfl⟩⟩; refine ⟨_, rfl, ?_⟩))
            (try (rw [drewN_self w]; generalize hq_ : World.drewN w _ = w19; have n0_ := Aside0.mk (below_at hq_ HB.out); clear hq_ HB; have HB := n0_; clear n0_))
            have n0_ := Aside0.mk (below_drew1 HB.out)
            clear HB
            have HB := n0_
            clear n0_
            have q21 : (t434 : Int) ≤ ((l0.length : Int) : Int) := of_decide_eq_true (by first | (with_reducible assumption) | assumption)
            obtain ⟨i021, hi021, _, hsz21, _⟩ := info_parts info22
            have hroom21 : l0.length ≤ c0 := HC0.out
            have hC21 : Kd.C (Kd.slice 5 (Kd.int .u8)) _ A0 l0.length l0 := HR0.out
            have hcut21 := cut_to (P := Try.prog) 39 22 .i64 Try.underlying39 hi021 A0 l0.length c0 t434 (of_decide_eq_true (by first | (with_reducible assumption) | assumption)) q21 hroom21
            have hr21 := Kd.C_take (m := (t434 : Int).toNat) hC21 (by omega)
            have hy21 : y435.length = (t434 : Int).toNat := (by rw [Ny435.out, List.length_take]; omega)
            rw [← Ny435.out] at hr21
            rw [← hy21] at hcut21
            have HR438 := Aside0.mk hr21
            have HC438 := Aside0.mk (show y435.length ≤ c0 from by omega)
            clear hr21 hC21 hroom21 hi021 hsz21
            have KY21 := Aside0.mk hy21
            clear hy21
            replace q21 := eq_true q21
            have q22 : (t434 : Int) ≤ ((l0.length : Int) : Int) := of_decide_eq_true (by first | (with_reducible assumption) | assumption)
            obtain ⟨i022, hi022, _, hsz22, _⟩ := info_parts info22
            have hroom22 : l0.length ≤ c0 := HC0.out
            have hC22 : Kd.C (Kd.slice 5 (Kd.int .u8)) _ A0 l0.length l0 := HR0.out
            have q022 : (0 : Int) ≤ (t434 : Int) := of_decide_eq_true (by first | (with_reducible assumption) | assumption)
            have hcut22 := cut_from (P := Try.prog) 39 22 .i64 Try.underlying39 hi022 1 hsz22 A0 l0.length c0 t434 q022 q22
            have hr22 := Kd.C_drop (m := (t434 : Int).toNat) (c := c0) hC22 (by omega) hroom22
            obtain ⟨A22, hA22⟩ : ∃ A1, A1 = (if c0 = (t434 : Int).toNat then A0 else (A0 : Option Addr).map (·.add ((t434 : Int).toNat * 1))) := ⟨_, rfl⟩
            obtain ⟨c22, hc22⟩ : ∃ c1, c1 = c0 - (t434 : Int).toNat := ⟨_, rfl⟩
            have hy22 : y442.length = l0.length - (t434 : Int).toNat := (by rw [Ny442.out, List.length_drop] <;> omega)
            rw [show (l0).drop (t434 : Int).toNat = y442 from Ny442.out.symm] at hr22
            replace hr22 : Kd.C (Kd.slice 5 (Kd.int .u8)) _ A22 y442.length y442 := (by rw [hA22]; exact hr22)
            rw [← hy22, ← hA22, ← hc22] at hcut22
            have HR445 := Aside0.mk hr22
            have HC445 := Aside0.mk (show y442.length ≤ c22 from by rw [hy22, hc22]; exact Nat.sub_le_sub_right hroom22 _)
            clear hr22 hC22 hroom22 hi022 hsz22 hc22
            have KY22 := Aside0.mk hy22
            have KA22 := Aside0.mk hA22
            clear hy22 hA22
            replace q22 := eq_true q22
            refine start_ (n := 13) (S := fun w' => True) (ds := []) #[false, false, false, false, false, false, false, false, false, false, false, false, false] (by kernel_rfl) rfl rfl trivial (fun hHeld => ?_); refine with_tabW kimberliteref07_proof.tab7 kimberliteref07_proof.bits7 (fun HT_ HW_ => ?_)
            generalize w19.drew = w20 at HB HR438 HR445 hHeld ⊢
            refine pure_ (i := 0) (N := some 22) (v := ?_) (a' := ?_) #[true, false, false, false, false, false, false, false, false, false, false, false, false] rfl rfl (any_of HT_.out (by kernel_rfl)) (fun _ _ _ h => h) (Or.inl ⟨by rfl, ?_⟩) ?_ ?_
            rotate_left
            · intro w'
              go_simp
              with_reducible rfl
            rotate_left
            · simp only [Act.put, List.setIfInBounds_toArray, List.set_cons_zero, List.set_cons_succ, i64_w, i32_w]
              rfl
            refine pure_ (i := 1) (N := some 23) (v := ?_) (a' := ?_) #[true, true, false, false, false, false, false, false, false, false, false, false, false] rfl rfl (any_of HT_.out (by kernel_rfl)) (fun _ _ _ h => h) (Or.inl ⟨by rfl, ?_⟩) ?_ ?_
            rotate_left
            · intro w'
              go_simp
              with_reducible rfl
            rotate_left
            · simp only [Act.put, List.setIfInBounds_toArray, List.set_cons_zero, List.set_cons_succ, i64_w, i32_w]
              rfl
            refine pure_ (i := 2) (N := some 24) (v := ?_) (a' := ?_) #[true, true, true, false, false, false, false, false, false, false, false, false, false] rfl rfl (any_of HT_.out (by kernel_rfl)) (fun _ _ _ h => h) (Or.inl ⟨by rfl, ?_⟩) ?_ ?_
            rotate_left
            · intro w'
              go_simp
              with_reducible rfl
            rotate_left
            · simp only [Act.put, List.setIfInBounds_toArray, List.set_cons_zero, List.set_cons_succ, i64_w, i32_w]
              rfl
            refine pure_ (i := 3) (N := some 25) (v := ?_) (a' := ?_) #[true, true, true, true, false, false, false, false, false, false, false, false, false] rfl rfl (any_of HT_.out (by kernel_rfl)) (fun _ _ _ h => h) (Or.inl ⟨by rfl, ?_⟩) ?_ ?_
            rotate_left
            · intro w'
              go_simp
              with_reducible rfl
            rotate_left
            · simp only [Act.put, List.setIfInBounds_toArray, List.set_cons_zero, List.set_cons_succ, i64_w, i32_w]
              rfl
            refine pure_ (i := 4) (N := some 26) (v := ?_) (a' := ?_) #[true, true, true, true, true, false, false, false, false, false, false, false, false] rfl rfl (any_of HT_.out (by kernel_rfl)) (fun _ _ _ h => h) (Or.inl ⟨by rfl, ?_⟩) ?_ ?_
            rotate_left
            · intro w'
              go_simp
              with_reducible rfl
            rotate_left
            · simp only [Act.put, List.setIfInBounds_toArray, List.set_cons_zero, List.set_cons_succ, i64_w, i32_w]
              rfl
            refine pure_ (i := 6) (N := some 28) (v := ?_) (a' := ?_) #[true, true, true, true, true, false, true, false, false, false, false, false, false] rfl rfl (any_of HT_.out (by kernel_rfl)) (fun _ _ _ h => h) (Or.inl ⟨by rfl, ?_⟩) ?_ ?_
            rotate_left
            · intro w'
              go_simp
              with_reducible rfl
            rotate_left
            · simp only [Act.put, List.setIfInBounds_toArray, List.set_cons_zero, List.set_cons_succ, i64_w, i32_w]
              rfl
            refine pure_ (i := 7) (N := some 29) (v := ?_) (a' := ?_) #[true, true, true, true, true, false, true, true, false, false, false, false, false] rfl rfl (any_of HT_.out (by kernel_rfl)) (fun _ _ _ h => h) (Or.inl ⟨by rfl, ?_⟩) ?_ ?_
            rotate_left
            · intro w'
              go_simp
              with_reducible rfl
            rotate_left
            · simp only [Act.put, List.setIfInBounds_toArray, List.set_cons_zero, List.set_cons_succ, i64_w, i32_w]
              rfl
            refine pure_ (i := 8) (N := some 30) (v := ?_) (a' := ?_) #[true, true, true, true, true, false, true, true, true, false, false, false, false] rfl rfl (any_of HT_.out (by kernel_rfl)) (fun _ _ _ h => h) (Or.inl ⟨by rfl, ?_⟩) ?_ ?_
            rotate_left
            · intro w'
              go_simp
              with_reducible rfl
            rotate_left
            · simp only [Act.put, List.setIfInBounds_toArray, List.set_cons_zero, List.set_cons_succ, i64_w, i32_w]
              rfl
            refine one_ (i := 5) (N := some 27) #[true, true, true, true, true, true, true, true, true, false, false, false, false] rfl rfl (one_of HT_.out (by kernel_rfl)) (by decide) (fun K hK => ?_)
            refine goes_ Try.func72 (by kernel_rfl) rfl #[.slice A0 y435.length c0, .int .i64 a1, .bool a2] (by rfl) rfl rfl (by (try simp only [List.map_toArray, List.map_cons, List.map_nil]); first | done | rfl | (simp only [List.length_drop, List.length_take]; rfl)) ?_
            with_reducible refine (ih k (by omega) _ _ y435 a1 a2 t439 _ ?side1 ?side2 A14.out).mono ?_
            (case side1 => repeat (first | exact (Kd.C_below HR438.out HB.out) | (with_reducible refine Kd.C_alloc ?_ _) | (with_reducible refine Kd.C_drewN ?_ _) | (with_reducible refine Kd.C_drew ?_)))
            (case side2 => exact HC438.out)
            rintro e w23 ⟨v440, rfl, ho0, hb⟩
            refine ⟨_, rfl, ?_⟩
            have n0_ := Aside0.mk (Kd.R_lower ho0 (below_size (by repeat (first | (with_reducible first | exact HB.out | apply below_alloc | apply pw_below_drewN | apply below_drew1) | exact HB.out))))
            have n1_ := Aside0.mk (below_step (by repeat (first | (with_reducible first | exact HB.out | apply below_alloc | apply pw_below_drewN | apply below_drew1) | exact HB.out)) hb)
            clear HB
            have HO441 := n0_
            have HB := n1_
            clear n0_ n1_
            (try clear hb)
            (try clear hb2)
            (try clear hk)
            (try clear hi)
            (try clear ho0)
            refine hK.out _ _ trivial (fun hHeld => ?_)
            clear hK K
            refine norm_ (a' := ?_) ?_ ?_
            rotate_left
            · show Act.put _ (some 27) _ = _
              simp only [Act.put, List.setIfInBounds_toArray, List.set_cons_zero, List.set_cons_succ, i64_w, i32_w]
              rfl
            refine one_ (i := 9) (N := some 31) #[true, true, true, true, true, true, true, true, true, true, false, false, false] rfl rfl (one_of HT_.out (by kernel_rfl)) (by decide) (fun K hK => ?_)
            refine goes_ Try.func66 (by kernel_rfl) rfl #[.slice A22 y442.length c22] (by rfl) rfl rfl (by (try simp only [List.map_toArray, List.map_cons, List.map_nil]); first | done | rfl | (simp only [List.length_drop, List.length_take]; rfl)) ?_
            with_reducible refine (kimberliteref07_Top.calls k _ _ y442 t446 _ ?side1 ?side2 A17.out).mono ?_
            (case side1 => repeat (first | exact (Kd.C_below HR445.out HB.out) | (with_reducible refine Kd.C_alloc ?_ _) | (with_reducible refine Kd.C_drewN ?_ _) | (with_reducible refine Kd.C_drew ?_)))
            (case side2 => exact HC445.out)
            rintro e w24 ⟨rfl, hb⟩
            refine ⟨_, rfl, ?_⟩
            have n0_ := Aside0.mk (Kd.R_below (by (with_reducible repeat (first | apply Kd.R_alloc | apply Kd.R_drewN | apply Kd.R_drew)); exact HO441.out) hb)
            have n1_ := Aside0.mk (below_step (by repeat (first | (with_reducible first | exact HB.out | apply below_alloc | apply pw_below_drewN | apply below_drew1) | exact HB.out)) hb)
            clear HO441
            clear HB
            have HO441 := n0_
            have HB := n1_
            clear n0_ n1_
            (try clear hb)
            (try clear hb2)
            (try clear hk)
            (try clear hi)
            refine hK.out _ _ trivial (fun hHeld => ?_)
            clear hK K
            refine norm_ (a' := ?_) ?_ ?_
            rotate_left
            · show Act.put _ (some 31) _ = _
              simp only [Act.put, List.setIfInBounds_toArray, List.set_cons_zero, List.set_cons_succ, i64_w, i32_w]
              rfl
            refine one_ (i := 10) (N := some 32) #[true, true, true, true, true, true, true, true, true, true, true, false, false] rfl rfl (one_of HT_.out (by kernel_rfl)) (by decide) (fun K hK => ?_)
            refine value_ (w1 := ?_) (v := ?_) (by rfl) rfl ?_ ?_
            rotate_left 2
            · go_simp
              constructor
              · rfl
              · rfl
            refine hK.out _ _ trivial (fun hHeld => ?_)
            clear hK K
            refine norm_ (a' := ?_) ?_ ?_
            rotate_left
            · show Act.put _ (some 32) _ = _
              simp only [Act.put, List.setIfInBounds_toArray, List.set_cons_zero, List.set_cons_succ, i64_w, i32_w]
              rfl
            refine one_ (i := 11) (N := some 33) #[true, true, true, true, true, true, true, true, true, true, true, true, false] rfl rfl (one_of HT_.out (by kernel_rfl)) (by decide) (fun K hK => ?_)
            refine Kd.R_append_step (Kd.int .u64) (w0 := w) w.heap.size (by rfl) (.tmp 27) (.tmp 32) 46 33 (.int .u64 0) 8 rfl Try.underlying46 info33 rfl (by decide) (by omega) v440 t439 t446 [.int .u64 t446] (fun _ => True) (fun _ => False) rfl rfl ?aP (fun _ hk => hk.elim) ?aF ?aO ?aB ?aS ?aL ?_
            (case aP => exact rfl)
            (case aB => exact (by repeat (first | (with_reducible first | exact HB.out | apply below_alloc | apply pw_below_drewN | apply below_drew1) | exact HB.out)))
            (case aF => exact (fun _ _ => trivial))
            (case aO => exact (by (with_reducible repeat (first | apply Kd.R_alloc | apply Kd.R_drewN | apply Kd.R_drew)); exact HO441.out))
            (case aS => exact (below_size (by repeat (first | (with_reducible first | exact HB.out | apply below_alloc | apply pw_below_drewN | apply below_drew1) | exact HB.out))))
            (case aL => have := LMc18.out; omega)
            intro v448 w25 ho hb hg hat
            rw [← Ny447.out] at ho
            have n0_ := Aside0.mk (hb)
            have n1_ := Aside0.mk (ho)
            clear HB
            clear HO441
            have HB := n0_
            have HO449 := n1_
            clear n0_ n1_
            clear ho hb hg hat
            refine hK.out _ _ trivial (fun hHeld => ?_)
            clear hK K
            refine norm_ (a' := ?_) ?_ ?_
            rotate_left
            · show Act.put _ (some 33) _ = _
              simp only [Act.put, List.setIfInBounds_toArray, List.set_cons_zero, List.set_cons_succ, i64_w, i32_w]
              rfl
            refine pure_ (i := 12) (N := some 6) (v := ?_) (a' := ?_) #[true, true, true, true, true, true, true, true, true, true, true, true, true] rfl rfl (any_of HT_.out (by kernel_rfl)) (fun _ _ _ h => h) (Or.inl ⟨by rfl, ?_⟩) ?_ ?_
            rotate_left
            · intro w'
              go_simp
              with_reducible rfl
            rotate_left
            · simp only [Act.put, List.setIfInBounds_toArray, List.set_cons_zero, List.set_cons_succ, i64_w, i32_w]
              rfl
            refine done_ (done_of HT_.out (by kernel_rfl)) ?_
            try go_wp2
            go_ret
            exact ⟨_, by first | rfl | (simp [errW_none, errW_some] <;> rfl) | (simp [*, errW_none, errW_some] <;> rfl), by (with_reducible repeat (first | apply Kd.R_alloc | apply Kd.R_drewN | apply Kd.R_drew)); exact HO449.out, by repeat (first | (with_reducible first | exact HB.out | apply below_alloc | apply pw_below_drewN | apply below_drew1) | exact HB.out)⟩
          · rw [if_neg c18] at H
            exact absurd H (by simp)
        · rw [if_neg c13] at H
          exact absurd H (by simp)
      · rw [if_neg c12] at H
        exact absurd H (by simp)
    · rw [if_neg c11] at H
      have c11b0 : decide (a1 ≤ t434) = false := decide_eq_false c11
      clear c11
      by_cases c26 : 0 ≤ t434
      · rw [if_pos c26] at H
        have c26b0 := eq_true c26
        have c26b1 : decide (0 ≤ t434) = true := decide_eq_true c26
        clear c26
        by_cases c27 : t434 ≤ (l0.length : Int)
        · rw [if_pos c27] at H
          have c27b0 := eq_true c27
          have c27b1 : decide (t434 ≤ (l0.length : Int)) = true := decide_eq_true c27
          clear c27
          obtain ⟨y450, hy450⟩ : ∃ y_ : List (List Int), y_ = (l0.drop (t434 : Int).toNat) := ⟨_, rfl⟩
          replace H : ((kimberliteref07_proof.f k y450 (wrap64 (a1 - t434)) false).bind fun t454 => ((kimberliteref07_Top.f k (l0.take (t434 : Int).toNat)).bind fun t461 => (if t454.length < 17592186044416 then (some (t454 ++ [t461])) else (none)))) = some r := by first | (rw [hy450]; with_reducible exact H) | (have H2_ := (Option.bind_some _ _).symm.trans H; rw [hy450]; with_reducible exact H2_) | (have H2_ := (Option.bind_some _ _).symm.trans H; with_reducible exact H2_) | with_reducible exact H | (rw [hy450]; exact H) | exact H
          have Ny450 := Aside0.mk hy450
          clear hy450
          replace H := Option.bind_eq_some_iff.mp H
          obtain ⟨t454, A280, H⟩ := H
          replace H : ((kimberliteref07_Top.f k (l0.take (t434 : Int).toNat)).bind fun t461 => (if t454.length < 17592186044416 then (some (t454 ++ [t461])) else (none))) = some r := H
          have A28 := Aside0.mk A280
          clear A280
          have c29b0 := eq_true (of_decide_eq_true (by first | (with_reducible assumption) | assumption) : 0 ≤ t434)
          have c30b0 := eq_true (of_decide_eq_true (by first | (with_reducible assumption) | assumption) : t434 ≤ (l0.length : Int))
          obtain ⟨y457, hy457⟩ : ∃ y_ : List (List Int), y_ = (l0.take (t434 : Int).toNat) := ⟨_, rfl⟩
          replace H : ((kimberliteref07_Top.f k y457).bind fun t461 => (if t454.length < 17592186044416 then (some (t454 ++ [t461])) else (none))) = some r := by first | (rw [hy457]; with_reducible exact H) | (have H2_ := (Option.bind_some _ _).symm.trans H; rw [hy457]; with_reducible exact H2_) | (have H2_ := (Option.bind_some _ _).symm.trans H; with_reducible exact H2_) | with_reducible exact H | (rw [hy457]; exact H) | exact H
          have Ny457 := Aside0.mk hy457
          clear hy457
          replace H := Option.bind_eq_some_iff.mp H
          obtain ⟨t461, A310, H⟩ := H
          replace H : (if t454.length < 17592186044416 then (some (t454 ++ [t461])) else (none)) = some r := H
          have A31 := Aside0.mk A310
          clear A310
          by_cases c32 : t454.length < 17592186044416
          · rw [if_pos c32] at H
            have LMc32 := Aside0.mk c32
            clear c32
            obtain ⟨y462, hy462⟩ : ∃ y_ : List Int, y_ = (t454 ++ [t461]) := ⟨_, rfl⟩
            replace H : (some y462) = some r := by first | (rw [hy462]; with_reducible exact H) | (have H2_ := (Option.bind_some _ _).symm.trans H; rw [hy462]; with_reducible exact H2_) | (have H2_ := (Option.bind_some _ _).symm.trans H; with_reducible exact H2_) | with_reducible exact H | (rw [hy462]; exact H) | exact H
            have Ny462 := Aside0.mk hy462
            clear hy462
            obtain rfl := Option.some.inj H
            go_enter Try.func72, Try.ntmps72
            try go_wp2_with (first | ((with_reducible refine gate_callee (f := 87) rfl ?_); refine goesL_ (some 18) rfl rfl Try.func87 (by kernel_rfl) rfl #[.int .i64 (l0.length : Int)] rfl (by (try simp only [List.map_toArray, List.map_cons, List.map_nil]); first | done | rfl | (simp only [List.length_drop, List.length_take]; rfl)) ?_; (with_reducible refine (kimberliteref07_half.calls k (l0.length : Int) t434 _ A10.out).mono ?_); rintro e w' ⟨rfl, ⟨nd, rfl⟩⟩; refine ⟨_, rfl, ?_⟩))
            (try (rw [drewN_self w]; generalize hq_ : World.drewN w _ = w33; have n0_ := Aside0.mk (below_at hq_ HB.out); clear hq_ HB; have HB := n0_; clear n0_))
            have n0_ := Aside0.mk (below_drew1 HB.out)
            clear HB
            have HB := n0_
            clear n0_
            have q35 : (t434 : Int) ≤ ((l0.length : Int) : Int) := of_decide_eq_true (by first | (with_reducible assumption) | assumption)
            obtain ⟨i035, hi035, _, hsz35, _⟩ := info_parts info22
            have hroom35 : l0.length ≤ c0 := HC0.out
            have hC35 : Kd.C (Kd.slice 5 (Kd.int .u8)) _ A0 l0.length l0 := HR0.out
            have q035 : (0 : Int) ≤ (t434 : Int) := of_decide_eq_true (by first | (with_reducible assumption) | assumption)
            have hcut35 := cut_from (P := Try.prog) 39 22 .i64 Try.underlying39 hi035 1 hsz35 A0 l0.length c0 t434 q035 q35
            have hr35 := Kd.C_drop (m := (t434 : Int).toNat) (c := c0) hC35 (by omega) hroom35
            obtain ⟨A35, hA35⟩ : ∃ A1, A1 = (if c0 = (t434 : Int).toNat then A0 else (A0 : Option Addr).map (·.add ((t434 : Int).toNat * 1))) := ⟨_, rfl⟩
            obtain ⟨c35, hc35⟩ : ∃ c1, c1 = c0 - (t434 : Int).toNat := ⟨_, rfl⟩
            have hy35 : y450.length = l0.length - (t434 : Int).toNat := (by rw [Ny450.out, List.length_drop] <;> omega)
            rw [show (l0).drop (t434 : Int).toNat = y450 from Ny450.out.symm] at hr35
            replace hr35 : Kd.C (Kd.slice 5 (Kd.int .u8)) _ A35 y450.length y450 := (by rw [hA35]; exact hr35)
            rw [← hy35, ← hA35, ← hc35] at hcut35
            have HR453 := Aside0.mk hr35
            have HC453 := Aside0.mk (show y450.length ≤ c35 from by rw [hy35, hc35]; exact Nat.sub_le_sub_right hroom35 _)
            clear hr35 hC35 hroom35 hi035 hsz35 hc35
            have KY35 := Aside0.mk hy35
            have KA35 := Aside0.mk hA35
            clear hy35 hA35
            replace q35 := eq_true q35
            have q36 : (t434 : Int) ≤ ((l0.length : Int) : Int) := of_decide_eq_true (by first | (with_reducible assumption) | assumption)
            obtain ⟨i036, hi036, _, hsz36, _⟩ := info_parts info22
            have hroom36 : l0.length ≤ c0 := HC0.out
            have hC36 : Kd.C (Kd.slice 5 (Kd.int .u8)) _ A0 l0.length l0 := HR0.out
            have hcut36 := cut_to (P := Try.prog) 39 22 .i64 Try.underlying39 hi036 A0 l0.length c0 t434 (of_decide_eq_true (by first | (with_reducible assumption) | assumption)) q36 hroom36
            have hr36 := Kd.C_take (m := (t434 : Int).toNat) hC36 (by omega)
            have hy36 : y457.length = (t434 : Int).toNat := (by rw [Ny457.out, List.length_take]; omega)
            rw [← Ny457.out] at hr36
            rw [← hy36] at hcut36
            have HR460 := Aside0.mk hr36
            have HC460 := Aside0.mk (show y457.length ≤ c0 from by omega)
            clear hr36 hC36 hroom36 hi036 hsz36
            have KY36 := Aside0.mk hy36
            clear hy36
            replace q36 := eq_true q36
            refine start_ (n := 14) (S := fun w' => True) (ds := []) #[false, false, false, false, false, false, false, false, false, false, false, false, false, false] (by kernel_rfl) rfl rfl trivial (fun hHeld => ?_); refine with_tabW kimberliteref07_proof.tab8 kimberliteref07_proof.bits8 (fun HT_ HW_ => ?_)
            generalize w33.drew = w34 at HB HR453 HR460 hHeld ⊢
            refine pure_ (i := 0) (N := some 34) (v := ?_) (a' := ?_) #[true, false, false, false, false, false, false, false, false, false, false, false, false, false] rfl rfl (any_of HT_.out (by kernel_rfl)) (fun _ _ _ h => h) (Or.inl ⟨by rfl, ?_⟩) ?_ ?_
            rotate_left
            · intro w'
              go_simp
              with_reducible rfl
            rotate_left
            · simp only [Act.put, List.setIfInBounds_toArray, List.set_cons_zero, List.set_cons_succ, i64_w, i32_w]
              rfl
            refine pure_ (i := 1) (N := some 35) (v := ?_) (a' := ?_) #[true, true, false, false, false, false, false, false, false, false, false, false, false, false] rfl rfl (any_of HT_.out (by kernel_rfl)) (fun _ _ _ h => h) (Or.inl ⟨by rfl, ?_⟩) ?_ ?_
            rotate_left
            · intro w'
              go_simp
              with_reducible rfl
            rotate_left
            · simp only [Act.put, List.setIfInBounds_toArray, List.set_cons_zero, List.set_cons_succ, i64_w, i32_w]
              rfl
            refine pure_ (i := 2) (N := some 36) (v := ?_) (a' := ?_) #[true, true, true, false, false, false, false, false, false, false, false, false, false, false] rfl rfl (any_of HT_.out (by kernel_rfl)) (fun _ _ _ h => h) (Or.inl ⟨by rfl, ?_⟩) ?_ ?_
            rotate_left
            · intro w'
              go_simp
              with_reducible rfl
            rotate_left
            · simp only [Act.put, List.setIfInBounds_toArray, List.set_cons_zero, List.set_cons_succ, i64_w, i32_w]
              rfl
            refine pure_ (i := 3) (N := some 37) (v := ?_) (a' := ?_) #[true, true, true, true, false, false, false, false, false, false, false, false, false, false] rfl rfl (any_of HT_.out (by kernel_rfl)) (fun _ _ _ h => h) (Or.inl ⟨by rfl, ?_⟩) ?_ ?_
            rotate_left
            · intro w'
              go_simp
              with_reducible rfl
            rotate_left
            · simp only [Act.put, List.setIfInBounds_toArray, List.set_cons_zero, List.set_cons_succ, i64_w, i32_w]
              rfl
            refine pure_ (i := 4) (N := some 38) (v := ?_) (a' := ?_) #[true, true, true, true, true, false, false, false, false, false, false, false, false, false] rfl rfl (any_of HT_.out (by kernel_rfl)) (fun _ _ _ h => h) (Or.inl ⟨by rfl, ?_⟩) ?_ ?_
            rotate_left
            · intro w'
              go_simp
              with_reducible rfl
            rotate_left
            · simp only [Act.put, List.setIfInBounds_toArray, List.set_cons_zero, List.set_cons_succ, i64_w, i32_w]
              rfl
            refine pure_ (i := 5) (N := some 39) (v := ?_) (a' := ?_) #[true, true, true, true, true, true, false, false, false, false, false, false, false, false] rfl rfl (any_of HT_.out (by kernel_rfl)) (fun _ _ _ h => h) (Or.inl ⟨by rfl, ?_⟩) ?_ ?_
            rotate_left
            · intro w'
              go_simp
              with_reducible rfl
            rotate_left
            · simp only [Act.put, List.setIfInBounds_toArray, List.set_cons_zero, List.set_cons_succ, i64_w, i32_w]
              rfl
            refine pure_ (i := 7) (N := some 41) (v := ?_) (a' := ?_) #[true, true, true, true, true, true, false, true, false, false, false, false, false, false] rfl rfl (any_of HT_.out (by kernel_rfl)) (fun _ _ _ h => h) (Or.inl ⟨by rfl, ?_⟩) ?_ ?_
            rotate_left
            · intro w'
              go_simp
              with_reducible rfl
            rotate_left
            · simp only [Act.put, List.setIfInBounds_toArray, List.set_cons_zero, List.set_cons_succ, i64_w, i32_w]
              rfl
            refine pure_ (i := 8) (N := some 42) (v := ?_) (a' := ?_) #[true, true, true, true, true, true, false, true, true, false, false, false, false, false] rfl rfl (any_of HT_.out (by kernel_rfl)) (fun _ _ _ h => h) (Or.inl ⟨by rfl, ?_⟩) ?_ ?_
            rotate_left
            · intro w'
              go_simp
              with_reducible rfl
            rotate_left
            · simp only [Act.put, List.setIfInBounds_toArray, List.set_cons_zero, List.set_cons_succ, i64_w, i32_w]
              rfl
            refine pure_ (i := 9) (N := some 43) (v := ?_) (a' := ?_) #[true, true, true, true, true, true, false, true, true, true, false, false, false, false] rfl rfl (any_of HT_.out (by kernel_rfl)) (fun _ _ _ h => h) (Or.inl ⟨by rfl, ?_⟩) ?_ ?_
            rotate_left
            · intro w'
              go_simp
              with_reducible rfl
            rotate_left
            · simp only [Act.put, List.setIfInBounds_toArray, List.set_cons_zero, List.set_cons_succ, i64_w, i32_w]
              rfl
            refine one_ (i := 6) (N := some 40) #[true, true, true, true, true, true, true, true, true, true, false, false, false, false] rfl rfl (one_of HT_.out (by kernel_rfl)) (by decide) (fun K hK => ?_)
            refine goes_ Try.func72 (by kernel_rfl) rfl #[.slice A35 y450.length c35, .int .i64 (wrap64 (a1 - t434)), .bool false] (by rfl) rfl rfl (by (try simp only [List.map_toArray, List.map_cons, List.map_nil]); first | done | rfl | (simp only [List.length_drop, List.length_take]; rfl)) ?_
            with_reducible refine (ih k (by omega) _ _ y450 (wrap64 (a1 - t434)) false t454 _ ?side1 ?side2 A28.out).mono ?_
            (case side1 => repeat (first | exact (Kd.C_below HR453.out HB.out) | (with_reducible refine Kd.C_alloc ?_ _) | (with_reducible refine Kd.C_drewN ?_ _) | (with_reducible refine Kd.C_drew ?_)))
            (case side2 => exact HC453.out)
            rintro e w37 ⟨v455, rfl, ho0, hb⟩
            refine ⟨_, rfl, ?_⟩
            have n0_ := Aside0.mk (Kd.R_lower ho0 (below_size (by repeat (first | (with_reducible first | exact HB.out | apply below_alloc | apply pw_below_drewN | apply below_drew1) | exact HB.out))))
            have n1_ := Aside0.mk (below_step (by repeat (first | (with_reducible first | exact HB.out | apply below_alloc | apply pw_below_drewN | apply below_drew1) | exact HB.out)) hb)
            clear HB
            have HO456 := n0_
            have HB := n1_
            clear n0_ n1_
            (try clear hb)
            (try clear hb2)
            (try clear hk)
            (try clear hi)
            (try clear ho0)
            refine hK.out _ _ trivial (fun hHeld => ?_)
            clear hK K
            refine norm_ (a' := ?_) ?_ ?_
            rotate_left
            · show Act.put _ (some 40) _ = _
              simp only [Act.put, List.setIfInBounds_toArray, List.set_cons_zero, List.set_cons_succ, i64_w, i32_w]
              rfl
            refine one_ (i := 10) (N := some 44) #[true, true, true, true, true, true, true, true, true, true, true, false, false, false] rfl rfl (one_of HT_.out (by kernel_rfl)) (by decide) (fun K hK => ?_)
            refine goes_ Try.func66 (by kernel_rfl) rfl #[.slice A0 y457.length c0] (by rfl) rfl rfl (by (try simp only [List.map_toArray, List.map_cons, List.map_nil]); first | done | rfl | (simp only [List.length_drop, List.length_take]; rfl)) ?_
            with_reducible refine (kimberliteref07_Top.calls k _ _ y457 t461 _ ?side1 ?side2 A31.out).mono ?_
            (case side1 => repeat (first | exact (Kd.C_below HR460.out HB.out) | (with_reducible refine Kd.C_alloc ?_ _) | (with_reducible refine Kd.C_drewN ?_ _) | (with_reducible refine Kd.C_drew ?_)))
            (case side2 => exact HC460.out)
            rintro e w38 ⟨rfl, hb⟩
            refine ⟨_, rfl, ?_⟩
            have n0_ := Aside0.mk (Kd.R_below (by (with_reducible repeat (first | apply Kd.R_alloc | apply Kd.R_drewN | apply Kd.R_drew)); exact HO456.out) hb)
            have n1_ := Aside0.mk (below_step (by repeat (first | (with_reducible first | exact HB.out | apply below_alloc | apply pw_below_drewN | apply below_drew1) | exact HB.out)) hb)
            clear HO456
            clear HB
            have HO456 := n0_
            have HB := n1_
            clear n0_ n1_
            (try clear hb)
            (try clear hb2)
            (try clear hk)
            (try clear hi)
            refine hK.out _ _ trivial (fun hHeld => ?_)
            clear hK K
            refine norm_ (a' := ?_) ?_ ?_
            rotate_left
            · show Act.put _ (some 44) _ = _
              simp only [Act.put, List.setIfInBounds_toArray, List.set_cons_zero, List.set_cons_succ, i64_w, i32_w]
              rfl
            refine one_ (i := 11) (N := some 45) #[true, true, true, true, true, true, true, true, true, true, true, true, false, false] rfl rfl (one_of HT_.out (by kernel_rfl)) (by decide) (fun K hK => ?_)
            refine value_ (w1 := ?_) (v := ?_) (by rfl) rfl ?_ ?_
            rotate_left 2
            · go_simp
              constructor
              · rfl
              · rfl
            refine hK.out _ _ trivial (fun hHeld => ?_)
            clear hK K
            refine norm_ (a' := ?_) ?_ ?_
            rotate_left
            · show Act.put _ (some 45) _ = _
              simp only [Act.put, List.setIfInBounds_toArray, List.set_cons_zero, List.set_cons_succ, i64_w, i32_w]
              rfl
            refine one_ (i := 12) (N := some 46) #[true, true, true, true, true, true, true, true, true, true, true, true, true, false] rfl rfl (one_of HT_.out (by kernel_rfl)) (by decide) (fun K hK => ?_)
            refine Kd.R_append_step (Kd.int .u64) (w0 := w) w.heap.size (by rfl) (.tmp 40) (.tmp 45) 46 33 (.int .u64 0) 8 rfl Try.underlying46 info33 rfl (by decide) (by omega) v455 t454 t461 [.int .u64 t461] (fun _ => True) (fun _ => False) rfl rfl ?aP (fun _ hk => hk.elim) ?aF ?aO ?aB ?aS ?aL ?_
            (case aP => exact rfl)
            (case aB => exact (by repeat (first | (with_reducible first | exact HB.out | apply below_alloc | apply pw_below_drewN | apply below_drew1) | exact HB.out)))
            (case aF => exact (fun _ _ => trivial))
            (case aO => exact (by (with_reducible repeat (first | apply Kd.R_alloc | apply Kd.R_drewN | apply Kd.R_drew)); exact HO456.out))
            (case aS => exact (below_size (by repeat (first | (with_reducible first | exact HB.out | apply below_alloc | apply pw_below_drewN | apply below_drew1) | exact HB.out))))
            (case aL => have := LMc32.out; omega)
            intro v463 w39 ho hb hg hat
            rw [← Ny462.out] at ho
            have n0_ := Aside0.mk (hb)
            have n1_ := Aside0.mk (ho)
            clear HB
            clear HO456
            have HB := n0_
            have HO464 := n1_
            clear n0_ n1_
            clear ho hb hg hat
            refine hK.out _ _ trivial (fun hHeld => ?_)
            clear hK K
            refine norm_ (a' := ?_) ?_ ?_
            rotate_left
            · show Act.put _ (some 46) _ = _
              simp only [Act.put, List.setIfInBounds_toArray, List.set_cons_zero, List.set_cons_succ, i64_w, i32_w]
              rfl
            refine pure_ (i := 13) (N := some 6) (v := ?_) (a' := ?_) #[true, true, true, true, true, true, true, true, true, true, true, true, true, true] rfl rfl (any_of HT_.out (by kernel_rfl)) (fun _ _ _ h => h) (Or.inl ⟨by rfl, ?_⟩) ?_ ?_
            rotate_left
            · intro w'
              go_simp
              with_reducible rfl
            rotate_left
            · simp only [Act.put, List.setIfInBounds_toArray, List.set_cons_zero, List.set_cons_succ, i64_w, i32_w]
              rfl
            refine done_ (done_of HT_.out (by kernel_rfl)) ?_
            try go_wp2
            go_ret
            exact ⟨_, by first | rfl | (simp [errW_none, errW_some] <;> rfl) | (simp [*, errW_none, errW_some] <;> rfl), by (with_reducible repeat (first | apply Kd.R_alloc | apply Kd.R_drewN | apply Kd.R_drew)); exact HO464.out, by repeat (first | (with_reducible first | exact HB.out | apply below_alloc | apply pw_below_drewN | apply below_drew1) | exact HB.out)⟩
          · rw [if_neg c32] at H
            exact absurd H (by simp)
        · rw [if_neg c27] at H
          exact absurd H (by simp)
      · rw [if_neg c26] at H
        exact absurd H (by simp)
end Go.Proofs.Ytacjdoekgmmfoaa.PL
end
section
namespace Go.Proofs.Ytacjdoekgmmfoaa.PL
open Go.RowKit Go.Proofs.YtacjdoekgmmfoaaW.PrintWords Go.Proofs.YtacjdoekgmmfoaaW.PrintLast Go.Proofs.YtacjdoekgmmfoaaW.PrintMore
attribute [local go_sem] max2_int min2_int max_two min_two max_three min_three max_four min_four   -- for this text's walks alone
set_option linter.unusedVariables false
set_option linter.unusedSimpArgs false
theorem eqA54 (d : Nat) (w : World) (x0 y0 : Int) (x1 y1 : Bool) :
    (Op.equalIn (d + 2) 54 (.agg #[.int .u64 x0, .bool x1]) (.agg #[.int .u64 y0, .bool y1])).run Try.prog w = .ok (x0 == y0 && (x1 == y1)) w := by
  refine eqA_of Try.underlying54 (by kernel_rfl) ?_
  refine eqf_cons (by rfl) (by go_simp; rfl) (by go_simp; rfl) (by go_simp) ?_
  exact eqf_last (by rfl) (by go_simp; rfl) (by go_simp; rfl) (by go_simp)
end Go.Proofs.Ytacjdoekgmmfoaa.PL
end
section
namespace Go.Proofs.Ytacjdoekgmmfoaa.PL
open Go.RowKit Go.Proofs.YtacjdoekgmmfoaaW.PrintWords Go.Proofs.YtacjdoekgmmfoaaW.PrintLast Go.Proofs.YtacjdoekgmmfoaaW.PrintMore
attribute [local go_sem] max2_int min2_int max_two min_two max_three min_three max_four min_four   -- for this text's walks alone
set_option linter.unusedVariables false
set_option linter.unusedSimpArgs false
attribute [local go_sem high] eqA54
def kimberliteref07_Extend.f (k : Nat) (l0 : List (List Int)) (a1 : Int) : Option (List Int × Int) := (kimberliteref07_List.f k l0).bind fun t465 => (if t465 = 0 then (if a1 < 1 then (some (([] : List Int), 2)) else (if a1 > (l0.length : Int) then (some (([] : List Int), 2)) else ((kimberliteref07_proof.f k l0 a1 true).bind fun t466 => (some (t466, 0))))) else (some (([] : List Int), t465)))
theorem kimberliteref07_Extend.mono : ∀ a0 a1 k, LeO (kimberliteref07_Extend.f k a0 a1) (kimberliteref07_Extend.f (k + 1) a0 a1) := by
  intro a0 a1 k
  unfold kimberliteref07_Extend.f
  repeat' first
      | (with_reducible exact kimberliteref07_List.mono _ _)
      | (with_reducible exact kimberliteref07_proof.mono _ _ _ _)
      | (with_reducible exact LeO.refl _)
      | (with_reducible exact LeO.none _)
      | (with_reducible refine LeO.ite ?_ ?_)
      | (with_reducible refine LeO.bind ?_ (fun _ => ?_))
      | exact kimberliteref07_List.mono _ _
      | exact kimberliteref07_proof.mono _ _ _ _
      | exact LeO.none _
      | refine LeO.ite ?_ ?_
      | refine LeO.bind ?_ (fun _ => ?_)
set_option maxHeartbeats 8000000 in
set_option maxRecDepth 100000 in
theorem kimberliteref07_Extend.calls (k : Nat) (A0 : Option Addr) (c0 : Nat) (l0 : List (List Int)) (a1 : Int) (r1 : List Int) (r2 : Int) (w : World) (hr0 : Kd.C (Kd.slice 5 (Kd.int .u8)) w A0 l0.length l0) (hc0 : l0.length ≤ c0) (h : kimberliteref07_Extend.f k l0 a1 = some (r1, r2)) :
    Calls Try.prog 39 #[.slice A0 l0.length c0, .int .i64 a1] w fun e w' => ∃ v0_ : Value, e = .returned (.tuple #[v0_, .int .i64 r2]) ∧ Kd.R (Kd.int .u64) 33 w' w.heap.size (fun _ => True) v0_ r1 ∧ Below w.heap.size w w' := by
  have HR0 := Aside0.mk hr0
  have HC0 := Aside0.mk hc0
  clear hr0 hc0
  have HB := Aside0.mk (Below.refl w.heap.size w)
  have H : ((kimberliteref07_List.f k l0).bind fun t465 => (if t465 = 0 then (if a1 < 1 then (some (([] : List Int), 2)) else (if a1 > (l0.length : Int) then (some (([] : List Int), 2)) else ((kimberliteref07_proof.f k l0 a1 true).bind fun t466 => (some (t466, 0))))) else (some (([] : List Int), t465)))) = some (r1, r2) := h
  clear h
  replace H := Option.bind_eq_some_iff.mp H
  obtain ⟨t465, A30, H⟩ := H
  replace H : (if t465 = 0 then (if a1 < 1 then (some (([] : List Int), 2)) else (if a1 > (l0.length : Int) then (some (([] : List Int), 2)) else ((kimberliteref07_proof.f k l0 a1 true).bind fun t466 => (some (t466, 0))))) else (some (([] : List Int), t465))) = some (r1, r2) := H
  have A3 := Aside0.mk A30
  clear A30
  by_cases c4 : t465 = 0
  · rw [if_pos c4] at H
    have c4b0 : (t465 == 0) = true := beq_iff_eq.mpr c4
    have c4b1 : (t465 != 0) = false := bne_eq_false_iff_eq.mpr c4
    clear c4
    by_cases c5 : a1 < 1
    · rw [if_pos c5] at H
      have c5b0 : decide (a1 < 1) = true := decide_eq_true c5
      clear c5
      simp only [Option.some.injEq, Prod.mk.injEq] at H
      obtain ⟨rfl, rfl⟩ := H
      go_enter Try.func39, Try.ntmps39
      go_wp2_with (first | ((with_reducible refine gate_callee (f := 65) rfl ?_); refine goesL_ (some 8) rfl rfl Try.func65 (by kernel_rfl) rfl #[.slice A0 l0.length c0] rfl (by (try simp only [List.map_toArray, List.map_cons, List.map_nil]); first | done | rfl | (simp only [List.length_drop, List.length_take]; rfl)) ?_; (with_reducible refine (kimberliteref07_List.calls k _ _ l0 t465 _ ?side1 ?side2 A3.out).mono ?_); (case side1 => repeat (first | exact HR0.out | (with_reducible refine Kd.C_alloc ?_ _) | (with_reducible refine Kd.C_drewN ?_ _) | (with_reducible refine Kd.C_drew ?_))); (case side2 => exact HC0.out); rintro e w' ⟨rfl, ⟨nd, rfl⟩⟩; refine ⟨_, rfl, ?_⟩))
      go_ret2
      exact ⟨_, by first | rfl | (simp [errW_none, errW_some] <;> rfl) | (simp [*, errW_none, errW_some] <;> rfl), by first | exact Kd.R_nil _ _ _ _ _ | exact Kd.N_nil _ _ _ _ _ | exact Kd.V_nil _ _ _ _ _ | exact Kd.Q_nil _ _ _ _ _ | exact Kd.S_nil _ _ _ _ _, by repeat (first | (with_reducible first | exact HB.out | apply below_alloc | apply pw_below_drewN | apply below_drew1) | exact HB.out)⟩
    · rw [if_neg c5] at H
      have c5b0 : decide (a1 < 1) = false := decide_eq_false c5
      clear c5
      by_cases c6 : a1 > (l0.length : Int)
      · rw [if_pos c6] at H
        have c6b0 : decide ((l0.length : Int) < a1) = true := decide_eq_true c6
        clear c6
        simp only [Option.some.injEq, Prod.mk.injEq] at H
        obtain ⟨rfl, rfl⟩ := H
        go_enter Try.func39, Try.ntmps39
        go_wp2_with (first | ((with_reducible refine gate_callee (f := 65) rfl ?_); refine goesL_ (some 8) rfl rfl Try.func65 (by kernel_rfl) rfl #[.slice A0 l0.length c0] rfl (by (try simp only [List.map_toArray, List.map_cons, List.map_nil]); first | done | rfl | (simp only [List.length_drop, List.length_take]; rfl)) ?_; (with_reducible refine (kimberliteref07_List.calls k _ _ l0 t465 _ ?side1 ?side2 A3.out).mono ?_); (case side1 => repeat (first | exact HR0.out | (with_reducible refine Kd.C_alloc ?_ _) | (with_reducible refine Kd.C_drewN ?_ _) | (with_reducible refine Kd.C_drew ?_))); (case side2 => exact HC0.out); rintro e w' ⟨rfl, ⟨nd, rfl⟩⟩; refine ⟨_, rfl, ?_⟩))
        go_ret2
        exact ⟨_, by first | rfl | (simp [errW_none, errW_some] <;> rfl) | (simp [*, errW_none, errW_some] <;> rfl), by first | exact Kd.R_nil _ _ _ _ _ | exact Kd.N_nil _ _ _ _ _ | exact Kd.V_nil _ _ _ _ _ | exact Kd.Q_nil _ _ _ _ _ | exact Kd.S_nil _ _ _ _ _, by repeat (first | (with_reducible first | exact HB.out | apply below_alloc | apply pw_below_drewN | apply below_drew1) | exact HB.out)⟩
      · rw [if_neg c6] at H
        have c6b0 : decide ((l0.length : Int) < a1) = false := decide_eq_false c6
        clear c6
        replace H := Option.bind_eq_some_iff.mp H
        obtain ⟨t466, A70, H⟩ := H
        replace H : (some (t466, 0)) = some (r1, r2) := H
        have A7 := Aside0.mk A70
        clear A70
        simp only [Option.some.injEq, Prod.mk.injEq] at H
        obtain ⟨rfl, rfl⟩ := H
        go_enter Try.func39, Try.ntmps39
        go_wp2_with (first | ((with_reducible refine gate_callee (f := 65) rfl ?_); refine goesL_ (some 8) rfl rfl Try.func65 (by kernel_rfl) rfl #[.slice A0 l0.length c0] rfl (by (try simp only [List.map_toArray, List.map_cons, List.map_nil]); first | done | rfl | (simp only [List.length_drop, List.length_take]; rfl)) ?_; (with_reducible refine (kimberliteref07_List.calls k _ _ l0 t465 _ ?side1 ?side2 A3.out).mono ?_); (case side1 => repeat (first | exact HR0.out | (with_reducible refine Kd.C_alloc ?_ _) | (with_reducible refine Kd.C_drewN ?_ _) | (with_reducible refine Kd.C_drew ?_))); (case side2 => exact HC0.out); rintro e w' ⟨rfl, ⟨nd, rfl⟩⟩; refine ⟨_, rfl, ?_⟩) | ((with_reducible refine gate_callee (f := 72) rfl ?_); refine goesL_ (some 22) rfl rfl Try.func72 (by kernel_rfl) rfl #[.slice A0 l0.length c0, .int .i64 a1, .bool true] rfl (by (try simp only [List.map_toArray, List.map_cons, List.map_nil]); first | done | rfl | (simp only [List.length_drop, List.length_take]; rfl)) ?_; (with_reducible refine (kimberliteref07_proof.calls k _ _ l0 a1 true t466 _ ?side1 ?side2 A7.out).mono ?_); (case side1 => repeat (first | exact HR0.out | (with_reducible refine Kd.C_alloc ?_ _) | (with_reducible refine Kd.C_drewN ?_ _) | (with_reducible refine Kd.C_drew ?_))); (case side2 => exact HC0.out); rintro e w8 ⟨v467, rfl, ho0, hb⟩; refine ⟨_, rfl, ?_⟩; have n0_ := Aside0.mk (Kd.R_lower ho0 (below_size (by repeat (first | (with_reducible first | exact HB.out | apply below_alloc | apply pw_below_drewN | apply below_drew1) | exact HB.out)))); have n1_ := Aside0.mk (below_step (by repeat (first | (with_reducible first | exact HB.out | apply below_alloc | apply pw_below_drewN | apply below_drew1) | exact HB.out)) hb); clear HB; have HO468 := n0_; have HB := n1_; clear n0_ n1_; (try clear hb); (try clear hb2); (try clear hk); (try clear hi); (try clear ho0)))
        go_ret2
        exact ⟨_, by first | rfl | (simp [errW_none, errW_some] <;> rfl) | (simp [*, errW_none, errW_some] <;> rfl), by (with_reducible repeat (first | apply Kd.R_alloc | apply Kd.R_drewN | apply Kd.R_drew)); exact HO468.out, by repeat (first | (with_reducible first | exact HB.out | apply below_alloc | apply pw_below_drewN | apply below_drew1) | exact HB.out)⟩
  · rw [if_neg c4] at H
    have c4b0 : (t465 == 0) = false := beq_eq_false_iff_ne.mpr c4
    have c4b1 : (t465 != 0) = true := bne_iff_ne.mpr c4
    simp only [Option.some.injEq, Prod.mk.injEq] at H
    obtain ⟨rfl, rfl⟩ := H
    go_enter Try.func39, Try.ntmps39
    go_wp2_with (first | ((with_reducible refine gate_callee (f := 65) rfl ?_); refine goesL_ (some 8) rfl rfl Try.func65 (by kernel_rfl) rfl #[.slice A0 l0.length c0] rfl (by (try simp only [List.map_toArray, List.map_cons, List.map_nil]); first | done | rfl | (simp only [List.length_drop, List.length_take]; rfl)) ?_; (with_reducible refine (kimberliteref07_List.calls k _ _ l0 t465 _ ?side1 ?side2 A3.out).mono ?_); (case side1 => repeat (first | exact HR0.out | (with_reducible refine Kd.C_alloc ?_ _) | (with_reducible refine Kd.C_drewN ?_ _) | (with_reducible refine Kd.C_drew ?_))); (case side2 => exact HC0.out); rintro e w' ⟨rfl, ⟨nd, rfl⟩⟩; refine ⟨_, rfl, ?_⟩))
    go_ret2
    exact ⟨_, by first | rfl | (simp [errW_none, errW_some] <;> rfl) | (simp [*, errW_none, errW_some] <;> rfl), by first | exact Kd.R_nil _ _ _ _ _ | exact Kd.N_nil _ _ _ _ _ | exact Kd.V_nil _ _ _ _ _ | exact Kd.Q_nil _ _ _ _ _ | exact Kd.S_nil _ _ _ _ _, by repeat (first | (with_reducible first | exact HB.out | apply below_alloc | apply pw_below_drewN | apply below_drew1) | exact HB.out)⟩
def kimberlitelaw07_steps.l0 : Nat → List (S54) → List (S54) → Int → Option (Bool)
  | 0, _, _, _ => none
  | k + 1, x0, x1, x5 => if x5 < (x0.length : Int) then (if 0 ≤ x5 then (if x5 < (x1.length : Int) then (if (!(((rd_T54 x0 x5).f0) == ((rd_T54 x1 x5).f0)) || (!(((rd_T54 x0 x5).f1) == ((rd_T54 x1 x5).f1)))) = true then (some false) else (kimberlitelaw07_steps.l0 k x0 x1 (wrap64 (x5 + 1)))) else (none)) else (none)) else (some true)
def kimberlitelaw07_steps.f (k : Nat) (l0 : List (S54)) (l1 : List (S54)) : Option (Bool) := if (l0.length : Int) = (l1.length : Int) then (kimberlitelaw07_steps.l0 k l0 l1 0) else (some false)
theorem kimberlitelaw07_steps.mono_l : ∀ k, (∀ y0 y1 y2, LeO (kimberlitelaw07_steps.l0 k y0 y1 y2) (kimberlitelaw07_steps.l0 (k + 1) y0 y1 y2))
  | 0 => fun _ _ _ r h => by simp [kimberlitelaw07_steps.l0] at h
  | k + 1 => by
    have ih0 := kimberlitelaw07_steps.mono_l k
    · intro y0 y1 y2
      unfold kimberlitelaw07_steps.l0
      repeat' first
      | (with_reducible exact ih0 _ _ _)
      | (with_reducible exact LeO.refl _)
      | (with_reducible exact LeO.none _)
      | (with_reducible refine LeO.ite ?_ ?_)
      | (with_reducible refine LeO.bind ?_ (fun _ => ?_))
      | exact ih0 _ _ _
      | exact LeO.none _
      | refine LeO.ite ?_ ?_
      | refine LeO.bind ?_ (fun _ => ?_)
theorem kimberlitelaw07_steps.mono : ∀ a0 a1 k, LeO (kimberlitelaw07_steps.f k a0 a1) (kimberlitelaw07_steps.f (k + 1) a0 a1) := by
  intro a0 a1 k
  have ih0 := kimberlitelaw07_steps.mono_l k
  unfold kimberlitelaw07_steps.f
  repeat' first
      | (with_reducible exact ih0 _ _ _)
      | (with_reducible exact LeO.refl _)
      | (with_reducible exact LeO.none _)
      | (with_reducible refine LeO.ite ?_ ?_)
      | (with_reducible refine LeO.bind ?_ (fun _ => ?_))
      | exact ih0 _ _ _
      | exact LeO.none _
      | refine LeO.ite ?_ ?_
      | refine LeO.bind ?_ (fun _ => ?_)
set_option maxHeartbeats 8000000 in
set_option maxRecDepth 100000 in
theorem kimberlitelaw07_steps.calls (k : Nat) (A0 : Option Addr) (c0 : Nat) (l0 : List (S54)) (A1 : Option Addr) (c1 : Nat) (l1 : List (S54)) (r : Bool) (w : World) (hr0 : Kd.C k54 w A0 l0.length l0) (hc0 : l0.length ≤ c0) (hr1 : Kd.C k54 w A1 l1.length l1) (hc1 : l1.length ≤ c1) (h : kimberlitelaw07_steps.f k l0 l1 = some r) :
    Calls Try.prog 40 #[.slice A0 l0.length c0, .slice A1 l1.length c1] w fun e w' => e = .returned (.bool r) ∧ Drawn0 w w' := by
  have hu54 := Try.underlying54
  have HR0 := Aside0.mk hr0
  have HC0 := Aside0.mk hc0
  clear hr0 hc0
  have HR1 := Aside0.mk hr1
  have HC1 := Aside0.mk hc1
  clear hr1 hc1
  have H : (if (l0.length : Int) = (l1.length : Int) then (kimberlitelaw07_steps.l0 k l0 l1 0) else (some false)) = some r := h
  clear h
  by_cases c3 : (l0.length : Int) = (l1.length : Int)
  · rw [if_pos c3] at H
    have c3b0 : ((l0.length : Int) == (l1.length : Int)) = true := beq_iff_eq.mpr c3
    have c3b1 : ((l0.length : Int) != (l1.length : Int)) = false := bne_eq_false_iff_eq.mpr c3
    have c3b2 : (l0.length == l1.length) = true := by first | simpa using c3 | (simp at c3 ⊢; omega)
    clear c3
    have H' := Aside0.mk H
    clear H
    go_enter Try.func40, Try.ntmps40
    go_wp2
    repeat (go_quiet (fail); try go_wp2)
    go_loopg [5] k (fun kq v5 w' => ∃ (x5_1 : Int), v5 = .int .i64 x5_1 ∧ Aside0 (kimberlitelaw07_steps.l0 kq l0 l1 x5_1 = some r) ∧ Aside0 (kq ≤ k) ∧ Drawn0 w w')
    case atStart => exact ⟨(0), (by first | rfl | (simp; done) | (simp [*]; done)), H', ⟨Nat.le_refl _⟩, by repeat (first | exact Drawn0.refl _ | apply Drawn0.step)⟩
    case round =>
      clear H'
      try clear c1
      try clear p2
      try clear c3
      try clear c3b0
      try clear c3b1
      try clear c3b2
      obtain ⟨x5_1, rfl, HA, HK1, ⟨m1, rfl⟩⟩ := hrel
      cases gk with
      | zero => exact absurd HA.out (by simp [kimberlitelaw07_steps.l0])
      | succ k1 =>
        have H := HA.out
        clear HA
        simp only [kimberlitelaw07_steps.l0] at H
        by_cases c4 : x5_1 < (l0.length : Int)
        · rw [if_pos c4] at H
          have c4b0 : decide (x5_1 < (l0.length : Int)) = true := decide_eq_true c4
          clear c4
          by_cases c5 : 0 ≤ x5_1
          · rw [if_pos c5] at H
            have c5b0 : decide (0 ≤ x5_1) = true := decide_eq_true c5
            clear c5
            by_cases c6 : x5_1 < (l1.length : Int)
            · rw [if_pos c6] at H
              have c6b0 : decide (x5_1 < (l1.length : Int)) = true := decide_eq_true c6
              clear c6
              by_cases c7 : (!(((rd_T54 l0 x5_1).f0) == ((rd_T54 l1 x5_1).f0)) || (!(((rd_T54 l0 x5_1).f1) == ((rd_T54 l1 x5_1).f1)))) = true
              · rw [if_pos c7] at H
                have c7b0 : (!(((rd_T54 l0 x5_1).f0) == ((rd_T54 l1 x5_1).f0)) || (!(((rd_T54 l0 x5_1).f1) == ((rd_T54 l1 x5_1).f1)))) = true := c7
                clear c7
                obtain rfl := Option.some.inj H
                have p469 : 0 ≤ (x5_1 : Int) := of_decide_eq_true (by first | (with_reducible assumption) | assumption)
                have q469 : x5_1 < (l0.length : Int) := of_decide_eq_true (by first | (with_reducible assumption) | assumption)
                obtain ⟨ad469, e469, hx469_0, hx469_1⟩ := at_T54 HR0.out x5_1 p469 q469
                cases e469
                replace p469 := eq_true p469
                replace q469 := eq_true q469
                have p470 : 0 ≤ (x5_1 : Int) := of_decide_eq_true (by first | (with_reducible assumption) | assumption)
                have q470 : x5_1 < (l1.length : Int) := of_decide_eq_true (by first | (with_reducible assumption) | assumption)
                obtain ⟨ad470, e470, hx470_0, hx470_1⟩ := at_T54 HR1.out x5_1 p470 q470
                cases e470
                replace p470 := eq_true p470
                replace q470 := eq_true q470
                go_wp2
                repeat (go_quiet (fail); try go_wp2)
                go_ret
                exact ⟨by first | rfl | (simp; done) | (simp [*]; done), by repeat (first | exact Drawn0.refl _ | apply Drawn0.step)⟩
              · rw [if_neg c7] at H
                have c7b0 : (!(((rd_T54 l0 x5_1).f0) == ((rd_T54 l1 x5_1).f0)) || (!(((rd_T54 l0 x5_1).f1) == ((rd_T54 l1 x5_1).f1)))) = false := by simpa using c7
                clear c7
                have H' := Aside0.mk H
                clear H
                have p469 : 0 ≤ (x5_1 : Int) := of_decide_eq_true (by first | (with_reducible assumption) | assumption)
                have q469 : x5_1 < (l0.length : Int) := of_decide_eq_true (by first | (with_reducible assumption) | assumption)
                obtain ⟨ad469, e469, hx469_0, hx469_1⟩ := at_T54 HR0.out x5_1 p469 q469
                cases e469
                replace p469 := eq_true p469
                replace q469 := eq_true q469
                have p470 : 0 ≤ (x5_1 : Int) := of_decide_eq_true (by first | (with_reducible assumption) | assumption)
                have q470 : x5_1 < (l1.length : Int) := of_decide_eq_true (by first | (with_reducible assumption) | assumption)
                obtain ⟨ad470, e470, hx470_0, hx470_1⟩ := at_T54 HR1.out x5_1 p470 q470
                cases e470
                replace p470 := eq_true p470
                replace q470 := eq_true q470
                go_wp2
                repeat (go_quiet (fail); try go_wp2)
                go_roundg k1
                case measure => have := HK1.out; omega
                case rel => exact ⟨(wrap64 (x5_1 + 1)), (by first | rfl | (simp; done) | (simp [*]; done)), H', ⟨by have := HK1.out; omega⟩, by repeat (first | exact Drawn0.refl _ | apply Drawn0.step)⟩
            · rw [if_neg c6] at H
              exact absurd H (by simp)
          · rw [if_neg c5] at H
            exact absurd H (by simp)
        · rw [if_neg c4] at H
          have c4b0 : decide (x5_1 < (l0.length : Int)) = false := decide_eq_false c4
          clear c4
          obtain rfl := Option.some.inj H
          go_wp2
          repeat (go_quiet (fail); try go_wp2)
          go_ret
          exact ⟨by first | rfl | (simp; done) | (simp [*]; done), by repeat (first | exact Drawn0.refl _ | apply Drawn0.step)⟩
  · rw [if_neg c3] at H
    have c3b0 : ((l0.length : Int) == (l1.length : Int)) = false := beq_eq_false_iff_ne.mpr c3
    have c3b1 : ((l0.length : Int) != (l1.length : Int)) = true := bne_iff_ne.mpr c3
    have c3b2 : (l0.length == l1.length) = false := by first | simpa using c3 | (simp at c3 ⊢; omega)
    obtain rfl := Option.some.inj H
    go_enter Try.func40, Try.ntmps40
    go_wp2
    repeat (go_quiet (fail); try go_wp2)
    go_ret
    exact ⟨by first | rfl | (simp; done) | (simp [*]; done), by repeat (first | exact Drawn0.refl _ | apply Drawn0.step)⟩
end Go.Proofs.Ytacjdoekgmmfoaa.PL
end
section
namespace Go.Proofs.Ytacjdoekgmmfoaa.PL
open Go.RowKit Go.Proofs.YtacjdoekgmmfoaaW.PrintWords Go.Proofs.YtacjdoekgmmfoaaW.PrintLast Go.Proofs.YtacjdoekgmmfoaaW.PrintMore
attribute [local go_sem] max2_int min2_int max_two min_two max_three min_three max_four min_four   -- for this text's walks alone
set_option linter.unusedVariables false
set_option linter.unusedSimpArgs false
def kimberlitelaw07_hashes.l0 : Nat → List Int → List Int → Int → Option (Bool)
  | 0, _, _, _ => none
  | k + 1, x0, x1, x5 => if x5 < (x0.length : Int) then (if 0 ≤ x5 then (if x5 < (x1.length : Int) then (if (rd x0 x5) = (rd x1 x5) then (kimberlitelaw07_hashes.l0 k x0 x1 (wrap64 (x5 + 1))) else (some false)) else (none)) else (none)) else (some true)
def kimberlitelaw07_hashes.f (k : Nat) (l0 : List Int) (l1 : List Int) : Option (Bool) := if (l0.length : Int) = (l1.length : Int) then (kimberlitelaw07_hashes.l0 k l0 l1 0) else (some false)
theorem kimberlitelaw07_hashes.mono_l : ∀ k, (∀ y0 y1 y2, LeO (kimberlitelaw07_hashes.l0 k y0 y1 y2) (kimberlitelaw07_hashes.l0 (k + 1) y0 y1 y2))
  | 0 => fun _ _ _ r h => by simp [kimberlitelaw07_hashes.l0] at h
  | k + 1 => by
    have ih0 := kimberlitelaw07_hashes.mono_l k
    · intro y0 y1 y2
      unfold kimberlitelaw07_hashes.l0
      repeat' first
      | (with_reducible exact ih0 _ _ _)
      | (with_reducible exact LeO.refl _)
      | (with_reducible exact LeO.none _)
      | (with_reducible refine LeO.ite ?_ ?_)
      | (with_reducible refine LeO.bind ?_ (fun _ => ?_))
      | exact ih0 _ _ _
      | exact LeO.none _
      | refine LeO.ite ?_ ?_
      | refine LeO.bind ?_ (fun _ => ?_)
theorem kimberlitelaw07_hashes.mono : ∀ a0 a1 k, LeO (kimberlitelaw07_hashes.f k a0 a1) (kimberlitelaw07_hashes.f (k + 1) a0 a1) := by
  intro a0 a1 k
  have ih0 := kimberlitelaw07_hashes.mono_l k
  unfold kimberlitelaw07_hashes.f
  repeat' first
      | (with_reducible exact ih0 _ _ _)
      | (with_reducible exact LeO.refl _)
      | (with_reducible exact LeO.none _)
      | (with_reducible refine LeO.ite ?_ ?_)
      | (with_reducible refine LeO.bind ?_ (fun _ => ?_))
      | exact ih0 _ _ _
      | exact LeO.none _
      | refine LeO.ite ?_ ?_
      | refine LeO.bind ?_ (fun _ => ?_)
set_option maxHeartbeats 8000000 in
set_option maxRecDepth 100000 in
theorem kimberlitelaw07_hashes.calls (k : Nat) (A0 : Option Addr) (c0 : Nat) (l0 : List Int) (A1 : Option Addr) (c1 : Nat) (l1 : List Int) (r : Bool) (w : World) (hr0 : Kd.C (Kd.int .u64) w A0 l0.length l0) (hc0 : l0.length ≤ c0) (hr1 : Kd.C (Kd.int .u64) w A1 l1.length l1) (hc1 : l1.length ≤ c1) (h : kimberlitelaw07_hashes.f k l0 l1 = some r) :
    Calls Try.prog 42 #[.slice A0 l0.length c0, .slice A1 l1.length c1] w fun e w' => e = .returned (.bool r) ∧ Drawn0 w w' := by
  have HR0 := Aside0.mk hr0
  have HC0 := Aside0.mk hc0
  clear hr0 hc0
  have HR1 := Aside0.mk hr1
  have HC1 := Aside0.mk hc1
  clear hr1 hc1
  have H : (if (l0.length : Int) = (l1.length : Int) then (kimberlitelaw07_hashes.l0 k l0 l1 0) else (some false)) = some r := h
  clear h
  by_cases c3 : (l0.length : Int) = (l1.length : Int)
  · rw [if_pos c3] at H
    have c3b0 : ((l0.length : Int) == (l1.length : Int)) = true := beq_iff_eq.mpr c3
    have c3b1 : ((l0.length : Int) != (l1.length : Int)) = false := bne_eq_false_iff_eq.mpr c3
    have c3b2 : (l0.length == l1.length) = true := by first | simpa using c3 | (simp at c3 ⊢; omega)
    clear c3
    have H' := Aside0.mk H
    clear H
    go_enter Try.func42, Try.ntmps42
    go_wp2
    repeat (go_quiet (fail); try go_wp2)
    go_loopg [5] k (fun kq v5 w' => ∃ (x5_1 : Int), v5 = .int .i64 x5_1 ∧ Aside0 (kimberlitelaw07_hashes.l0 kq l0 l1 x5_1 = some r) ∧ Aside0 (kq ≤ k) ∧ Drawn0 w w')
    case atStart => exact ⟨(0), (by first | rfl | (simp; done) | (simp [*]; done)), H', ⟨Nat.le_refl _⟩, by repeat (first | exact Drawn0.refl _ | apply Drawn0.step)⟩
    case round =>
      clear H'
      try clear c1
      try clear p2
      try clear c3
      try clear c3b0
      try clear c3b1
      try clear c3b2
      obtain ⟨x5_1, rfl, HA, HK1, ⟨m1, rfl⟩⟩ := hrel
      cases gk with
      | zero => exact absurd HA.out (by simp [kimberlitelaw07_hashes.l0])
      | succ k1 =>
        have H := HA.out
        clear HA
        simp only [kimberlitelaw07_hashes.l0] at H
        by_cases c4 : x5_1 < (l0.length : Int)
        · rw [if_pos c4] at H
          have c4b0 : decide (x5_1 < (l0.length : Int)) = true := decide_eq_true c4
          clear c4
          by_cases c5 : 0 ≤ x5_1
          · rw [if_pos c5] at H
            have c5b0 : decide (0 ≤ x5_1) = true := decide_eq_true c5
            clear c5
            by_cases c6 : x5_1 < (l1.length : Int)
            · rw [if_pos c6] at H
              have c6b0 : decide (x5_1 < (l1.length : Int)) = true := decide_eq_true c6
              clear c6
              by_cases c7 : (rd l0 x5_1) = (rd l1 x5_1)
              · rw [if_pos c7] at H
                have c7b0 : ((rd l0 x5_1) == (rd l1 x5_1)) = true := beq_iff_eq.mpr c7
                have c7b1 : ((rd l0 x5_1) != (rd l1 x5_1)) = false := bne_eq_false_iff_eq.mpr c7
                clear c7
                have H' := Aside0.mk H
                clear H
                have p501 : 0 ≤ (x5_1 : Int) := of_decide_eq_true (by first | (with_reducible assumption) | assumption)
                have q501 : x5_1 < (l0.length : Int) := of_decide_eq_true (by first | (with_reducible assumption) | assumption)
                obtain ⟨ad501, e501, hx501_0⟩ := Kd.at_int HR0.out x5_1 p501 q501
                cases e501
                replace p501 := eq_true p501
                replace q501 := eq_true q501
                have p502 : 0 ≤ (x5_1 : Int) := of_decide_eq_true (by first | (with_reducible assumption) | assumption)
                have q502 : x5_1 < (l1.length : Int) := of_decide_eq_true (by first | (with_reducible assumption) | assumption)
                obtain ⟨ad502, e502, hx502_0⟩ := Kd.at_int HR1.out x5_1 p502 q502
                cases e502
                replace p502 := eq_true p502
                replace q502 := eq_true q502
                go_wp2
                repeat (go_quiet (fail); try go_wp2)
                go_roundg k1
                case measure => have := HK1.out; omega
                case rel => exact ⟨(wrap64 (x5_1 + 1)), (by first | rfl | (simp; done) | (simp [*]; done)), H', ⟨by have := HK1.out; omega⟩, by repeat (first | exact Drawn0.refl _ | apply Drawn0.step)⟩
              · rw [if_neg c7] at H
                have c7b0 : ((rd l0 x5_1) == (rd l1 x5_1)) = false := beq_eq_false_iff_ne.mpr c7
                have c7b1 : ((rd l0 x5_1) != (rd l1 x5_1)) = true := bne_iff_ne.mpr c7
                obtain rfl := Option.some.inj H
                have p501 : 0 ≤ (x5_1 : Int) := of_decide_eq_true (by first | (with_reducible assumption) | assumption)
                have q501 : x5_1 < (l0.length : Int) := of_decide_eq_true (by first | (with_reducible assumption) | assumption)
                obtain ⟨ad501, e501, hx501_0⟩ := Kd.at_int HR0.out x5_1 p501 q501
                cases e501
                replace p501 := eq_true p501
                replace q501 := eq_true q501
                have p502 : 0 ≤ (x5_1 : Int) := of_decide_eq_true (by first | (with_reducible assumption) | assumption)
                have q502 : x5_1 < (l1.length : Int) := of_decide_eq_true (by first | (with_reducible assumption) | assumption)
                obtain ⟨ad502, e502, hx502_0⟩ := Kd.at_int HR1.out x5_1 p502 q502
                cases e502
                replace p502 := eq_true p502
                replace q502 := eq_true q502
                go_wp2
                repeat (go_quiet (fail); try go_wp2)
                go_ret
                exact ⟨by first | rfl | (simp; done) | (simp [*]; done), by repeat (first | exact Drawn0.refl _ | apply Drawn0.step)⟩
            · rw [if_neg c6] at H
              exact absurd H (by simp)
          · rw [if_neg c5] at H
            exact absurd H (by simp)
        · rw [if_neg c4] at H
          have c4b0 : decide (x5_1 < (l0.length : Int)) = false := decide_eq_false c4
          clear c4
          obtain rfl := Option.some.inj H
          go_wp2
          repeat (go_quiet (fail); try go_wp2)
          go_ret
          exact ⟨by first | rfl | (simp; done) | (simp [*]; done), by repeat (first | exact Drawn0.refl _ | apply Drawn0.step)⟩
  · rw [if_neg c3] at H
    have c3b0 : ((l0.length : Int) == (l1.length : Int)) = false := beq_eq_false_iff_ne.mpr c3
    have c3b1 : ((l0.length : Int) != (l1.length : Int)) = true := bne_iff_ne.mpr c3
    have c3b2 : (l0.length == l1.length) = false := by first | simpa using c3 | (simp at c3 ⊢; omega)
    obtain rfl := Option.some.inj H
    go_enter Try.func42, Try.ntmps42
    go_wp2
    repeat (go_quiet (fail); try go_wp2)
    go_ret
    exact ⟨by first | rfl | (simp; done) | (simp [*]; done), by repeat (first | exact Drawn0.refl _ | apply Drawn0.step)⟩
end Go.Proofs.Ytacjdoekgmmfoaa.PL
end
section
namespace Go.Proofs.Ytacjdoekgmmfoaa.PL
open Go.RowKit Go.Proofs.YtacjdoekgmmfoaaW.PrintWords Go.Proofs.YtacjdoekgmmfoaaW.PrintLast Go.Proofs.YtacjdoekgmmfoaaW.PrintMore
set_option linter.unusedVariables false
set_option linter.unusedSimpArgs false
theorem ev_kimberliteref07_way : ∀ (n : Nat) (l : List (List Int)) (i : Nat), l.length ≤ n → l.length < 1000000 → i < l.length → (∀ x ∈ l, x.length < 100000000000000) → Ev (fun k => kimberliteref07_way.f k l (i : Int)) (wayS (l.map leafS) i)
  | 0, l, i, h, _, hi, _ => by omega
  | n + 1, l, i, h, hb, hi, hx => by
    rw [wayS]
    rw [List.length_map]
    by_cases c : l.length < 2
    · rw [dif_pos c]
      exact Ev.here fun k => by simp only [kimberliteref07_way.f]; rw [if_pos (by omega)]
    · rw [dif_neg c]
      have hl := half_lt l.length (by omega)
      refine Ev.step (fun k => by simp only [kimberliteref07_way.f]; rw [if_neg (by omega)]) (Ev.bind (ev_half l.length (by omega) (by omega)) ?_)
      by_cases c2 : i < half l.length
      · have h1 := ev_kimberliteref07_way n (l.take (half l.length)) i (by rw [List.length_take]; omega) (by rw [List.length_take]; omega) (by rw [List.length_take]; omega) (fun x hm => hx x (List.mem_of_mem_take hm))
        have h2 := ev_Top _ (l.drop (half l.length)) (Nat.le_refl _) (by rw [List.length_drop]; omega) (fun x hm => hx x (List.mem_of_mem_drop hm))
        rw [List.map_take] at h1
        rw [List.map_drop] at h2
        have hs := way_small ((l.map leafS).take (half l.length)) i (by rw [List.length_take, List.length_map]; omega)
        simp only [if_pos c2, if_pos (show (i : Int) < ((half l.length : Nat) : Int) by omega), if_pos (show (0 : Int) ≤ ((half l.length : Nat) : Int) by omega), if_pos (show ((half l.length : Nat) : Int) ≤ (l.length : Int) by omega), Int.toNat_natCast]
        refine Ev.bind h1 (Ev.bind h2 ?_)
        simp only [if_pos (show (wayS ((l.map leafS).take (half l.length)) i).length < 8796093022208 by omega)]
        exact Ev.now _
      · have h1 := ev_kimberliteref07_way n (l.drop (half l.length)) (i - half l.length) (by rw [List.length_drop]; omega) (by rw [List.length_drop]; omega) (by rw [List.length_drop]; omega) (fun x hm => hx x (List.mem_of_mem_drop hm))
        have h2 := ev_Top _ (l.take (half l.length)) (Nat.le_refl _) (by rw [List.length_take]; omega) (fun x hm => hx x (List.mem_of_mem_take hm))
        rw [List.map_drop] at h1
        rw [List.map_take] at h2
        have hs := way_small ((l.map leafS).drop (half l.length)) (i - half l.length) (by rw [List.length_drop, List.length_map]; omega)
        simp only [if_neg c2, if_neg (show ¬ (i : Int) < ((half l.length : Nat) : Int) by omega), if_pos (show (0 : Int) ≤ ((half l.length : Nat) : Int) by omega), if_pos (show ((half l.length : Nat) : Int) ≤ (l.length : Int) by omega), Int.toNat_natCast, show wrap64 ((i : Int) - ((half l.length : Nat) : Int)) = ((i - half l.length : Nat) : Int) by unfold wrap64; omega]
        refine Ev.bind h1 (Ev.bind h2 ?_)
        simp only [if_pos (show (wayS ((l.map leafS).drop (half l.length)) (i - half l.length)).length < 8796093022208 by omega)]
        exact Ev.now _
theorem ev_kimberliteref07_proof : ∀ (n : Nat) (l : List (List Int)) (m : Nat) (wh : Bool), l.length ≤ n → l.length < 1000000 → 1 ≤ m → m ≤ l.length → (∀ x ∈ l, x.length < 100000000000000) → Ev (fun k => kimberliteref07_proof.f k l (m : Int) wh) (extS (l.map leafS) m wh)
  | 0, l, m, wh, h, _, h1, h2, _ => by omega
  | n + 1, l, m, wh, h, hb, hm1, hm2, hx => by
    rw [extS]
    rw [List.length_map]
    by_cases c : m = l.length
    · rw [dif_pos (by omega)]
      cases wh with
      | true => exact Ev.here fun k => by simp only [kimberliteref07_proof.f]; rw [if_pos (by omega), if_pos trivial]; rfl
      | false =>
        refine Ev.step (fun k => by simp only [kimberliteref07_proof.f]; rw [if_pos (by omega), if_neg (by decide)]) (Ev.bind (ev_Top _ l (Nat.le_refl _) (by omega) hx) ?_)
        rw [if_neg (by decide)]
        exact Ev.now _
    · rw [dif_neg (by omega)]
      have hl := half_lt l.length (by omega)
      refine Ev.step (fun k => by simp only [kimberliteref07_proof.f]; rw [if_neg (by omega)]) (Ev.bind (ev_half l.length (by omega) (by omega)) ?_)
      by_cases c2 : m ≤ half l.length
      · have h1 := ev_kimberliteref07_proof n (l.take (half l.length)) m wh (by rw [List.length_take]; omega) (by rw [List.length_take]; omega) (by omega) (by rw [List.length_take]; omega) (fun x hm => hx x (List.mem_of_mem_take hm))
        have h2 := ev_Top _ (l.drop (half l.length)) (Nat.le_refl _) (by rw [List.length_drop]; omega) (fun x hm => hx x (List.mem_of_mem_drop hm))
        rw [List.map_take] at h1
        rw [List.map_drop] at h2
        have hs := ext_small ((l.map leafS).take (half l.length)) m wh (by rw [List.length_take, List.length_map]; omega)
        simp only [if_pos c2, if_pos (show (m : Int) ≤ ((half l.length : Nat) : Int) by omega), if_pos (show (0 : Int) ≤ ((half l.length : Nat) : Int) by omega), if_pos (show ((half l.length : Nat) : Int) ≤ (l.length : Int) by omega), Int.toNat_natCast]
        refine Ev.bind h1 (Ev.bind h2 ?_)
        simp only [if_pos (show (extS ((l.map leafS).take (half l.length)) m wh).length < 17592186044416 by omega)]
        exact Ev.now _
      · have h1 := ev_kimberliteref07_proof n (l.drop (half l.length)) (m - half l.length) false (by rw [List.length_drop]; omega) (by rw [List.length_drop]; omega) (by omega) (by rw [List.length_drop]; omega) (fun x hm => hx x (List.mem_of_mem_drop hm))
        have h2 := ev_Top _ (l.take (half l.length)) (Nat.le_refl _) (by rw [List.length_take]; omega) (fun x hm => hx x (List.mem_of_mem_take hm))
        rw [List.map_drop] at h1
        rw [List.map_take] at h2
        have hs := ext_small ((l.map leafS).drop (half l.length)) (m - half l.length) false (by rw [List.length_drop, List.length_map]; omega)
        simp only [if_neg c2, if_neg (show ¬ (m : Int) ≤ ((half l.length : Nat) : Int) by omega), if_pos (show (0 : Int) ≤ ((half l.length : Nat) : Int) by omega), if_pos (show ((half l.length : Nat) : Int) ≤ (l.length : Int) by omega), Int.toNat_natCast, show wrap64 ((m : Int) - ((half l.length : Nat) : Int)) = ((m - half l.length : Nat) : Int) by unfold wrap64; omega]
        refine Ev.bind h1 (Ev.bind h2 ?_)
        simp only [if_pos (show (extS ((l.map leafS).drop (half l.length)) (m - half l.length) false).length < 17592186044416 by omega)]
        exact Ev.now _
theorem ev_rInclude (l : List (List Int)) (i : Int) : Ev (fun k => kimberliteref07_Include.f k l i) (incS l i) := by
  unfold kimberliteref07_Include.f incS
  refine Ev.bind (ev_List l) ?_
  by_cases e : listE l = 0
  · have hz := listE_zero.1 e
    simp only [e, if_true]
    by_cases c1 : i < 0
    · simp only [if_pos c1, if_neg (show ¬ (0 ≤ i ∧ i < (l.length : Int)) by omega)]; exact Ev.now _
    · by_cases c2 : i ≥ (l.length : Int)
      · simp only [if_neg c1, if_pos c2, if_neg (show ¬ (0 ≤ i ∧ i < (l.length : Int)) by omega)]; exact Ev.now _
      · simp only [if_neg c1, if_neg c2, if_pos (show (0 ≤ i ∧ i < (l.length : Int)) by omega)]
        have h := ev_kimberliteref07_way l.length l i.toNat (by omega) (by omega) (by omega) (fun x hx => by have := hz.2 x hx; omega)
        rw [show ((i.toNat : Nat) : Int) = i by omega] at h
        exact Ev.bind h (Ev.now _)
  · simp only [if_neg e]; exact Ev.now _
theorem ev_rExtend (l : List (List Int)) (m : Int) : Ev (fun k => kimberliteref07_Extend.f k l m) (exS l m) := by
  unfold kimberliteref07_Extend.f exS
  refine Ev.bind (ev_List l) ?_
  by_cases e : listE l = 0
  · have hz := listE_zero.1 e
    simp only [e, if_true]
    by_cases c1 : m < 1
    · simp only [if_pos c1, if_neg (show ¬ (1 ≤ m ∧ m ≤ (l.length : Int)) by omega)]; exact Ev.now _
    · by_cases c2 : m > (l.length : Int)
      · simp only [if_neg c1, if_pos c2, if_neg (show ¬ (1 ≤ m ∧ m ≤ (l.length : Int)) by omega)]; exact Ev.now _
      · simp only [if_neg c1, if_neg c2, if_pos (show (1 ≤ m ∧ m ≤ (l.length : Int)) by omega)]
        have h := ev_kimberliteref07_proof l.length l m.toNat true (by omega) (by omega) (by omega) (by omega) (fun x hx => by have := hz.2 x hx; omega)
        rw [show ((m.toNat : Nat) : Int) = m by omega] at h
        exact Ev.bind h (Ev.now _)
  · simp only [if_neg e]; exact Ev.now _
theorem ev_steps (a : List S54) (hn : a.length < 1000000) : Ev (fun k => kimberlitelaw07_steps.f k a a) true := by
  have h : ∀ (d i : Nat), i + d = a.length → Ev (fun k => kimberlitelaw07_steps.l0 k a a (i : Int)) true := by
    intro d
    induction d with
    | zero => intro i hi; exact Ev.here fun k => by simp only [kimberlitelaw07_steps.l0]; rw [if_neg (by omega)]
    | succ d ih =>
      intro i hi
      refine Ev.step (fun k => ?_) (ih (i + 1) (by omega))
      simp only [kimberlitelaw07_steps.l0]
      rw [if_pos (by omega), if_pos (by omega), if_pos (by omega), if_neg (by simp), w64 i (by omega)]
  unfold kimberlitelaw07_steps.f
  simp only [if_true]
  exact h a.length 0 (by omega)
theorem ev_hashes (a : List Int) (hn : a.length < 1000000) : Ev (fun k => kimberlitelaw07_hashes.f k a a) true := by
  have h : ∀ (d i : Nat), i + d = a.length → Ev (fun k => kimberlitelaw07_hashes.l0 k a a (i : Int)) true := by
    intro d
    induction d with
    | zero => intro i hi; exact Ev.here fun k => by simp only [kimberlitelaw07_hashes.l0]; rw [if_neg (by omega)]
    | succ d ih =>
      intro i hi
      refine Ev.step (fun k => ?_) (ih (i + 1) (by omega))
      simp only [kimberlitelaw07_hashes.l0]
      rw [if_pos (by omega), if_pos (by omega), if_pos (by omega), if_pos trivial, w64 i (by omega)]
  unfold kimberlitelaw07_hashes.f
  simp only [if_true]
  exact h a.length 0 (by omega)
end Go.Proofs.Ytacjdoekgmmfoaa.PL
end
