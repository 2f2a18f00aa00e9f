/-
  The texts that the theorem in YtfnlghjkjmppdaaZRowLk rests on, merged (part 4); only what it reaches.
-/
import Derived.Test.YtfnlghjkjmppdaaZLk1
import Derived.Test.YtfnlghjkjmppdaaZLk2
section
namespace Go.Proofs.Ytfnlghjkjmppdaa.PC
open Go.RowKit Go.Proofs.YtfnlghjkjmppdaaW.PrintWords Go.Proofs.YtfnlghjkjmppdaaW.PrintLast Go.Proofs.YtfnlghjkjmppdaaW.PrintMore
set_option linter.unusedVariables false
set_option linter.unusedSimpArgs false
theorem Chg.set {F : Nat → Prop} {w W : World} (h : Chg F w W) {p : Addr} (hp : w.heap.size ≤ p.block ∨ F p.block) (u : Value) : Chg F w (W.setCell p u) :=
  ⟨h.os, h.tape, h.output, by simpa using h.size, fun k hk hn => by
    rw [Below.heap_setCell _ _ _ _ (fun e => by rcases hp with q | q; omega; exact hn (by rw [e]; exact q))]; exact h.block k hk hn⟩
theorem Chg.grown {F : Nat → Prop} {w W W' : World} (h : Chg F w W) {row : Option Nat} (hg : W.grownBy W' row) (hr : ∀ k, row = some k → w.heap.size ≤ k ∨ F k) : Chg F w W' :=
  ⟨hg.os.trans h.os, hg.tape.trans h.tape, hg.output.trans h.output, Nat.le_trans h.size hg.size, fun k hk hn => by
    rw [hg.block k (Nat.lt_of_lt_of_le hk h.size) (fun e => by rcases hr k e.symm with q | q; omega; exact hn q)]; exact h.block k hk hn⟩
theorem BO.set {base g : Nat} {F : Nat → Prop} {w : World} {day : Int} {G : List S39} {E : List S44} {AG AE : Option Addr} {cG cE : Nat} (h : BO base F w g day AG cG G AE cE E) {p : Addr} (hp : ¬ F p.block) (u : Value) : BO base F (w.setCell p u) g day AG cG G AE cE E :=
  ⟨blk_far h.hb (fun e => hp (by rw [← e]; exact h.fg)) u, Kd.R_far h.rG (fun k q e => hp (by rw [← e]; exact q)) u, Kd.R_far h.rE (fun k q e => hp (by rw [← e]; exact q)) u, h.fg, fun k q => ⟨(h.fb k q).1, by have := (h.fb k q).2; simpa using this⟩⟩
def gcells (x : S39) : List Value := [.int .i64 x.f0, .int .i64 x.f1, .int .i64 x.f2, .int .i64 x.f3, .int .i64 x.f4, .int .i64 x.f5, .int .i64 x.f6, .int .i64 x.f7, .bool x.f8]
def newG (G : List S39) (x : S39) : S39 := { x with f0 := (G.length : Int) + 1, f2 := if x.f1 = 0 then (G.length : Int) + 1 else x.f2 }
def More (F : Nat → Prop) (w w' : World) : Nat → Prop := fun k => F k ∨ (w.heap.size ≤ k ∧ k < w'.heap.size)
theorem BO.app {base g : Nat} {F : Nat → Prop} {w W W1 : World} {day : Int} {G G1 : List S39} {E : List S44} {AG AE A1 : Option Addr} {cG cE c1 : Nat} (hw : ∀ k, F k → k < w.heap.size) (h : BO base F W g day AG cG G AE cE E) (hz : w.heap.size ≤ W.heap.size) (hwb : base ≤ w.heap.size)
    (h1 : Kd.R k39 39 W1 base (fun k => F k ∨ w.heap.size ≤ k) (.slice A1 G1.length c1) G1) (hg : W.grownBy W1 (Value.slice AG G.length cG).ownBlock) (hE : (Value.slice AG G.length cG).ownBlock = none ∨ (Value.slice AG G.length cG).ownBlock ≠ (Value.slice AE E.length cE).ownBlock) :
    BK base (fun k => F k ∨ (w.heap.size ≤ k ∧ k < W1.heap.size)) (W1.setCell ⟨g, 2, none⟩ (.slice A1 G1.length c1)) g day G1 E := by
  have hgn : some g ≠ (Value.slice AG G.length cG).ownBlock := Kd.R_ne h.rG h.hb (by decide)
  have hb1 := blk_grown h.hb hg hgn
  have hgw := hw g h.fg
  have hlt : ∀ k, (fun k => F k ∨ (w.heap.size ≤ k ∧ k < W1.heap.size)) k → base ≤ k ∧ k < (W1.setCell ⟨g, 2, none⟩ (.slice A1 G1.length c1)).heap.size := by
    intro k q
    have hs : (W1.setCell ⟨g, 2, none⟩ (.slice A1 G1.length c1)).heap.size = W1.heap.size := by simp
    rw [hs]
    rcases q with q | q
    · have := h.fb k q; have := hg.size; omega
    · omega
  refine ⟨⟨.slice A1 G1.length c1, .slice AE E.length cE, ?_, ?_, ?_⟩, Or.inl h.fg, hlt⟩
  · have := blk_put hb1 2 (.slice A1 G1.length c1) rfl
    simpa using this
  · have h2 := Kd.R_bound h1
    have h3 := Kd.R_types h1 hb1 (by decide)
    refine Kd.R_mono (Kd.R_far (Kd.R_bound h3) (p := ⟨g, 2, none⟩) (fun k q => q.1.2) _) (fun k q => ?_)
    rcases q.1.1 with r | r
    · exact Or.inl r
    · exact Or.inr ⟨r, q.2.2.1⟩
  · have hEg : Kd.R k44 44 W1 base F (.slice AE E.length cE) E := by
      rcases hE with hE | hE
      · exact Kd.R_grown h.rE hg (fun k _ => by rw [hE]; simp)
      · exact Kd.R_mono (Kd.R_grown (Kd.R_tight rfl h.rE) hg (fun k q => by rw [q]; exact fun e => hE e.symm)) (fun k q => h.rE.1 k q.symm)
    exact Kd.R_mono (Kd.R_far (Kd.R_types hEg hb1 (by decide)) (p := ⟨g, 2, none⟩) (fun k q => q.2) _) (fun k q => Or.inl q.1)
set_option maxHeartbeats 6400000 in
set_option maxRecDepth 100000 in
theorem add_calls (base g : Nat) (F : Nat → Prop) (w : World) (day : Int) (G : List S39) (E : List S44) (x : S39) (h : BK base F w g day G E) (hlt : G.length < 128) :
    Calls Try.prog 44 #[.pointer (some ⟨g, 0, none⟩), .agg #[.int .i64 x.f0, .int .i64 x.f1, .int .i64 x.f2, .int .i64 x.f3, .int .i64 x.f4, .int .i64 x.f5, .int .i64 x.f6, .int .i64 x.f7, .bool x.f8]] w fun e w' =>
      e = .returned (.int .i64 ((G.length : Int) + 1)) ∧ BK base (More F w w') w' g day (G ++ [newG G x]) E ∧ Chg F w w' := by
  have hu70 := Try.underlying70
  have hu39 := Try.underlying39
  obtain ⟨AG, cG, AE, cE, ho⟩ := h.opn
  have hwF := lhid (fun k q => (ho.fb k q).2)
  have hwb := lhid h.size
  have hcG := lhid ho.cap.1
  have hEE := lhid (own_type_ne (Kd.R_own ho.rG).choose_spec (Kd.R_own ho.rE).choose_spec (by decide))
  have hd : decide ((G.length : Int) ≥ 128) = false := decide_eq_false (by omega)
  clear h
  have HO_1 := lhid (ho)
  clear ho
  have HB_2 := lhid (Below.refl w.heap.size w)
  go_enter Try.func44, Try.ntmps44
  have hc2 := HO_1.out.c2
  go_upto_region 1 with (fail)
  clear hc2
  have hb := below_alloc (Below.refl w.heap.size w) (.cells #[.int .i64 x.f0, .int .i64 x.f1, .int .i64 x.f2, .int .i64 x.f3, .int .i64 x.f4, .int .i64 x.f5, .int .i64 x.f6, .int .i64 x.f7, .bool x.f8] 39)
  have hn := blk_new w (.cells #[.int .i64 x.f0, .int .i64 x.f1, .int .i64 x.f2, .int .i64 x.f3, .int .i64 x.f4, .int .i64 x.f5, .int .i64 x.f6, .int .i64 x.f7, .bool x.f8] 39)
  have HZ1 := lhid (show (World.alloc w (.cells #[.int .i64 x.f0, .int .i64 x.f1, .int .i64 x.f2, .int .i64 x.f3, .int .i64 x.f4, .int .i64 x.f5, .int .i64 x.f6, .int .i64 x.f7, .bool x.f8] 39)).heap.size = w.heap.size + 1 from by simp)
  generalize hq : World.alloc w (.cells #[.int .i64 x.f0, .int .i64 x.f1, .int .i64 x.f2, .int .i64 x.f3, .int .i64 x.f4, .int .i64 x.f5, .int .i64 x.f6, .int .i64 x.f7, .bool x.f8] 39) = w1 at hb hn HZ1 ⊢
  clear hq
  have HO_3 := lhid (HO_1.out.next hb)
  have HB_4 := lhid (below_then HB_2.out HB_2.out.size hb)
  clear HO_1 HB_2 hb
  have HN := lhid hn
  clear hn
  have hc2 := HO_3.out.c2
  have hb0 := blk_cell HN.out 0
  have hb1 := blk_cell HN.out 1
  have hb2 := blk_cell HN.out 2
  have hb3 := blk_cell HN.out 3
  have hb4 := blk_cell HN.out 4
  have hb5 := blk_cell HN.out 5
  have hb6 := blk_cell HN.out 6
  have hb7 := blk_cell HN.out 7
  have hb8 := blk_cell HN.out 8
  simp only [List.getElem?_toArray, List.getElem?_cons_zero, List.getElem?_cons_succ] at hb0 hb1 hb2 hb3 hb4 hb5 hb6 hb7 hb8
  have hf0 := blk_frozen HN.out 0
  have hf2 := blk_frozen HN.out 2
  have hgr : (0 : Int) ≤ (G.length : Int) + 1 := by omega
  have hgs : (G.length : Int) < 128 := by omega
  go_wp2_with fail
  with_reducible refine (refuse_no _ 8).mono ?_
  rintro e w' ⟨rfl, rfl⟩
  have hnF := lhid (show ¬ F w.heap.size from fun q => by have := hwF.out _ q; omega)
  by_cases hz : x.f1 = 0
  · have hzb : (x.f1 == 0) = true := beq_iff_eq.mpr hz
    go_upto_region 5 with (fail)
    clear hb0 hb1 hb2 hb3 hb4 hb5 hb6 hb7 hb8 hf0 hf2 hc2
    have HN2 := lhid (show ((w1.setCell ⟨w.heap.size, 0, none⟩ (.int .i64 ((G.length : Int) + 1))).setCell ⟨w.heap.size, 2, none⟩ (.int .i64 ((G.length : Int) + 1))).heap[w.heap.size]? = some (.cells #[.int .i64 (newG G x).f0, .int .i64 (newG G x).f1, .int .i64 (newG G x).f2, .int .i64 (newG G x).f3, .int .i64 (newG G x).f4, .int .i64 (newG G x).f5, .int .i64 (newG G x).f6, .int .i64 (newG G x).f7, .bool (newG G x).f8] 39 (0, 0)) from by have := blk_put (blk_put HN.out 0 (.int .i64 ((G.length : Int) + 1)) rfl) 2 (.int .i64 ((G.length : Int) + 1)) rfl; simpa [newG, hz] using this)
    have HO2 := lhid ((HO_3.out.set (p := ⟨w.heap.size, 0, none⟩) hnF.out (.int .i64 ((G.length : Int) + 1))).set (p := ⟨w.heap.size, 2, none⟩) hnF.out (.int .i64 ((G.length : Int) + 1)))
    have HB2 := lhid ((HB_4.out.setCell (p := ⟨w.heap.size, 0, none⟩) (Nat.le_refl _) (.int .i64 ((G.length : Int) + 1))).setCell (p := ⟨w.heap.size, 2, none⟩) (Nat.le_refl _) (.int .i64 ((G.length : Int) + 1)))
    generalize (World.setCell w1 ⟨w.heap.size, 0, none⟩ (.int .i64 ((G.length : Int) + 1))).setCell ⟨w.heap.size, 2, none⟩ (.int .i64 ((G.length : Int) + 1)) = w2 at HN2 HO2 HB2 ⊢
    have hnf : (newG G x).f0 = (G.length : Int) + 1 := rfl
    have HNF := lhid hnf
    clear hnf hz hzb
    obtain ⟨y, hy⟩ : ∃ y, y = newG G x := ⟨_, rfl⟩
    rw [← hy] at HN2 HNF
    have HY := lhid hy
    clear hy
    have hb := below_drew1 (Below.refl w2.heap.size w2)
    have HN_5 := lhid (blk_below HN2.out hb)
    have HO_6 := lhid (HO2.out.next hb)
    have HB_7 := lhid (below_then HB2.out HB2.out.size hb)
    clear HN2 HO2 HB2 hb
    refine start_ (n := 11) (S := fun w' => w'.cell? ⟨g, 2, none⟩ = some (.slice AG G.length cG) ∧ w'.cell? ⟨w.heap.size, 0, none⟩ = some (.int .i64 y.f0) ∧ w'.cell? ⟨w.heap.size, 1, none⟩ = some (.int .i64 y.f1) ∧ w'.cell? ⟨w.heap.size, 2, none⟩ = some (.int .i64 y.f2) ∧ w'.cell? ⟨w.heap.size, 3, none⟩ = some (.int .i64 y.f3) ∧ w'.cell? ⟨w.heap.size, 4, none⟩ = some (.int .i64 y.f4) ∧ w'.cell? ⟨w.heap.size, 5, none⟩ = some (.int .i64 y.f5) ∧ w'.cell? ⟨w.heap.size, 6, none⟩ = some (.int .i64 y.f6) ∧ w'.cell? ⟨w.heap.size, 7, none⟩ = some (.int .i64 y.f7) ∧ w'.cell? ⟨w.heap.size, 8, none⟩ = some (.bool y.f8)) (ds := [7, 10]) #[false, false, false, false, false, false, false, false, false, false, false] (by kernel_rfl) rfl rfl ⟨HO_6.out.c2, ((blk_cell HN_5.out 0).trans rfl), ((blk_cell HN_5.out 1).trans rfl), ((blk_cell HN_5.out 2).trans rfl), ((blk_cell HN_5.out 3).trans rfl), ((blk_cell HN_5.out 4).trans rfl), ((blk_cell HN_5.out 5).trans rfl), ((blk_cell HN_5.out 6).trans rfl), ((blk_cell HN_5.out 7).trans rfl), ((blk_cell HN_5.out 8).trans rfl)⟩ (fun hHeld => ?_)
    generalize w2.drew = w3 at HN_5 HO_6 HB_7 hHeld ⊢
    refine pure_ (i := 0) (N := some 25) (v := ?_) (a' := ?_) #[true, false, false, false, false, false, false, false, false, false, false] rfl rfl (by kernel_rfl) (fun _ _ _ h => h) (Or.inl ⟨by rfl, ?_⟩) ?_ ?_
    rotate_left
    · intro w'
      go_simp
      with_reducible rfl
    rotate_left
    · simp only [Act.put, List.setIfInBounds_toArray, List.set_cons_zero, List.set_cons_succ, i64_w, i32_w]
      rfl
    refine pure_ (i := 1) (N := some 26) (v := ?_) (a' := ?_) #[true, true, false, false, false, false, false, false, false, false, false] rfl rfl (by kernel_rfl) (fun _ _ _ h => h) (Or.inl ⟨by rfl, ?_⟩) ?_ ?_
    rotate_left
    · intro w'
      go_simp
      with_reducible rfl
    rotate_left
    · simp only [Act.put, List.setIfInBounds_toArray, List.set_cons_zero, List.set_cons_succ, i64_w, i32_w]
      rfl
    refine pure_ (i := 2) (N := some 27) (v := ?_) (a' := ?_) #[true, true, true, false, false, false, false, false, false, false, false] rfl rfl (by kernel_rfl) (fun _ _ _ h => h) (Or.inl ⟨by rfl, ?_⟩) ?_ ?_
    rotate_left
    · intro w'
      go_simp
      with_reducible rfl
    rotate_left
    · simp only [Act.put, List.setIfInBounds_toArray, List.set_cons_zero, List.set_cons_succ, i64_w, i32_w]
      rfl
    refine pure_ (i := 3) (N := some 28) (v := ?_) (a' := ?_) #[true, true, true, true, false, false, false, false, false, false, false] rfl rfl (by kernel_rfl) (fun _ _ _ h => h) (Or.inl ⟨by rfl, ?_⟩) ?_ ?_
    rotate_left
    · intro w'
      go_simp
      with_reducible rfl
    rotate_left
    · simp only [Act.put, List.setIfInBounds_toArray, List.set_cons_zero, List.set_cons_succ, i64_w, i32_w]
      rfl
    refine take_ (i := 4) (N := some 29) (v := ?_) (a' := ?_) #[true, true, true, true, true, false, false, false, false, false, false] rfl rfl (by kernel_rfl) (fun _ _ _ h => h) (Or.inl ⟨by rfl, ?_⟩) hHeld ?_ ?_
    rotate_left
    · rintro w' ⟨s0, s1, s2, s3, s4, s5, s6, s7, s8, s9⟩
      go_simp
      with_reducible rfl
    rotate_left
    · simp only [Act.put, List.setIfInBounds_toArray, List.set_cons_zero, List.set_cons_succ, i64_w, i32_w]
      rfl
    refine take_ (i := 5) (N := some 30) (v := ?_) (a' := ?_) #[true, true, true, true, true, true, false, false, false, false, false] rfl rfl (by kernel_rfl) (fun _ _ _ h => h) (Or.inl ⟨by rfl, ?_⟩) hHeld ?_ ?_
    rotate_left
    · rintro w' ⟨s0, s1, s2, s3, s4, s5, s6, s7, s8, s9⟩
      go_simp
      with_reducible rfl
    rotate_left
    · simp only [Act.put, List.setIfInBounds_toArray, List.set_cons_zero, List.set_cons_succ, i64_w, i32_w]
      rfl
    refine one_ (i := 6) (N := some 31) #[true, true, true, true, true, true, true, false, false, false, false] rfl rfl (by kernel_rfl) (by decide) (fun K hK => ?_)
    refine value_ (w1 := ?_) (v := ?_) (by rfl) rfl ?_ ?_
    rotate_left 2
    · go_simp
      constructor
      · rfl
      · rfl
    refine hK.out _ _ ⟨(pw_cell_below (below_alloc (Below.refl _ _) _) HO_6.out.c2), (pw_cell_below (below_alloc (Below.refl _ _) _) ((blk_cell HN_5.out 0).trans rfl)), (pw_cell_below (below_alloc (Below.refl _ _) _) ((blk_cell HN_5.out 1).trans rfl)), (pw_cell_below (below_alloc (Below.refl _ _) _) ((blk_cell HN_5.out 2).trans rfl)), (pw_cell_below (below_alloc (Below.refl _ _) _) ((blk_cell HN_5.out 3).trans rfl)), (pw_cell_below (below_alloc (Below.refl _ _) _) ((blk_cell HN_5.out 4).trans rfl)), (pw_cell_below (below_alloc (Below.refl _ _) _) ((blk_cell HN_5.out 5).trans rfl)), (pw_cell_below (below_alloc (Below.refl _ _) _) ((blk_cell HN_5.out 6).trans rfl)), (pw_cell_below (below_alloc (Below.refl _ _) _) ((blk_cell HN_5.out 7).trans rfl)), (pw_cell_below (below_alloc (Below.refl _ _) _) ((blk_cell HN_5.out 8).trans rfl))⟩ (fun hHeld => ?_)
    clear hK K
    refine norm_ (a' := ?_) ?_ ?_
    rotate_left
    · show Act.put _ (some 31) _ = _
      simp only [Act.put, List.setIfInBounds_toArray, List.set_cons_zero, List.set_cons_succ, i64_w, i32_w]
      rfl
    refine last_ (i := 7) (N := some 32) #[true, true, true, true, true, true, true, true, false, false, false] rfl rfl (by kernel_rfl) (by decide) (fun K hK => ?_)
    refine Kd.R_append_step k39 (w0 := w) base (by rfl) (.tmp 29) (.tmp 31) 33 39 (.agg #[(.int .i64 0), (.int .i64 0), (.int .i64 0), (.int .i64 0), (.int .i64 0), (.int .i64 0), (.int .i64 0), (.int .i64 0), (.bool false)]) 72 rfl Try.underlying33 info39 rfl (by decide) (by omega) (.slice AG G.length cG) G y [.int .i64 y.f0, .int .i64 y.f1, .int .i64 y.f2, .int .i64 y.f3, .int .i64 y.f4, .int .i64 y.f5, .int .i64 y.f6, .int .i64 y.f7, .bool y.f8] (fun q => F q ∨ w.heap.size ≤ q) (fun _ => False) rfl rfl ?aP7 (fun _ hk => hk.elim) ?aF7 ?aO7 ?aB7 ?aS7 ?aL7 ?_
    (case aP7 => exact k39_mkM _ _ _ y)
    (case aF7 => exact fun q hq => Or.inr (Nat.le_trans HB_7.out.size hq))
    (case aO7 => exact Kd.R_mono HO_6.out.rG (fun q hq => Or.inl hq))
    (case aB7 => exact HB_7.out.mono hwb.out)
    (case aS7 => exact Nat.le_trans hwb.out HB_7.out.size)
    (case aL7 => omega)
    intro v4 w4 ho4 hb4 hg4 hat4
    obtain ⟨A4, c4, rfl⟩ := Kd.R_slice ho4
    have HO4 := lhid ho4
    have HG4 := lhid hg4
    clear ho4 hb4 hg4 hat4
    refine hK.out _ _ ?_
    clear hK K
    refine norm_ (a' := ?_) ?_ ?_
    rotate_left
    · show Act.put _ (some 32) _ = _
      simp only [Act.put, List.setIfInBounds_toArray, List.set_cons_zero, List.set_cons_succ, i64_w, i32_w]
      rfl
    refine pure_ (i := 8) (N := some 33) (v := ?_) (a' := ?_) #[true, true, true, true, true, true, true, true, true, false, false] rfl rfl (by kernel_rfl) (fun _ _ _ h => h) (Or.inl ⟨by rfl, ?_⟩) ?_ ?_
    rotate_left
    · intro w'
      go_simp
      with_reducible rfl
    rotate_left
    · simp only [Act.put, List.setIfInBounds_toArray, List.set_cons_zero, List.set_cons_succ, i64_w, i32_w]
      rfl
    refine pure_ (i := 9) (N := some 34) (v := ?_) (a' := ?_) #[true, true, true, true, true, true, true, true, true, true, false] rfl rfl (by kernel_rfl) (fun _ _ _ h => h) (Or.inl ⟨by rfl, ?_⟩) ?_ ?_
    rotate_left
    · intro w'
      go_simp
      with_reducible rfl
    rotate_left
    · simp only [Act.put, List.setIfInBounds_toArray, List.set_cons_zero, List.set_cons_succ, i64_w, i32_w]
      rfl
    refine last_ (i := 10) (N := none) #[true, true, true, true, true, true, true, true, true, true, true] rfl rfl (by kernel_rfl) (by decide) (fun K hK => ?_)
    have hbk := blk_grown HO_6.out.hb HG4.out (Kd.R_ne HO_6.out.rG HO_6.out.hb (by decide))
    have hk2 : w4.cell? ⟨g, 2, none⟩ = some (.slice AG G.length cG) := (blk_cell hbk 2).trans rfl
    have hf2 := blk_frozen hbk 2
    clear hbk
    refine skip_ (w1 := ?_) (by rfl) rfl ?_ ?_
    rotate_left
    · go_simp
      rfl
    refine hK.out _ _ ?_
    clear hK K
    refine done_ (by kernel_rfl) ?_
    
    have hlen : (G ++ [y]).length = G.length + 1 := by simp
    have hBA := BO.app hwF.out HO_6.out HB_7.out.size hwb.out HO4.out HG4.out (own_type_ne (Kd.R_own HO_6.out.rG).choose_spec (Kd.R_own HO_6.out.rE).choose_spec (by decide))
    rw [hlen] at hBA
    have HBA := lhid hBA
    have HN6 := lhid (show (w4.setCell ⟨g, 2, none⟩ (.slice A4 (G.length + 1) c4)).heap[w.heap.size]? = _ from blk_far (blk_grown HN_5.out HG4.out (fun e => hnF.out (HO_6.out.rG.1 _ e.symm))) (fun e => hnF.out (by rw [e]; exact HO_6.out.fg)) _)
    have HC6 := lhid (show Chg F w (w4.setCell ⟨g, 2, none⟩ (.slice A4 (G.length + 1) c4)) from ((Chg.of_below HB_7.out).grown HG4.out (fun q hq => Or.inr (HO_6.out.rG.1 q hq))).set (Or.inr HO_6.out.fg) _)
    have hsz6 : (w4.setCell ⟨g, 2, none⟩ (.slice A4 (G.length + 1) c4)).heap.size = w4.heap.size := by simp
    have HS6 := lhid hsz6
    clear hBA hlen hsz6
    generalize World.setCell w4 ⟨g, 2, none⟩ (.slice A4 (G.length + 1) c4) = w6 at HBA HN6 HC6 HS6 ⊢
    have hb0 := (blk_cell HN6.out 0).trans rfl
    rw [HNF.out] at hb0
    go_wp2_with fail
    go_ret
    refine ⟨rfl, ?_, HC6.out⟩
    unfold More
    rw [HS6.out]
    have hba := HBA.out
    rw [HY.out] at hba
    exact hba
  · have hzb : (x.f1 == 0) = false := beq_eq_false_iff_ne.mpr hz
    go_upto_region 5 with (fail)
    clear hb0 hb1 hb2 hb3 hb4 hb5 hb6 hb7 hb8 hf0 hf2 hc2
    have HN2 := lhid (show (w1.setCell ⟨w.heap.size, 0, none⟩ (.int .i64 ((G.length : Int) + 1))).heap[w.heap.size]? = some (.cells #[.int .i64 (newG G x).f0, .int .i64 (newG G x).f1, .int .i64 (newG G x).f2, .int .i64 (newG G x).f3, .int .i64 (newG G x).f4, .int .i64 (newG G x).f5, .int .i64 (newG G x).f6, .int .i64 (newG G x).f7, .bool (newG G x).f8] 39 (0, 0)) from by have := blk_put HN.out 0 (.int .i64 ((G.length : Int) + 1)) rfl; simpa [newG, hz] using this)
    have HO2 := lhid (HO_3.out.set (p := ⟨w.heap.size, 0, none⟩) hnF.out (.int .i64 ((G.length : Int) + 1)))
    have HB2 := lhid (HB_4.out.setCell (p := ⟨w.heap.size, 0, none⟩) (Nat.le_refl _) (.int .i64 ((G.length : Int) + 1)))
    generalize World.setCell w1 ⟨w.heap.size, 0, none⟩ (.int .i64 ((G.length : Int) + 1)) = w2 at HN2 HO2 HB2 ⊢
    have hnf : (newG G x).f0 = (G.length : Int) + 1 := rfl
    have HNF := lhid hnf
    clear hnf hz hzb
    obtain ⟨y, hy⟩ : ∃ y, y = newG G x := ⟨_, rfl⟩
    rw [← hy] at HN2 HNF
    have HY := lhid hy
    clear hy
    have hb := below_drew1 (Below.refl w2.heap.size w2)
    have HN_8 := lhid (blk_below HN2.out hb)
    have HO_9 := lhid (HO2.out.next hb)
    have HB_10 := lhid (below_then HB2.out HB2.out.size hb)
    clear HN2 HO2 HB2 hb
    refine start_ (n := 11) (S := fun w' => w'.cell? ⟨g, 2, none⟩ = some (.slice AG G.length cG) ∧ w'.cell? ⟨w.heap.size, 0, none⟩ = some (.int .i64 y.f0) ∧ w'.cell? ⟨w.heap.size, 1, none⟩ = some (.int .i64 y.f1) ∧ w'.cell? ⟨w.heap.size, 2, none⟩ = some (.int .i64 y.f2) ∧ w'.cell? ⟨w.heap.size, 3, none⟩ = some (.int .i64 y.f3) ∧ w'.cell? ⟨w.heap.size, 4, none⟩ = some (.int .i64 y.f4) ∧ w'.cell? ⟨w.heap.size, 5, none⟩ = some (.int .i64 y.f5) ∧ w'.cell? ⟨w.heap.size, 6, none⟩ = some (.int .i64 y.f6) ∧ w'.cell? ⟨w.heap.size, 7, none⟩ = some (.int .i64 y.f7) ∧ w'.cell? ⟨w.heap.size, 8, none⟩ = some (.bool y.f8)) (ds := [7, 10]) #[false, false, false, false, false, false, false, false, false, false, false] (by kernel_rfl) rfl rfl ⟨HO_9.out.c2, ((blk_cell HN_8.out 0).trans rfl), ((blk_cell HN_8.out 1).trans rfl), ((blk_cell HN_8.out 2).trans rfl), ((blk_cell HN_8.out 3).trans rfl), ((blk_cell HN_8.out 4).trans rfl), ((blk_cell HN_8.out 5).trans rfl), ((blk_cell HN_8.out 6).trans rfl), ((blk_cell HN_8.out 7).trans rfl), ((blk_cell HN_8.out 8).trans rfl)⟩ (fun hHeld => ?_)
    generalize w2.drew = w3 at HN_8 HO_9 HB_10 hHeld ⊢
    refine pure_ (i := 0) (N := some 25) (v := ?_) (a' := ?_) #[true, false, false, false, false, false, false, false, false, false, false] rfl rfl (by kernel_rfl) (fun _ _ _ h => h) (Or.inl ⟨by rfl, ?_⟩) ?_ ?_
    rotate_left
    · intro w'
      go_simp
      with_reducible rfl
    rotate_left
    · simp only [Act.put, List.setIfInBounds_toArray, List.set_cons_zero, List.set_cons_succ, i64_w, i32_w]
      rfl
    refine pure_ (i := 1) (N := some 26) (v := ?_) (a' := ?_) #[true, true, false, false, false, false, false, false, false, false, false] rfl rfl (by kernel_rfl) (fun _ _ _ h => h) (Or.inl ⟨by rfl, ?_⟩) ?_ ?_
    rotate_left
    · intro w'
      go_simp
      with_reducible rfl
    rotate_left
    · simp only [Act.put, List.setIfInBounds_toArray, List.set_cons_zero, List.set_cons_succ, i64_w, i32_w]
      rfl
    refine pure_ (i := 2) (N := some 27) (v := ?_) (a' := ?_) #[true, true, true, false, false, false, false, false, false, false, false] rfl rfl (by kernel_rfl) (fun _ _ _ h => h) (Or.inl ⟨by rfl, ?_⟩) ?_ ?_
    rotate_left
    · intro w'
      go_simp
      with_reducible rfl
    rotate_left
    · simp only [Act.put, List.setIfInBounds_toArray, List.set_cons_zero, List.set_cons_succ, i64_w, i32_w]
      rfl
    refine pure_ (i := 3) (N := some 28) (v := ?_) (a' := ?_) #[true, true, true, true, false, false, false, false, false, false, false] rfl rfl (by kernel_rfl) (fun _ _ _ h => h) (Or.inl ⟨by rfl, ?_⟩) ?_ ?_
    rotate_left
    · intro w'
      go_simp
      with_reducible rfl
    rotate_left
    · simp only [Act.put, List.setIfInBounds_toArray, List.set_cons_zero, List.set_cons_succ, i64_w, i32_w]
      rfl
    refine take_ (i := 4) (N := some 29) (v := ?_) (a' := ?_) #[true, true, true, true, true, false, false, false, false, false, false] rfl rfl (by kernel_rfl) (fun _ _ _ h => h) (Or.inl ⟨by rfl, ?_⟩) hHeld ?_ ?_
    rotate_left
    · rintro w' ⟨s0, s1, s2, s3, s4, s5, s6, s7, s8, s9⟩
      go_simp
      with_reducible rfl
    rotate_left
    · simp only [Act.put, List.setIfInBounds_toArray, List.set_cons_zero, List.set_cons_succ, i64_w, i32_w]
      rfl
    refine take_ (i := 5) (N := some 30) (v := ?_) (a' := ?_) #[true, true, true, true, true, true, false, false, false, false, false] rfl rfl (by kernel_rfl) (fun _ _ _ h => h) (Or.inl ⟨by rfl, ?_⟩) hHeld ?_ ?_
    rotate_left
    · rintro w' ⟨s0, s1, s2, s3, s4, s5, s6, s7, s8, s9⟩
      go_simp
      with_reducible rfl
    rotate_left
    · simp only [Act.put, List.setIfInBounds_toArray, List.set_cons_zero, List.set_cons_succ, i64_w, i32_w]
      rfl
    refine one_ (i := 6) (N := some 31) #[true, true, true, true, true, true, true, false, false, false, false] rfl rfl (by kernel_rfl) (by decide) (fun K hK => ?_)
    refine value_ (w1 := ?_) (v := ?_) (by rfl) rfl ?_ ?_
    rotate_left 2
    · go_simp
      constructor
      · rfl
      · rfl
    refine hK.out _ _ ⟨(pw_cell_below (below_alloc (Below.refl _ _) _) HO_9.out.c2), (pw_cell_below (below_alloc (Below.refl _ _) _) ((blk_cell HN_8.out 0).trans rfl)), (pw_cell_below (below_alloc (Below.refl _ _) _) ((blk_cell HN_8.out 1).trans rfl)), (pw_cell_below (below_alloc (Below.refl _ _) _) ((blk_cell HN_8.out 2).trans rfl)), (pw_cell_below (below_alloc (Below.refl _ _) _) ((blk_cell HN_8.out 3).trans rfl)), (pw_cell_below (below_alloc (Below.refl _ _) _) ((blk_cell HN_8.out 4).trans rfl)), (pw_cell_below (below_alloc (Below.refl _ _) _) ((blk_cell HN_8.out 5).trans rfl)), (pw_cell_below (below_alloc (Below.refl _ _) _) ((blk_cell HN_8.out 6).trans rfl)), (pw_cell_below (below_alloc (Below.refl _ _) _) ((blk_cell HN_8.out 7).trans rfl)), (pw_cell_below (below_alloc (Below.refl _ _) _) ((blk_cell HN_8.out 8).trans rfl))⟩ (fun hHeld => ?_)
    clear hK K
    refine norm_ (a' := ?_) ?_ ?_
    rotate_left
    · show Act.put _ (some 31) _ = _
      simp only [Act.put, List.setIfInBounds_toArray, List.set_cons_zero, List.set_cons_succ, i64_w, i32_w]
      rfl
    refine last_ (i := 7) (N := some 32) #[true, true, true, true, true, true, true, true, false, false, false] rfl rfl (by kernel_rfl) (by decide) (fun K hK => ?_)
    refine Kd.R_append_step k39 (w0 := w) base (by rfl) (.tmp 29) (.tmp 31) 33 39 (.agg #[(.int .i64 0), (.int .i64 0), (.int .i64 0), (.int .i64 0), (.int .i64 0), (.int .i64 0), (.int .i64 0), (.int .i64 0), (.bool false)]) 72 rfl Try.underlying33 info39 rfl (by decide) (by omega) (.slice AG G.length cG) G y [.int .i64 y.f0, .int .i64 y.f1, .int .i64 y.f2, .int .i64 y.f3, .int .i64 y.f4, .int .i64 y.f5, .int .i64 y.f6, .int .i64 y.f7, .bool y.f8] (fun q => F q ∨ w.heap.size ≤ q) (fun _ => False) rfl rfl ?aP7 (fun _ hk => hk.elim) ?aF7 ?aO7 ?aB7 ?aS7 ?aL7 ?_
    (case aP7 => exact k39_mkM _ _ _ y)
    (case aF7 => exact fun q hq => Or.inr (Nat.le_trans HB_10.out.size hq))
    (case aO7 => exact Kd.R_mono HO_9.out.rG (fun q hq => Or.inl hq))
    (case aB7 => exact HB_10.out.mono hwb.out)
    (case aS7 => exact Nat.le_trans hwb.out HB_10.out.size)
    (case aL7 => omega)
    intro v4 w4 ho4 hb4 hg4 hat4
    obtain ⟨A4, c4, rfl⟩ := Kd.R_slice ho4
    have HO4 := lhid ho4
    have HG4 := lhid hg4
    clear ho4 hb4 hg4 hat4
    refine hK.out _ _ ?_
    clear hK K
    refine norm_ (a' := ?_) ?_ ?_
    rotate_left
    · show Act.put _ (some 32) _ = _
      simp only [Act.put, List.setIfInBounds_toArray, List.set_cons_zero, List.set_cons_succ, i64_w, i32_w]
      rfl
    refine pure_ (i := 8) (N := some 33) (v := ?_) (a' := ?_) #[true, true, true, true, true, true, true, true, true, false, false] rfl rfl (by kernel_rfl) (fun _ _ _ h => h) (Or.inl ⟨by rfl, ?_⟩) ?_ ?_
    rotate_left
    · intro w'
      go_simp
      with_reducible rfl
    rotate_left
    · simp only [Act.put, List.setIfInBounds_toArray, List.set_cons_zero, List.set_cons_succ, i64_w, i32_w]
      rfl
    refine pure_ (i := 9) (N := some 34) (v := ?_) (a' := ?_) #[true, true, true, true, true, true, true, true, true, true, false] rfl rfl (by kernel_rfl) (fun _ _ _ h => h) (Or.inl ⟨by rfl, ?_⟩) ?_ ?_
    rotate_left
    · intro w'
      go_simp
      with_reducible rfl
    rotate_left
    · simp only [Act.put, List.setIfInBounds_toArray, List.set_cons_zero, List.set_cons_succ, i64_w, i32_w]
      rfl
    refine last_ (i := 10) (N := none) #[true, true, true, true, true, true, true, true, true, true, true] rfl rfl (by kernel_rfl) (by decide) (fun K hK => ?_)
    have hbk := blk_grown HO_9.out.hb HG4.out (Kd.R_ne HO_9.out.rG HO_9.out.hb (by decide))
    have hk2 : w4.cell? ⟨g, 2, none⟩ = some (.slice AG G.length cG) := (blk_cell hbk 2).trans rfl
    have hf2 := blk_frozen hbk 2
    clear hbk
    refine skip_ (w1 := ?_) (by rfl) rfl ?_ ?_
    rotate_left
    · go_simp
      rfl
    refine hK.out _ _ ?_
    clear hK K
    refine done_ (by kernel_rfl) ?_
    
    have hlen : (G ++ [y]).length = G.length + 1 := by simp
    have hBA := BO.app hwF.out HO_9.out HB_10.out.size hwb.out HO4.out HG4.out (own_type_ne (Kd.R_own HO_9.out.rG).choose_spec (Kd.R_own HO_9.out.rE).choose_spec (by decide))
    rw [hlen] at hBA
    have HBA := lhid hBA
    have HN6 := lhid (show (w4.setCell ⟨g, 2, none⟩ (.slice A4 (G.length + 1) c4)).heap[w.heap.size]? = _ from blk_far (blk_grown HN_8.out HG4.out (fun e => hnF.out (HO_9.out.rG.1 _ e.symm))) (fun e => hnF.out (by rw [e]; exact HO_9.out.fg)) _)
    have HC6 := lhid (show Chg F w (w4.setCell ⟨g, 2, none⟩ (.slice A4 (G.length + 1) c4)) from ((Chg.of_below HB_10.out).grown HG4.out (fun q hq => Or.inr (HO_9.out.rG.1 q hq))).set (Or.inr HO_9.out.fg) _)
    have hsz6 : (w4.setCell ⟨g, 2, none⟩ (.slice A4 (G.length + 1) c4)).heap.size = w4.heap.size := by simp
    have HS6 := lhid hsz6
    clear hBA hlen hsz6
    generalize World.setCell w4 ⟨g, 2, none⟩ (.slice A4 (G.length + 1) c4) = w6 at HBA HN6 HC6 HS6 ⊢
    have hb0 := (blk_cell HN6.out 0).trans rfl
    rw [HNF.out] at hb0
    go_wp2_with fail
    go_ret
    refine ⟨rfl, ?_, HC6.out⟩
    unfold More
    rw [HS6.out]
    have hba := HBA.out
    rw [HY.out] at hba
    exact hba
end Go.Proofs.Ytfnlghjkjmppdaa.PC
namespace Go.Proofs.Ytfnlghjkjmppdaa.PC
open Go.RowKit Go.Proofs.YtfnlghjkjmppdaaW.PrintWords Go.Proofs.YtfnlghjkjmppdaaW.PrintLast Go.Proofs.YtfnlghjkjmppdaaW.PrintMore
set_option linter.unusedVariables false
set_option linter.unusedSimpArgs false
theorem nine {W : World} {b : Nat} {v0 v1 v2 v3 v4 v5 v6 v7 v8 : Value} {ty : Nat} (h : W.heap[b]? = some (.cells #[v0, v1, v2, v3, v4, v5, v6, v7, v8] ty)) :
    W.cell? ⟨b, 0, none⟩ = some v0 ∧ W.cell? ⟨b, 1, none⟩ = some v1 ∧ W.cell? ⟨b, 2, none⟩ = some v2 ∧ W.cell? ⟨b, 3, none⟩ = some v3 ∧ W.cell? ⟨b, 4, none⟩ = some v4 ∧ W.cell? ⟨b, 5, none⟩ = some v5 ∧ W.cell? ⟨b, 6, none⟩ = some v6 ∧ W.cell? ⟨b, 7, none⟩ = some v7 ∧ W.cell? ⟨b, 8, none⟩ = some v8 :=
  ⟨by rw [blk_cell h 0]; rfl, by rw [blk_cell h 1]; rfl, by rw [blk_cell h 2]; rfl, by rw [blk_cell h 3]; rfl, by rw [blk_cell h 4]; rfl, by rw [blk_cell h 5]; rfl, by rw [blk_cell h 6]; rfl, by rw [blk_cell h 7]; rfl, by rw [blk_cell h 8]; rfl⟩
theorem add_full (base g : Nat) (F : Nat → Prop) (w : World) (day : Int) (G : List S39) (E : List S44) (x : S39) (h : BK base F w g day G E) (hlt : 128 ≤ G.length) :
    Calls Try.prog 44 #[.pointer (some ⟨g, 0, none⟩), .agg #[.int .i64 x.f0, .int .i64 x.f1, .int .i64 x.f2, .int .i64 x.f3, .int .i64 x.f4, .int .i64 x.f5, .int .i64 x.f6, .int .i64 x.f7, .bool x.f8]] w fun e w' => e = .panicked [{ v := refu 8, recovered := false }] ∧ Below w.heap.size w w' := by
  have hu70 := Try.underlying70
  have hu39 := Try.underlying39
  obtain ⟨AG, cG, AE, cE, ho⟩ := h.opn
  have hd : decide ((G.length : Int) ≥ 128) = true := decide_eq_true (by omega)
  clear h hlt
  have HO := lhid ho
  clear ho
  go_enter Try.func44, Try.ntmps44
  have hc2 := HO.out.c2
  go_upto_region 1 with (fail)
  clear hc2
  have hb := below_alloc (Below.refl w.heap.size w) (.cells #[.int .i64 x.f0, .int .i64 x.f1, .int .i64 x.f2, .int .i64 x.f3, .int .i64 x.f4, .int .i64 x.f5, .int .i64 x.f6, .int .i64 x.f7, .bool x.f8] 39)
  generalize hq : World.alloc w (.cells #[.int .i64 x.f0, .int .i64 x.f1, .int .i64 x.f2, .int .i64 x.f3, .int .i64 x.f4, .int .i64 x.f5, .int .i64 x.f6, .int .i64 x.f7, .bool x.f8] 39) = w1 at hb ⊢
  clear hq
  have hc2 := (HO.out.next hb).c2
  have HB := lhid hb
  clear hb
  go_wp2_with fail
  with_reducible refine (refuse_yes _ 8).mono ?_
  rintro e w' ⟨rfl, rfl⟩
  exact ⟨rfl, rfl, HB.out⟩
def Got (base : Nat) (F : Nat → Prop) (w w' : World) (g : Nat) (day : Int) (G : List S39) (E : List S44) : Prop :=
  ∃ F', BK base F' w' g day G E ∧ (∀ k, F' k → F k ∨ w.heap.size ≤ k) ∧ Chg F w w'
theorem Got.of_below {base : Nat} {F : Nat → Prop} {w w' : World} {g : Nat} {day : Int} {G : List S39} {E : List S44} (h : BK base F w g day G E) (hb : Below w.heap.size w w') : Got base F w w' g day G E :=
  ⟨F, h.next hb, fun _ q => Or.inl q, Chg.of_below hb⟩
theorem Got.next {base : Nat} {F : Nat → Prop} {w w' w2 : World} {g : Nat} {day : Int} {G : List S39} {E : List S44} (h : Got base F w w' g day G E) (hb : Below w'.heap.size w' w2) : Got base F w w2 g day G E := by
  obtain ⟨F', h1, h2, h3⟩ := h
  exact ⟨F', h1.next hb, h2, h3.next hb⟩
theorem Got.pre {base : Nat} {F : Nat → Prop} {w0 w w' : World} {g : Nat} {day : Int} {G : List S39} {E : List S44} (hb : Below w0.heap.size w0 w) (h : Got base F w w' g day G E) : Got base F w0 w' g day G E := by
  obtain ⟨F', h1, h2, h3⟩ := h
  refine ⟨F', h1, fun k q => (h2 k q).imp_right (fun r => Nat.le_trans hb.size r), (Chg.of_below hb).trans h3 (fun _ _ q => q)⟩
theorem BK.set {base g : Nat} {F : Nat → Prop} {w : World} {day : Int} {G : List S39} {E : List S44} (h : BK base F w g day G E) {p : Addr} (hp : ¬ F p.block) (u : Value) : BK base F (w.setCell p u) g day G E := by
  obtain ⟨AG, cG, AE, cE, ho⟩ := h.opn
  exact (ho.set hp u).bk
theorem Got.box {base : Nat} {F : Nat → Prop} {w0 w w' : World} {g : Nat} {day : Int} {G : List S39} {E : List S44} (h : Got base F w w' g day G E) (hb : Below w0.heap.size w0 w) {p : Addr} (h1 : w0.heap.size ≤ p.block) (h2 : p.block < w.heap.size) (hF : ∀ k, F k → k < w0.heap.size) (u v : Value) : Got base F w0 ((w'.setCell p u).drew.setCell p v) g day G E := by
  obtain ⟨F2, m1, m2, m3⟩ := h
  obtain ⟨_, _, _, k3⟩ := Got.pre hb ⟨F2, m1, m2, m3⟩
  have hn : ¬ F2 p.block := fun q => by rcases m2 _ q with r | r; have := hF _ r; omega; omega
  refine ⟨F2, ((m1.set hn u).next (below_drew1 (Below.refl _ _))).set hn v, fun k q => (m2 k q).imp_right (fun r => Nat.le_trans hb.size r), ((k3.set (Or.inl h1) u).next (below_drew1 (Below.refl _ _))).set (Or.inl h1) v⟩
theorem grant_arg (base g : Nat) (F : Nat → Prop) (w : World) (day : Int) (G : List S39) (E : List S44) (a1 a2 a3 a4 a5 : Int) (h : BK base F w g day G E) (hm : custody_may.f 0 0 0 a1 a2 a3 a4 a5 false = some false) : Calls Try.prog 15 #[.pointer (some ⟨g, 0, none⟩), .int .i64 a1, .int .i64 a2, .int .i64 a3, .int .i64 a4, .int .i64 a5] w fun e w' => e = .returned (.tuple #[.int .i64 0, .int .i64 2]) ∧ Below w.heap.size w w' := by
  have hu70 := Try.underlying70
  have hu39 := Try.underlying39
  have HBK := lhid h
  have HM := lhid hm
  have HF := lhid (show ∀ k, F k → k < w.heap.size from fun k q => (h.fb k q).2)
  clear h hm
  have hmf : ∀ (fn : Fn) (first cap : Array Value) (w : World), (Instr.makeFunc fn first cap).run Try.prog w = .ok (.func fn first cap) w := fun _ _ _ _ => rfl
  go_enter_defers Try.func15, Try.ntmps15
  go_upto_region 2 with (fail)
  have HB_1 := lhid (Below.refl w.heap.size w)
  have hb := below_alloc (Below.refl w.heap.size w) (.cells #[.int .i64 0] 24)
  have hn := blk_new w (.cells #[.int .i64 0] 24)
  have HZ1 := lhid (show (World.alloc w (.cells #[.int .i64 0] 24)).heap.size = w.heap.size + 1 from by simp)
  generalize hq : World.alloc w (.cells #[.int .i64 0] 24) = w1 at hb hn HZ1 ⊢
  clear hq
  have HBK_2 := lhid (HBK.out.next hb)
  have HB_3 := lhid (below_then HB_1.out HB_1.out.size hb)
  clear HBK HB_1 hb
  have BX_4 := lhid (hn)
  clear hn
  clear hmf
  obtain ⟨AG, cG, AE, cE, ho⟩ := HBK_2.out.opn
  have hc := ho.c0
  clear ho
  go_wp2_with fail
  with_reducible refine (refuse_no _ 1).mono ?_
  rintro e w' ⟨rfl, rfl⟩
  clear hc
  go_upto_region 4 with (fail)
  have hb := below_alloc (Below.refl w1.heap.size w1) (.cells #[.int .i64 0, .int .i64 0, .int .i64 0, .int .i64 a1, .int .i64 a2, .int .i64 a3, .int .i64 a4, .int .i64 a5, .bool false] 39)
  have hn := blk_new w1 (.cells #[.int .i64 0, .int .i64 0, .int .i64 0, .int .i64 a1, .int .i64 a2, .int .i64 a3, .int .i64 a4, .int .i64 a5, .bool false] 39)
  have HZ2 := lhid (show (World.alloc w1 (.cells #[.int .i64 0, .int .i64 0, .int .i64 0, .int .i64 a1, .int .i64 a2, .int .i64 a3, .int .i64 a4, .int .i64 a5, .bool false] 39)).heap.size = w1.heap.size + 1 from by simp)
  generalize hq : World.alloc w1 (.cells #[.int .i64 0, .int .i64 0, .int .i64 0, .int .i64 a1, .int .i64 a2, .int .i64 a3, .int .i64 a4, .int .i64 a5, .bool false] 39) = w2 at hb hn HZ2 ⊢
  clear hq
  have HBK_5 := lhid (HBK_2.out.next hb)
  have HB_6 := lhid (below_then HB_3.out HB_3.out.size hb)
  have BX_7 := lhid (blk_below BX_4.out hb)
  clear HBK_2 HB_3 BX_4 hb
  have BG_8 := lhid (hn)
  clear hn
  obtain ⟨gb, hgb⟩ : ∃ q, q = w1.heap.size := ⟨_, rfl⟩
  rw [← hgb] at BG_8 ⊢
  have HGB := lhid hgb
  clear hgb
  obtain ⟨hx0, hx1, hx2, hx3, hx4, hx5, hx6, hx7, hx8⟩ := nine BG_8.out
  go_wp2_with fail
  with_reducible refine (custody_may.calls 0 0 0 a1 a2 a3 a4 a5 false false w2 HM.out).mono ?_
  rintro e w3 ⟨rfl, hb⟩
  have HBK_9 := lhid (HBK_5.out.next hb)
  have HB_10 := lhid (below_then HB_6.out HB_6.out.size hb)
  have BX_11 := lhid (blk_below BX_7.out hb)
  have BG_12 := lhid (blk_below BG_8.out hb)
  clear HBK_5 HB_6 BX_7 BG_8 hb
  clear hx0 hx1 hx2 hx3 hx4 hx5 hx6 hx7 hx8
  go_wp2_with fail
  with_reducible refine (refuse_yes _ 2).mono ?_
  rintro e w' ⟨rfl, rfl⟩
  refine leaves_cons (f := 40) (args := #[.pointer (some ⟨w.heap.size, 0, none⟩)]) (by simp) (by simp [go_sem]) ?_
  refine (catch40_panicking ⟨w.heap.size, 0, none⟩ 0 2 [] _ (blk_cell BX_11.out 0) (blk_frozen BX_11.out 0)).mono ?_
  rintro e u' w'' ⟨rfl, rfl, w1, hb, rfl⟩
  have hbw := (below_then HB_10.out HB_10.out.size hb).setCell (p := ⟨w.heap.size, 0, none⟩) (Nat.le_refl _) (.int .i64 2)
  have hcw := blk_cell (blk_put (blk_below BX_11.out hb) 0 (.int .i64 2) rfl) 0
  simp [Leaves, settle, results, Try.results15, go_sem, hcw]
  exact hbw
theorem grant_full (base g : Nat) (F : Nat → Prop) (w : World) (day : Int) (G : List S39) (E : List S44) (a1 a2 a3 a4 a5 : Int) (h : BK base F w g day G E) (hm : custody_may.f 0 0 0 a1 a2 a3 a4 a5 false = some true) (hl : 128 ≤ G.length) : Calls Try.prog 15 #[.pointer (some ⟨g, 0, none⟩), .int .i64 a1, .int .i64 a2, .int .i64 a3, .int .i64 a4, .int .i64 a5] w fun e w' => e = .returned (.tuple #[.int .i64 0, .int .i64 8]) ∧ Below w.heap.size w w' := by
  have hu70 := Try.underlying70
  have hu39 := Try.underlying39
  have HBK := lhid h
  have HM := lhid hm
  have HF := lhid (show ∀ k, F k → k < w.heap.size from fun k q => (h.fb k q).2)
  clear h hm
  have hmf : ∀ (fn : Fn) (first cap : Array Value) (w : World), (Instr.makeFunc fn first cap).run Try.prog w = .ok (.func fn first cap) w := fun _ _ _ _ => rfl
  go_enter_defers Try.func15, Try.ntmps15
  go_upto_region 2 with (fail)
  have HB_1 := lhid (Below.refl w.heap.size w)
  have hb := below_alloc (Below.refl w.heap.size w) (.cells #[.int .i64 0] 24)
  have hn := blk_new w (.cells #[.int .i64 0] 24)
  have HZ1 := lhid (show (World.alloc w (.cells #[.int .i64 0] 24)).heap.size = w.heap.size + 1 from by simp)
  generalize hq : World.alloc w (.cells #[.int .i64 0] 24) = w1 at hb hn HZ1 ⊢
  clear hq
  have HBK_2 := lhid (HBK.out.next hb)
  have HB_3 := lhid (below_then HB_1.out HB_1.out.size hb)
  clear HBK HB_1 hb
  have BX_4 := lhid (hn)
  clear hn
  clear hmf
  obtain ⟨AG, cG, AE, cE, ho⟩ := HBK_2.out.opn
  have hc := ho.c0
  clear ho
  go_wp2_with fail
  with_reducible refine (refuse_no _ 1).mono ?_
  rintro e w' ⟨rfl, rfl⟩
  clear hc
  go_upto_region 4 with (fail)
  have hb := below_alloc (Below.refl w1.heap.size w1) (.cells #[.int .i64 0, .int .i64 0, .int .i64 0, .int .i64 a1, .int .i64 a2, .int .i64 a3, .int .i64 a4, .int .i64 a5, .bool false] 39)
  have hn := blk_new w1 (.cells #[.int .i64 0, .int .i64 0, .int .i64 0, .int .i64 a1, .int .i64 a2, .int .i64 a3, .int .i64 a4, .int .i64 a5, .bool false] 39)
  have HZ2 := lhid (show (World.alloc w1 (.cells #[.int .i64 0, .int .i64 0, .int .i64 0, .int .i64 a1, .int .i64 a2, .int .i64 a3, .int .i64 a4, .int .i64 a5, .bool false] 39)).heap.size = w1.heap.size + 1 from by simp)
  generalize hq : World.alloc w1 (.cells #[.int .i64 0, .int .i64 0, .int .i64 0, .int .i64 a1, .int .i64 a2, .int .i64 a3, .int .i64 a4, .int .i64 a5, .bool false] 39) = w2 at hb hn HZ2 ⊢
  clear hq
  have HBK_5 := lhid (HBK_2.out.next hb)
  have HB_6 := lhid (below_then HB_3.out HB_3.out.size hb)
  have BX_7 := lhid (blk_below BX_4.out hb)
  clear HBK_2 HB_3 BX_4 hb
  have BG_8 := lhid (hn)
  clear hn
  obtain ⟨gb, hgb⟩ : ∃ q, q = w1.heap.size := ⟨_, rfl⟩
  rw [← hgb] at BG_8 ⊢
  have HGB := lhid hgb
  clear hgb
  obtain ⟨hx0, hx1, hx2, hx3, hx4, hx5, hx6, hx7, hx8⟩ := nine BG_8.out
  go_wp2_with fail
  with_reducible refine (custody_may.calls 0 0 0 a1 a2 a3 a4 a5 false true w2 HM.out).mono ?_
  rintro e w3 ⟨rfl, hb⟩
  have HBK_9 := lhid (HBK_5.out.next hb)
  have HB_10 := lhid (below_then HB_6.out HB_6.out.size hb)
  have BX_11 := lhid (blk_below BX_7.out hb)
  have BG_12 := lhid (blk_below BG_8.out hb)
  clear HBK_5 HB_6 BX_7 BG_8 hb
  clear hx0 hx1 hx2 hx3 hx4 hx5 hx6 hx7 hx8
  obtain ⟨hx0, hx1, hx2, hx3, hx4, hx5, hx6, hx7, hx8⟩ := nine BG_12.out
  go_wp2_with fail
  with_reducible refine (refuse_no _ 2).mono ?_
  rintro e w' ⟨rfl, rfl⟩
  go_wp2_with fail
  with_reducible refine (add_full base g F w3 day G E ⟨0, 0, 0, a1, a2, a3, a4, a5, false⟩ HBK_9.out hl).mono ?_
  rintro e w4 ⟨rfl, hb⟩
  have HBK_13 := lhid (HBK_9.out.next hb)
  have HB_14 := lhid (below_then HB_10.out HB_10.out.size hb)
  have BX_15 := lhid (blk_below BX_11.out hb)
  have BG_16 := lhid (blk_below BG_12.out hb)
  clear HBK_9 HB_10 BX_11 BG_12 hb
  refine leaves_cons (f := 40) (args := #[.pointer (some ⟨w.heap.size, 0, none⟩)]) (by simp) (by simp [go_sem]) ?_
  refine (catch40_panicking ⟨w.heap.size, 0, none⟩ 0 8 [] _ (blk_cell BX_15.out 0) (blk_frozen BX_15.out 0)).mono ?_
  rintro e u' w'' ⟨rfl, rfl, w1, hb, rfl⟩
  have hbw := (below_then HB_14.out HB_14.out.size hb).setCell (p := ⟨w.heap.size, 0, none⟩) (Nat.le_refl _) (.int .i64 8)
  have hcw := blk_cell (blk_put (blk_below BX_15.out hb) 0 (.int .i64 8) rfl) 0
  simp [Leaves, settle, results, Try.results15, go_sem, hcw]
  exact hbw
theorem grant_ok (base g : Nat) (F : Nat → Prop) (w : World) (day : Int) (G : List S39) (E : List S44) (a1 a2 a3 a4 a5 : Int) (h : BK base F w g day G E) (hm : custody_may.f 0 0 0 a1 a2 a3 a4 a5 false = some true) (hl : G.length < 128) : Calls Try.prog 15 #[.pointer (some ⟨g, 0, none⟩), .int .i64 a1, .int .i64 a2, .int .i64 a3, .int .i64 a4, .int .i64 a5] w fun e w' => e = .returned (.tuple #[.int .i64 ((G.length : Int) + 1), .int .i64 0]) ∧ Got base F w w' g day (G ++ [newG G ⟨0, 0, 0, a1, a2, a3, a4, a5, false⟩]) E := by
  have hu70 := Try.underlying70
  have hu39 := Try.underlying39
  have HBK := lhid h
  have HM := lhid hm
  have HF := lhid (show ∀ k, F k → k < w.heap.size from fun k q => (h.fb k q).2)
  clear h hm
  have hmf : ∀ (fn : Fn) (first cap : Array Value) (w : World), (Instr.makeFunc fn first cap).run Try.prog w = .ok (.func fn first cap) w := fun _ _ _ _ => rfl
  go_enter_defers Try.func15, Try.ntmps15
  go_upto_region 2 with (fail)
  have HB_1 := lhid (Below.refl w.heap.size w)
  have hb := below_alloc (Below.refl w.heap.size w) (.cells #[.int .i64 0] 24)
  have hn := blk_new w (.cells #[.int .i64 0] 24)
  have HZ1 := lhid (show (World.alloc w (.cells #[.int .i64 0] 24)).heap.size = w.heap.size + 1 from by simp)
  generalize hq : World.alloc w (.cells #[.int .i64 0] 24) = w1 at hb hn HZ1 ⊢
  clear hq
  have HBK_2 := lhid (HBK.out.next hb)
  have HB_3 := lhid (below_then HB_1.out HB_1.out.size hb)
  clear HBK HB_1 hb
  have BX_4 := lhid (hn)
  clear hn
  clear hmf
  obtain ⟨AG, cG, AE, cE, ho⟩ := HBK_2.out.opn
  have hc := ho.c0
  clear ho
  go_wp2_with fail
  with_reducible refine (refuse_no _ 1).mono ?_
  rintro e w' ⟨rfl, rfl⟩
  clear hc
  go_upto_region 4 with (fail)
  have hb := below_alloc (Below.refl w1.heap.size w1) (.cells #[.int .i64 0, .int .i64 0, .int .i64 0, .int .i64 a1, .int .i64 a2, .int .i64 a3, .int .i64 a4, .int .i64 a5, .bool false] 39)
  have hn := blk_new w1 (.cells #[.int .i64 0, .int .i64 0, .int .i64 0, .int .i64 a1, .int .i64 a2, .int .i64 a3, .int .i64 a4, .int .i64 a5, .bool false] 39)
  have HZ2 := lhid (show (World.alloc w1 (.cells #[.int .i64 0, .int .i64 0, .int .i64 0, .int .i64 a1, .int .i64 a2, .int .i64 a3, .int .i64 a4, .int .i64 a5, .bool false] 39)).heap.size = w1.heap.size + 1 from by simp)
  generalize hq : World.alloc w1 (.cells #[.int .i64 0, .int .i64 0, .int .i64 0, .int .i64 a1, .int .i64 a2, .int .i64 a3, .int .i64 a4, .int .i64 a5, .bool false] 39) = w2 at hb hn HZ2 ⊢
  clear hq
  have HBK_5 := lhid (HBK_2.out.next hb)
  have HB_6 := lhid (below_then HB_3.out HB_3.out.size hb)
  have BX_7 := lhid (blk_below BX_4.out hb)
  clear HBK_2 HB_3 BX_4 hb
  have BG_8 := lhid (hn)
  clear hn
  obtain ⟨gb, hgb⟩ : ∃ q, q = w1.heap.size := ⟨_, rfl⟩
  rw [← hgb] at BG_8 ⊢
  have HGB := lhid hgb
  clear hgb
  obtain ⟨hx0, hx1, hx2, hx3, hx4, hx5, hx6, hx7, hx8⟩ := nine BG_8.out
  go_wp2_with fail
  with_reducible refine (custody_may.calls 0 0 0 a1 a2 a3 a4 a5 false true w2 HM.out).mono ?_
  rintro e w3 ⟨rfl, hb⟩
  have HBK_9 := lhid (HBK_5.out.next hb)
  have HB_10 := lhid (below_then HB_6.out HB_6.out.size hb)
  have BX_11 := lhid (blk_below BX_7.out hb)
  have BG_12 := lhid (blk_below BG_8.out hb)
  clear HBK_5 HB_6 BX_7 BG_8 hb
  clear hx0 hx1 hx2 hx3 hx4 hx5 hx6 hx7 hx8
  obtain ⟨hx0, hx1, hx2, hx3, hx4, hx5, hx6, hx7, hx8⟩ := nine BG_12.out
  go_wp2_with fail
  with_reducible refine (refuse_no _ 2).mono ?_
  rintro e w' ⟨rfl, rfl⟩
  go_wp2_with fail
  clear hx0 hx1 hx2 hx3 hx4 hx5 hx6 hx7 hx8
  with_reducible refine (add_calls base g F w3 day G E ⟨0, 0, 0, a1, a2, a3, a4, a5, false⟩ HBK_9.out hl).mono ?_
  rintro e w7 ⟨rfl, hbk, hch⟩
  have HG := lhid (show Got base F w3 w7 g day (G ++ [newG G ⟨0, 0, 0, a1, a2, a3, a4, a5, false⟩]) E from ⟨_, hbk, fun k q => q.imp_right (fun r => r.1), hch⟩)
  have HX := lhid (hch.blk BX_11.out (fun q => by have := HF.out _ q; omega))
  have HLT := lhid (blk_lt BX_11.out)
  clear hbk hch
  have hxc := blk_cell HX.out 0
  have hxz : ∀ o, w7.frozen? ⟨w.heap.size, o, none⟩ = false := fun o => blk_frozen HX.out o
  simp only [List.getElem?_toArray, List.getElem?_cons_zero] at hxc
  go_wp2_with fail
  have hz8 := blk_put HX.out 0 (.int .i64 0) rfl
  have hg8 : Got base F w (World.setCell (World.setCell w7 ⟨w.heap.size, 0, none⟩ (.int .i64 0)) ⟨w.heap.size, 0, none⟩ (.int .i64 0)).drew _ _ _ _ := Got.box HG.out HB_10.out (p := ⟨w.heap.size, 0, none⟩) (Nat.le_refl _) HLT.out HF.out (.int .i64 0) (.int .i64 0)
  generalize World.setCell w7 ⟨w.heap.size, 0, none⟩ (.int .i64 0) = w8 at hz8 hg8 ⊢
  have hcw := blk_cell (blk_put hz8 0 (.int .i64 0) rfl) 0
  have hc8 := blk_cell hz8 0
  have hf8 := blk_frozen hz8 0
  simp only [List.getElem?_toArray, List.getElem?_cons_zero, Array.setIfInBounds_def, List.size_toArray] at hc8 hcw
  refine leaves_cons (f := 40) (args := #[.pointer (some ⟨w.heap.size, 0, none⟩)]) (by simp) (by simp [go_sem]) ?_
  refine (catch40_idle ⟨w.heap.size, 0, none⟩ 0 w8 (by simpa using hc8) hf8).mono ?_
  rintro e u' w'' ⟨rfl, rfl, rfl⟩
  simp [Leaves, settle, results, Try.results15, go_sem, hcw]
  exact hg8
end Go.Proofs.Ytfnlghjkjmppdaa.PC
namespace Go.Proofs.Ytfnlghjkjmppdaa.PC
open Go.RowKit Go.Proofs.YtfnlghjkjmppdaaW.PrintWords Go.Proofs.YtfnlghjkjmppdaaW.PrintLast Go.Proofs.YtfnlghjkjmppdaaW.PrintMore
set_option linter.unusedVariables false
set_option linter.unusedSimpArgs false
def put7 (G : List S39) (m : Nat) (u : Int) : List S39 := G.set (m - 1) { gr G m with f7 := u }
def put8 (G : List S39) (m : Nat) (u : Bool) : List S39 := G.set (m - 1) { gr G m with f8 := u }
theorem put7_len (G : List S39) (m : Nat) (u : Int) : (put7 G m u).length = G.length := by unfold put7; rw [List.length_set]
theorem put8_len (G : List S39) (m : Nat) (u : Bool) : (put8 G m u).length = G.length := by unfold put8; rw [List.length_set]
theorem BO.blk {base g : Nat} {F : Nat → Prop} {w : World} {day : Int} {G : List S39} {E : List S44} {AE : Option Addr} {cG cE b : Nat} (h : BO base F w g day (some ⟨b, 0, none⟩) cG G AE cE E) : ∃ cs, w.heap[b]? = some (.cells cs 39) ∧ F b := by
  obtain ⟨inner, ho⟩ := Kd.R_own h.rG
  rcases ho.2 with ⟨hv, h0⟩ | ⟨b', cap, cur, hv, _, hh, _⟩
  · cases hv
  · injection hv with h1 h2 h3
    injection h1 with h1
    injection h1 with h1
    subst h1
    exact ⟨_, hh, h.rG.1 b rfl⟩
theorem BO.put7 {base g : Nat} {F : Nat → Prop} {w : World} {day : Int} {G : List S39} {E : List S44} {AE : Option Addr} {cG cE b : Nat} (h : BO base F w g day (some ⟨b, 0, none⟩) cG G AE cE E) (m : Nat) (h1 : 1 ≤ m) (h2 : m ≤ G.length) (u : Int) :
    BO base F (w.setCell ⟨b, (m - 1) * 9 + 7, none⟩ (.int .i64 u)) g day (some ⟨b, 0, none⟩) cG (PC.put7 G m u) AE cE E := by
  obtain ⟨cs, hh, hFb⟩ := h.blk
  obtain ⟨c0, c1, c2, c3, c4, c5, c6, c7, c8⟩ := h.cells m h1 h2
  have hsz : k39.sz = 9 := rfl
  have hs := (Kd.R_seg h.rG ((m : Int) - 1) (by omega) (by omega) (c := gcells (gr G m)) (seg := [.int .i64 u]) (j := 7) (x' := { gr G m with f7 := u }) (okp := fun _ => False) rfl (fun j v hu => by
    rw [show ((m : Int) - 1).toNat = m - 1 by omega, hsz]
    match j with
    | 0 => injection hu with hu; rw [← hu]; exact c0
    | 1 => injection hu with hu; rw [← hu]; exact c1
    | 2 => injection hu with hu; rw [← hu]; exact c2
    | 3 => injection hu with hu; rw [← hu]; exact c3
    | 4 => injection hu with hu; rw [← hu]; exact c4
    | 5 => injection hu with hu; rw [← hu]; exact c5
    | 6 => injection hu with hu; rw [← hu]; exact c6
    | 7 => injection hu with hu; rw [← hu]; exact c7
    | 8 => injection hu with hu; rw [← hu]; exact c8
    | j + 9 => simp [gcells] at hu) (by rw [hsz]; simp) (by simpa [gcells] using k39_mkM w base (fun _ => False) { gr G m with f7 := u }) (fun _ hk => hk.elim)).1
  rw [show ((m : Int) - 1).toNat = m - 1 by omega, hsz] at hs
  refine ⟨?_, ?_, Kd.R_set h.rE hh (by decide) _ _, h.fg, fun k q => ⟨(h.fb k q).1, by have := (h.fb k q).2; simpa using this⟩⟩
  · rw [put7_len]; exact blk_far h.hb (blk_ne h.hb hh (by decide)) _
  · rw [put7_len]; exact hs
theorem BO.put8 {base g : Nat} {F : Nat → Prop} {w : World} {day : Int} {G : List S39} {E : List S44} {AE : Option Addr} {cG cE b : Nat} (h : BO base F w g day (some ⟨b, 0, none⟩) cG G AE cE E) (m : Nat) (h1 : 1 ≤ m) (h2 : m ≤ G.length) (u : Bool) :
    BO base F (w.setCell ⟨b, (m - 1) * 9 + 8, none⟩ (.bool u)) g day (some ⟨b, 0, none⟩) cG (PC.put8 G m u) AE cE E := by
  obtain ⟨cs, hh, hFb⟩ := h.blk
  obtain ⟨c0, c1, c2, c3, c4, c5, c6, c7, c8⟩ := h.cells m h1 h2
  have hsz : k39.sz = 9 := rfl
  have hs := (Kd.R_seg h.rG ((m : Int) - 1) (by omega) (by omega) (c := gcells (gr G m)) (seg := [.bool u]) (j := 8) (x' := { gr G m with f8 := u }) (okp := fun _ => False) rfl (fun j v hu => by
    rw [show ((m : Int) - 1).toNat = m - 1 by omega, hsz]
    match j with
    | 0 => injection hu with hu; rw [← hu]; exact c0
    | 1 => injection hu with hu; rw [← hu]; exact c1
    | 2 => injection hu with hu; rw [← hu]; exact c2
    | 3 => injection hu with hu; rw [← hu]; exact c3
    | 4 => injection hu with hu; rw [← hu]; exact c4
    | 5 => injection hu with hu; rw [← hu]; exact c5
    | 6 => injection hu with hu; rw [← hu]; exact c6
    | 7 => injection hu with hu; rw [← hu]; exact c7
    | 8 => injection hu with hu; rw [← hu]; exact c8
    | j + 9 => simp [gcells] at hu) (by rw [hsz]; simp) (by simpa [gcells] using k39_mkM w base (fun _ => False) { gr G m with f8 := u }) (fun _ hk => hk.elim)).1
  rw [show ((m : Int) - 1).toNat = m - 1 by omega, hsz] at hs
  refine ⟨?_, ?_, Kd.R_set h.rE hh (by decide) _ _, h.fg, fun k q => ⟨(h.fb k q).1, by have := (h.fb k q).2; simpa using this⟩⟩
  · rw [put8_len]; exact blk_far h.hb (blk_ne h.hb hh (by decide)) _
  · rw [put8_len]; exact hs
def use1 (G : List S39) (m : Nat) : List S39 := if 0 < (gr G m).f7 then put7 G m ((gr G m).f7 - 1) else G
theorem use1_len (G : List S39) (m : Nat) : (use1 G m).length = G.length := by unfold use1; split; exact put7_len _ _ _; rfl
theorem gr_put7 (G : List S39) (m n : Nat) (u : Int) (h1 : 1 ≤ m) (h2 : m ≤ G.length) (hn : 1 ≤ n) : gr (put7 G m u) n = if n = m then { gr G m with f7 := u } else gr G n := by
  have e : ∀ (H : List S39) (k : Nat), gr H k = (H[k - 1]?).getD z39 := fun H k => by unfold gr rd_T39; rw [show ((k : Int) - 1).toNat = k - 1 by omega, List.getD_eq_getElem?_getD]
  by_cases c : n = m
  · subst c
    rw [if_pos rfl, e (put7 G n u), PC.put7, List.getElem?_set_self (by omega)]; rfl
  · rw [if_neg c, e (put7 G m u), e G n, PC.put7, List.getElem?_set_ne (by omega)]
theorem gr_put8 (G : List S39) (m n : Nat) (u : Bool) (h1 : 1 ≤ m) (h2 : m ≤ G.length) (hn : 1 ≤ n) : gr (put8 G m u) n = if n = m then { gr G m with f8 := u } else gr G n := by
  have e : ∀ (H : List S39) (k : Nat), gr H k = (H[k - 1]?).getD z39 := fun H k => by unfold gr rd_T39; rw [show ((k : Int) - 1).toNat = k - 1 by omega, List.getD_eq_getElem?_getD]
  by_cases c : n = m
  · subst c
    rw [if_pos rfl, e (put8 G n u), PC.put8, List.getElem?_set_self (by omega)]; rfl
  · rw [if_neg c, e (put8 G m u), e G n, PC.put8, List.getElem?_set_ne (by omega)]
def Us (G : List S39) : Prop := ∀ n, 1 ≤ n → n ≤ G.length → (gr G n).f7 ≤ 1048576
theorem Us.use1 {G : List S39} (h : Us G) {m : Nat} (h1 : 1 ≤ m) (h2 : m ≤ G.length) : Us (use1 G m) := by
  intro n hn hl
  rw [use1_len] at hl
  unfold PC.use1
  split
  · rw [gr_put7 G m n _ h1 h2 hn]
    split
    · have := h m h1 h2; simp; omega
    · exact h n hn hl
  · exact h n hn hl
theorem uses_len (ms : List Nat) : ∀ G : List S39, (ms.foldl use1 G).length = G.length := by
  induction ms with
  | nil => intro G; rfl
  | cons m ms ih => intro G; rw [List.foldl_cons, ih, use1_len]
theorem uses_snoc {ms : List Nat} {k m : Nat} (hm : ms[k]? = some m) (G : List S39) : (ms.take (k + 1)).foldl use1 G = use1 ((ms.take k).foldl use1 G) m := by
  rw [List.take_add_one, hm]; simp
theorem Us.uses {G : List S39} (h : Us G) : ∀ (ms : List Nat), (∀ m ∈ ms, 1 ≤ m ∧ m ≤ G.length) → Us (ms.foldl PC.use1 G)
  | ms, hm => by
    induction ms generalizing G with
    | nil => exact h
    | cons m ms ih =>
      rw [List.foldl_cons]
      exact ih (h.use1 (hm m (by simp)).1 (hm m (by simp)).2) (fun q hq => by rw [use1_len]; exact hm q (by simp [hq]))
end Go.Proofs.Ytfnlghjkjmppdaa.PC
namespace Go.Proofs.Ytfnlghjkjmppdaa.PC
open Go.RowKit Go.Proofs.YtfnlghjkjmppdaaW.PrintWords Go.Proofs.YtfnlghjkjmppdaaW.PrintLast Go.Proofs.YtfnlghjkjmppdaaW.PrintMore
set_option linter.unusedVariables false
set_option linter.unusedSimpArgs false
theorem new_calls (w : World) : Calls Try.prog 14 #[] w fun e w' => ∃ g, e = .returned (.pointer (some ⟨g, 0, none⟩)) ∧ g = w.heap.size ∧ BK w.heap.size (fun k => k = g) w' g 0 [] [] ∧ Below w.heap.size w w' := by
  have hu70 := Try.underlying70
  have HB := lhid (below_alloc (Below.refl w.heap.size w) (.cells #[.bool true, .int .i64 0, .slice none 0 0, .slice none 0 0] 70))
  have HN := lhid (blk_new w (.cells #[.bool true, .int .i64 0, .slice none 0 0, .slice none 0 0] 70))
  go_enter Try.func14, Try.ntmps14
  go_wp2_with fail
  go_ret
  refine ⟨_, rfl, rfl, ?_, HB.out⟩
  refine ⟨⟨_, _, HN.out, Kd.R_nil k39 39 _ _ _, Kd.R_nil k44 44 _ _ _⟩, rfl, fun k q => ⟨by omega, ?_⟩⟩
  rw [q]; exact blk_lt HN.out
end Go.Proofs.Ytfnlghjkjmppdaa.PC
namespace Go.Proofs.Ytfnlghjkjmppdaa.PC
open Go.RowKit Go.Proofs.YtfnlghjkjmppdaaW.PrintWords Go.Proofs.YtfnlghjkjmppdaaW.PrintLast Go.Proofs.YtfnlghjkjmppdaaW.PrintMore
set_option linter.unusedVariables false
set_option linter.unusedSimpArgs false
theorem nil_eq44 (a : Option Addr) (n c : Nat) (w : World) : (binOp .eql 40 (.slice a n c) (.slice none 0 0)).run Try.prog w = .ok (.bool a.isNone) w := by
  have h : ∀ d : Nat, (Op.equalIn (d + 1) 40 (.slice a n c) (.slice none 0 0)).run Try.prog w = .ok a.isNone w := fun d => by
    cases a <;> simp [Op.equalIn, run_underlying Try.underlying40]
  simp only [binOp]
  simp [Op.equal, Op.maxDepth, h 9999]
set_option maxHeartbeats 3200000 in
set_option maxRecDepth 100000 in
theorem clone44_calls (w : World) (A : Option Addr) (c : Nat) (xs : List S44) (hC : Kd.C k44 w A xs.length xs) (hc : xs.length ≤ c) (hl : xs.length ≤ 100000) :
    Calls Try.prog 49 #[.slice A xs.length c] w fun e w' => ∃ v, e = .returned v ∧ Kd.R k44 44 w' w.heap.size (fun _ => True) v xs ∧ Below w.heap.size w w' := by
  have HC := lhid hC
  have HB := Aside0.mk (Below.refl w.heap.size w)
  clear hC
  cases A with
  | none =>
    have hx : xs = [] := by
      cases xs with
      | nil => rfl
      | cons x xs => obtain ⟨ad, e, _⟩ := HC.out.2.2 (by simp); cases e
    subst hx
    have hnil := nil_eq44 none 0 c
    go_enter Try.func49, Try.ntmps49
    go_wp2_with fail
    go_ret
    exact ⟨_, rfl, Kd.R_nil _ _ _ _ _, HB.out⟩
  | some ad =>
    have hnil := nil_eq44 (some ad) xs.length c
    go_enter Try.func49, Try.ntmps49
    go_wp2_with (first | ((with_reducible refine gate_dst (N := 5) rfl ?_); refine Kd.R_lit k44 _ 44 ?hg (N := 5) ?hd (xs := ([] : List S44)) (inner := []) (ok := fun _ => True) (okp := fun _ => True) ?hr ?hp (fun _ hk => hk) trivial (Below.refl _ _) (Nat.le_refl _) (by simp) ?_; (case hd => rfl); (case hg => rfl); (case hr => first | (go_simp; done) | (go_simp; rfl)); (case hp => exact Reps.none _ _); intro v1 w1 ho8 hb hg_ hnew_; clear hg_ hnew_; have HO1 := Aside0.mk ho8; have HB1 := Aside0.mk hb; clear ho8 hb) | ((with_reducible refine gate_builtin (b := .append) (xs := #[.tmp 5, .tmp 6]) rfl ?_); at_builtin; refine Kd.R_append_rows k44 (w0 := w) w.heap.size rfl (.tmp 5) (.tmp 6) 40 44 (.agg #[(.int .i64 0), (.int .i64 0), (.int .i64 0), (.int .i64 0)]) 32 rfl Try.underlying40 info44 rfl (by decide) (by omega) v1 [] xs _ _ _ (fun _ => True) (fun _ => False) rfl rfl ?aO (Kd.C_below HC.out HB1.out) (fun x cs h => by obtain rfl := k44_open h; exact k44_mkM _ _ _ x) (fun _ h => h.elim) ?aF ?aB ?aS ?aL ?_; (case aB => exact HB1.out); (case aF => exact (fun _ _ => trivial)); (case aO => exact HO1.out); (case aS => exact (below_size HB1.out)); (case aL => simp; omega); intro v2 w2 ho hb hg hat; have HO2 := Aside0.mk ho; have HB2 := Aside0.mk hb; clear ho hb hg hat))
    go_ret
    exact ⟨_, rfl, HO2.out, HB2.out⟩
end Go.Proofs.Ytfnlghjkjmppdaa.PC
namespace Go.Proofs.Ytfnlghjkjmppdaa.PC
open Go.RowKit Go.Proofs.YtfnlghjkjmppdaaW.PrintWords Go.Proofs.YtfnlghjkjmppdaaW.PrintLast Go.Proofs.YtfnlghjkjmppdaaW.PrintMore
set_option linter.unusedVariables false
set_option linter.unusedSimpArgs false
theorem entries_calls (base g : Nat) (F : Nat → Prop) (w : World) (day : Int) (G : List S39) (E : List S44) (h : BK base F w g day G E) (hl : E.length ≤ 100000) : Calls Try.prog 21 #[.pointer (some ⟨g, 0, none⟩)] w fun e w' => ∃ v, e = .returned v ∧ Kd.R k44 44 w' w.heap.size (fun _ => True) v E ∧ Below w.heap.size w w' := by
  have hu70 := Try.underlying70
  obtain ⟨AG, cG, AE, cE, ho⟩ := h.opn
  have hc := ho.c3
  have HC := lhid (Kd.R_reads' ho.rE).2.2
  have HE := lhid ho.cap.2
  clear h ho
  go_enter Try.func21, Try.ntmps21
  go_wp2_with fail
  with_reducible refine (clone44_calls w AE cE E HC.out HE.out hl).mono ?_
  rintro e w' ⟨v, rfl, hr, hb⟩
  go_wp2_with fail
  go_ret
  exact ⟨v, rfl, hr, hb⟩
end Go.Proofs.Ytfnlghjkjmppdaa.PC
namespace Go.Proofs.Ytfnlghjkjmppdaa.PC
open Go.RowKit Go.Proofs.YtfnlghjkjmppdaaW.PrintWords Go.Proofs.YtfnlghjkjmppdaaW.PrintLast Go.Proofs.YtfnlghjkjmppdaaW.PrintMore
set_option linter.unusedVariables false
set_option linter.unusedSimpArgs false
def perB (n : Int) : Bool := decide (0 ≤ n) && decide (n ≤ 15)
def dayB (n : Int) : Bool := decide (0 ≤ n) && decide (n ≤ 1073741824)
def mayB (h v r u s : Int) : Bool := perB h && (decide (1 ≤ v) && decide (v < 65536) && decide (1 ≤ r) && decide (r ≤ 3) && dayB u && (decide (s = -1) || (decide (1 ≤ s) && decide (s ≤ 1048576))))
theorem person_f (n : Int) : custody_person.f n = some (perB n) := by
  unfold custody_person.f perB
  by_cases c : 0 ≤ n
  · simp [c]
  · simp [c]
theorem day_f (n : Int) : custody_day.f n = some (dayB n) := by
  unfold custody_day.f dayB
  by_cases c : 0 ≤ n
  · simp [c]
  · simp [c]
theorem may_f (a b c h v r u s : Int) (x : Bool) : custody_may.f a b c h v r u s x = some (mayB h v r u s) := by
  unfold custody_may.f mayB
  rw [person_f, day_f]
  cases perB h <;> simp only [Option.bind_some]
  · simp
  · by_cases c1 : 1 ≤ v <;> by_cases c2 : v < 65536 <;> by_cases c3 : 1 ≤ r <;> by_cases c4 : r ≤ 3 <;> cases dayB u <;> by_cases c5 : s = -1 <;> by_cases c6 : 1 ≤ s <;> simp [c1, c2, c3, c4, c5, c6]
theorem mayB_iff {h v r u s : Int} : mayB h v r u s = true ↔ 0 ≤ h ∧ h ≤ 15 ∧ 1 ≤ v ∧ v < 65536 ∧ 1 ≤ r ∧ r ≤ 3 ∧ 0 ≤ u ∧ u ≤ 1073741824 ∧ (s = -1 ∨ 1 ≤ s ∧ s ≤ 1048576) := by
  unfold mayB perB dayB
  simp only [Bool.and_eq_true, Bool.or_eq_true, decide_eq_true_eq]
  constructor
  · rintro ⟨⟨a, b⟩, ⟨⟨⟨⟨c, d⟩, e⟩, f⟩, g, h⟩, i⟩; exact ⟨a, b, c, d, e, f, g, h, i⟩
  · rintro ⟨a, b, c, d, e, f, g, h, i⟩; exact ⟨⟨a, b⟩, ⟨⟨⟨⟨c, d⟩, e⟩, f⟩, g, h⟩, i⟩
end Go.Proofs.Ytfnlghjkjmppdaa.PC
namespace Go.Proofs.Ytfnlghjkjmppdaa.PC
open Go.RowKit Go.Proofs.YtfnlghjkjmppdaaW.PrintWords Go.Proofs.YtfnlghjkjmppdaaW.PrintLast Go.Proofs.YtfnlghjkjmppdaaW.PrintMore
set_option linter.unusedVariables false
set_option linter.unusedSimpArgs false
theorem tree_le {G : List S39} (h : Tree G) : G.length ≤ 1000 := by have := h.1; omega
theorem below_box {w0 w' : World} (h : Below w0.heap.size w0 w') {p : Addr} (h1 : w0.heap.size ≤ p.block) (u v : Value) : Below w0.heap.size w0 ((w'.setCell p u).setCell p v).drew :=
  below_then ((h.setCell h1 u).setCell h1 v) ((h.setCell h1 u).setCell h1 v).size (below_drew1 (Below.refl _ _))
theorem Stands_none (base g : Nat) (F : Nat → Prop) (w : World) (day : Int) (G : List S39) (E : List S44) (n : Int) (h : BK base F w g day G E) (hn : ¬ (1 ≤ n ∧ n ≤ G.length)) : Calls Try.prog 30 #[.pointer (some ⟨g, 0, none⟩), .int .i64 n] w fun e w' => e = .returned (.tuple #[.bool false, .int .i64 6]) ∧ Below w.heap.size w w' := by
  have HBK := lhid h
  clear h
  have hmf : ∀ (fn : Fn) (first cap : Array Value) (w : World), (Instr.makeFunc fn first cap).run Try.prog w = .ok (.func fn first cap) w := fun _ _ _ _ => rfl
  go_enter_defers Try.func30, Try.ntmps30
  go_upto_region 2 with (fail)
  have HB_1 := lhid (Below.refl w.heap.size w)
  have hb := below_alloc (Below.refl w.heap.size w) (.cells #[.int .i64 0] 24)
  have hn := blk_new w (.cells #[.int .i64 0] 24)
  have HZ1 := lhid (show (World.alloc w (.cells #[.int .i64 0] 24)).heap.size = w.heap.size + 1 from by simp)
  generalize hq : World.alloc w (.cells #[.int .i64 0] 24) = w1 at hb hn HZ1 ⊢
  clear hq
  have HBK_2 := lhid (HBK.out.next hb)
  have HB_3 := lhid (below_then HB_1.out HB_1.out.size hb)
  clear HBK HB_1 hb
  have BX_4 := lhid (hn)
  clear hn
  clear hmf
  go_wp2_with fail
  with_reducible refine (get_none base g F w1 day G E n HBK_2.out hn).mono ?_
  rintro e w' ⟨rfl, rfl⟩
  refine leaves_cons (f := 58) (args := #[.pointer (some ⟨w.heap.size, 0, none⟩)]) (by simp) (by simp [go_sem]) ?_
  refine (catch58_panicking ⟨w.heap.size, 0, none⟩ 0 6 [] _ (blk_cell BX_4.out 0) (blk_frozen BX_4.out 0)).mono ?_
  rintro e u' w'' ⟨rfl, rfl, w1, hb, rfl⟩
  have hbw := (below_then HB_3.out HB_3.out.size hb).setCell (p := ⟨w.heap.size, 0, none⟩) (Nat.le_refl _) (.int .i64 6)
  have hcw := blk_cell (blk_put (blk_below BX_4.out hb) 0 (.int .i64 6) rfl) 0
  simp [Leaves, settle, results, Try.results30, go_sem, hcw]
  exact hbw
theorem Stands_ok (base g : Nat) (F : Nat → Prop) (w : World) (day : Int) (G : List S39) (E : List S44) (n : Int) (h : BK base F w g day G E) (hT : Tree G) (h1 : 1 ≤ n) (h2 : n ≤ G.length) : Calls Try.prog 30 #[.pointer (some ⟨g, 0, none⟩), .int .i64 n] w fun e w' => e = .returned (.tuple #[.bool (stB day G n.toNat), .int .i64 0]) ∧ Below w.heap.size w w' := by
  have HBK := lhid h
  have HT := lhid hT
  have HH := lhid (And.intro h1 h2)
  clear h hT h1 h2
  have hmf : ∀ (fn : Fn) (first cap : Array Value) (w : World), (Instr.makeFunc fn first cap).run Try.prog w = .ok (.func fn first cap) w := fun _ _ _ _ => rfl
  go_enter_defers Try.func30, Try.ntmps30
  go_upto_region 2 with (fail)
  have HB_1 := lhid (Below.refl w.heap.size w)
  have hb := below_alloc (Below.refl w.heap.size w) (.cells #[.int .i64 0] 24)
  have hn := blk_new w (.cells #[.int .i64 0] 24)
  have HZ1 := lhid (show (World.alloc w (.cells #[.int .i64 0] 24)).heap.size = w.heap.size + 1 from by simp)
  generalize hq : World.alloc w (.cells #[.int .i64 0] 24) = w1 at hb hn HZ1 ⊢
  clear hq
  have HBK_2 := lhid (HBK.out.next hb)
  have HB_3 := lhid (below_then HB_1.out HB_1.out.size hb)
  clear HBK HB_1 hb
  have BX_4 := lhid (hn)
  clear hn
  clear hmf
  go_wp2_with fail
  obtain ⟨AG, cG, AE, cE, ho⟩ := HBK_2.out.opn
  obtain ⟨b, hb, _⟩ := ho.ad (by have := HH.out.1; have := HH.out.2; omega)
  rw [hb] at ho
  clear hb
  with_reducible refine (get_some base g F w1 day G E cG AE cE b n ho HH.out.1 HH.out.2 (tree_le HT.out)).mono ?_
  rintro e w' ⟨rfl, rfl⟩
  clear ho
  go_wp2_with fail
  with_reducible refine (stands_calls base g F w1 day G E n HBK_2.out HT.out HH.out.1 HH.out.2).mono ?_
  rintro e w2 ⟨rfl, hb⟩
  have HBK_5 := lhid (HBK_2.out.next hb)
  have HB_6 := lhid (below_then HB_3.out HB_3.out.size hb)
  have BX_7 := lhid (blk_below BX_4.out hb)
  clear HBK_2 HB_3 BX_4 hb
  have hxc := blk_cell BX_7.out 0
  have hxz : ∀ o, w2.frozen? ⟨w.heap.size, o, none⟩ = false := fun o => blk_frozen BX_7.out o
  simp only [List.getElem?_toArray, List.getElem?_cons_zero] at hxc
  go_wp2_with fail
  have hz8 := blk_put BX_7.out 0 (.int .i64 0) rfl
  have hg8 : Below w.heap.size w (World.setCell (World.setCell w2 ⟨w.heap.size, 0, none⟩ (.int .i64 0)) ⟨w.heap.size, 0, none⟩ (.int .i64 0)).drew := below_box HB_6.out (p := ⟨w.heap.size, 0, none⟩) (Nat.le_refl _) (.int .i64 0) (.int .i64 0)
  generalize World.setCell w2 ⟨w.heap.size, 0, none⟩ (.int .i64 0) = w8 at hz8 hg8 ⊢
  have hcw := blk_cell (blk_put hz8 0 (.int .i64 0) rfl) 0
  have hc8 := blk_cell hz8 0
  have hf8 := blk_frozen hz8 0
  simp only [List.getElem?_toArray, List.getElem?_cons_zero, Array.setIfInBounds_def, List.size_toArray] at hc8 hcw
  refine leaves_cons (f := 58) (args := #[.pointer (some ⟨w.heap.size, 0, none⟩)]) (by simp) (by simp [go_sem]) ?_
  refine (catch58_idle ⟨w.heap.size, 0, none⟩ 0 w8 (by simpa using hc8) hf8).mono ?_
  rintro e u' w'' ⟨rfl, rfl, rfl⟩
  simp [Leaves, settle, results, Try.results30, go_sem, hcw]
  exact hg8
end Go.Proofs.Ytfnlghjkjmppdaa.PC
namespace Go.Proofs.Ytfnlghjkjmppdaa.PC
open Go.RowKit Go.Proofs.YtfnlghjkjmppdaaW.PrintWords Go.Proofs.YtfnlghjkjmppdaaW.PrintLast Go.Proofs.YtfnlghjkjmppdaaW.PrintMore
set_option linter.unusedVariables false
set_option linter.unusedSimpArgs false
theorem put9 {w0 W : World} {b : Nat} {u0 u1 u2 u3 u4 u5 u6 u7 u8 : Value} {ty : Nat} (h : W.heap[b]? = some (.cells #[u0, u1, u2, u3, u4, u5, u6, u7, u8] ty)) (hb : Below w0.heap.size w0 W) (hl : w0.heap.size ≤ b) (v0 v1 v2 v3 v4 v5 v6 v7 v8 : Value) :
    (World.setCell (World.setCell (World.setCell (World.setCell (World.setCell (World.setCell (World.setCell (World.setCell (World.setCell W ⟨b, 0, none⟩ v0) ⟨b, 1, none⟩ v1) ⟨b, 2, none⟩ v2) ⟨b, 3, none⟩ v3) ⟨b, 4, none⟩ v4) ⟨b, 5, none⟩ v5) ⟨b, 6, none⟩ v6) ⟨b, 7, none⟩ v7) ⟨b, 8, none⟩ v8).heap[b]? = some (.cells #[v0, v1, v2, v3, v4, v5, v6, v7, v8] ty) ∧ Below w0.heap.size w0 (World.setCell (World.setCell (World.setCell (World.setCell (World.setCell (World.setCell (World.setCell (World.setCell (World.setCell W ⟨b, 0, none⟩ v0) ⟨b, 1, none⟩ v1) ⟨b, 2, none⟩ v2) ⟨b, 3, none⟩ v3) ⟨b, 4, none⟩ v4) ⟨b, 5, none⟩ v5) ⟨b, 6, none⟩ v6) ⟨b, 7, none⟩ v7) ⟨b, 8, none⟩ v8) ∧ ∀ k t cs, k ≠ b → W.heap[k]? = some (.cells cs t) → (World.setCell (World.setCell (World.setCell (World.setCell (World.setCell (World.setCell (World.setCell (World.setCell (World.setCell W ⟨b, 0, none⟩ v0) ⟨b, 1, none⟩ v1) ⟨b, 2, none⟩ v2) ⟨b, 3, none⟩ v3) ⟨b, 4, none⟩ v4) ⟨b, 5, none⟩ v5) ⟨b, 6, none⟩ v6) ⟨b, 7, none⟩ v7) ⟨b, 8, none⟩ v8).heap[k]? = some (.cells cs t) := by
  have h0 : (World.setCell W ⟨b, 0, none⟩ v0).heap[b]? = some (.cells #[v0, u1, u2, u3, u4, u5, u6, u7, u8] ty) := blk_put h 0 v0 rfl
  have b0 : Below w0.heap.size w0 (World.setCell W ⟨b, 0, none⟩ v0) := hb.setCell (p := ⟨b, 0, none⟩) hl v0
  have h1 : (World.setCell (World.setCell W ⟨b, 0, none⟩ v0) ⟨b, 1, none⟩ v1).heap[b]? = some (.cells #[v0, v1, u2, u3, u4, u5, u6, u7, u8] ty) := blk_put h0 1 v1 rfl
  have b1 : Below w0.heap.size w0 (World.setCell (World.setCell W ⟨b, 0, none⟩ v0) ⟨b, 1, none⟩ v1) := b0.setCell (p := ⟨b, 1, none⟩) hl v1
  have h2 : (World.setCell (World.setCell (World.setCell W ⟨b, 0, none⟩ v0) ⟨b, 1, none⟩ v1) ⟨b, 2, none⟩ v2).heap[b]? = some (.cells #[v0, v1, v2, u3, u4, u5, u6, u7, u8] ty) := blk_put h1 2 v2 rfl
  have b2 : Below w0.heap.size w0 (World.setCell (World.setCell (World.setCell W ⟨b, 0, none⟩ v0) ⟨b, 1, none⟩ v1) ⟨b, 2, none⟩ v2) := b1.setCell (p := ⟨b, 2, none⟩) hl v2
  have h3 : (World.setCell (World.setCell (World.setCell (World.setCell W ⟨b, 0, none⟩ v0) ⟨b, 1, none⟩ v1) ⟨b, 2, none⟩ v2) ⟨b, 3, none⟩ v3).heap[b]? = some (.cells #[v0, v1, v2, v3, u4, u5, u6, u7, u8] ty) := blk_put h2 3 v3 rfl
  have b3 : Below w0.heap.size w0 (World.setCell (World.setCell (World.setCell (World.setCell W ⟨b, 0, none⟩ v0) ⟨b, 1, none⟩ v1) ⟨b, 2, none⟩ v2) ⟨b, 3, none⟩ v3) := b2.setCell (p := ⟨b, 3, none⟩) hl v3
  have h4 : (World.setCell (World.setCell (World.setCell (World.setCell (World.setCell W ⟨b, 0, none⟩ v0) ⟨b, 1, none⟩ v1) ⟨b, 2, none⟩ v2) ⟨b, 3, none⟩ v3) ⟨b, 4, none⟩ v4).heap[b]? = some (.cells #[v0, v1, v2, v3, v4, u5, u6, u7, u8] ty) := blk_put h3 4 v4 rfl
  have b4 : Below w0.heap.size w0 (World.setCell (World.setCell (World.setCell (World.setCell (World.setCell W ⟨b, 0, none⟩ v0) ⟨b, 1, none⟩ v1) ⟨b, 2, none⟩ v2) ⟨b, 3, none⟩ v3) ⟨b, 4, none⟩ v4) := b3.setCell (p := ⟨b, 4, none⟩) hl v4
  have h5 : (World.setCell (World.setCell (World.setCell (World.setCell (World.setCell (World.setCell W ⟨b, 0, none⟩ v0) ⟨b, 1, none⟩ v1) ⟨b, 2, none⟩ v2) ⟨b, 3, none⟩ v3) ⟨b, 4, none⟩ v4) ⟨b, 5, none⟩ v5).heap[b]? = some (.cells #[v0, v1, v2, v3, v4, v5, u6, u7, u8] ty) := blk_put h4 5 v5 rfl
  have b5 : Below w0.heap.size w0 (World.setCell (World.setCell (World.setCell (World.setCell (World.setCell (World.setCell W ⟨b, 0, none⟩ v0) ⟨b, 1, none⟩ v1) ⟨b, 2, none⟩ v2) ⟨b, 3, none⟩ v3) ⟨b, 4, none⟩ v4) ⟨b, 5, none⟩ v5) := b4.setCell (p := ⟨b, 5, none⟩) hl v5
  have h6 : (World.setCell (World.setCell (World.setCell (World.setCell (World.setCell (World.setCell (World.setCell W ⟨b, 0, none⟩ v0) ⟨b, 1, none⟩ v1) ⟨b, 2, none⟩ v2) ⟨b, 3, none⟩ v3) ⟨b, 4, none⟩ v4) ⟨b, 5, none⟩ v5) ⟨b, 6, none⟩ v6).heap[b]? = some (.cells #[v0, v1, v2, v3, v4, v5, v6, u7, u8] ty) := blk_put h5 6 v6 rfl
  have b6 : Below w0.heap.size w0 (World.setCell (World.setCell (World.setCell (World.setCell (World.setCell (World.setCell (World.setCell W ⟨b, 0, none⟩ v0) ⟨b, 1, none⟩ v1) ⟨b, 2, none⟩ v2) ⟨b, 3, none⟩ v3) ⟨b, 4, none⟩ v4) ⟨b, 5, none⟩ v5) ⟨b, 6, none⟩ v6) := b5.setCell (p := ⟨b, 6, none⟩) hl v6
  have h7 : (World.setCell (World.setCell (World.setCell (World.setCell (World.setCell (World.setCell (World.setCell (World.setCell W ⟨b, 0, none⟩ v0) ⟨b, 1, none⟩ v1) ⟨b, 2, none⟩ v2) ⟨b, 3, none⟩ v3) ⟨b, 4, none⟩ v4) ⟨b, 5, none⟩ v5) ⟨b, 6, none⟩ v6) ⟨b, 7, none⟩ v7).heap[b]? = some (.cells #[v0, v1, v2, v3, v4, v5, v6, v7, u8] ty) := blk_put h6 7 v7 rfl
  have b7 : Below w0.heap.size w0 (World.setCell (World.setCell (World.setCell (World.setCell (World.setCell (World.setCell (World.setCell (World.setCell W ⟨b, 0, none⟩ v0) ⟨b, 1, none⟩ v1) ⟨b, 2, none⟩ v2) ⟨b, 3, none⟩ v3) ⟨b, 4, none⟩ v4) ⟨b, 5, none⟩ v5) ⟨b, 6, none⟩ v6) ⟨b, 7, none⟩ v7) := b6.setCell (p := ⟨b, 7, none⟩) hl v7
  have h8 : (World.setCell (World.setCell (World.setCell (World.setCell (World.setCell (World.setCell (World.setCell (World.setCell (World.setCell W ⟨b, 0, none⟩ v0) ⟨b, 1, none⟩ v1) ⟨b, 2, none⟩ v2) ⟨b, 3, none⟩ v3) ⟨b, 4, none⟩ v4) ⟨b, 5, none⟩ v5) ⟨b, 6, none⟩ v6) ⟨b, 7, none⟩ v7) ⟨b, 8, none⟩ v8).heap[b]? = some (.cells #[v0, v1, v2, v3, v4, v5, v6, v7, v8] ty) := blk_put h7 8 v8 rfl
  have b8 : Below w0.heap.size w0 (World.setCell (World.setCell (World.setCell (World.setCell (World.setCell (World.setCell (World.setCell (World.setCell (World.setCell W ⟨b, 0, none⟩ v0) ⟨b, 1, none⟩ v1) ⟨b, 2, none⟩ v2) ⟨b, 3, none⟩ v3) ⟨b, 4, none⟩ v4) ⟨b, 5, none⟩ v5) ⟨b, 6, none⟩ v6) ⟨b, 7, none⟩ v7) ⟨b, 8, none⟩ v8) := b7.setCell (p := ⟨b, 8, none⟩) hl v8
  refine ⟨h8, b8, fun k t cs hk q => ?_⟩
  have q0 := blk_far (p := ⟨b, 0, none⟩) q hk v0
  have q1 := blk_far (p := ⟨b, 1, none⟩) q0 hk v1
  have q2 := blk_far (p := ⟨b, 2, none⟩) q1 hk v2
  have q3 := blk_far (p := ⟨b, 3, none⟩) q2 hk v3
  have q4 := blk_far (p := ⟨b, 4, none⟩) q3 hk v4
  have q5 := blk_far (p := ⟨b, 5, none⟩) q4 hk v5
  have q6 := blk_far (p := ⟨b, 6, none⟩) q5 hk v6
  have q7 := blk_far (p := ⟨b, 7, none⟩) q6 hk v7
  have q8 := blk_far (p := ⟨b, 8, none⟩) q7 hk v8
  exact q8
theorem Get_nil (w : World) (v : Value) (n : Int) (h : NoBook w v) : Calls Try.prog 37 #[v, .int .i64 n] w fun e w' => e = .returned (.tuple #[.agg #[.int .i64 0, .int .i64 0, .int .i64 0, .int .i64 0, .int .i64 0, .int .i64 0, .int .i64 0, .int .i64 0, .bool false], .int .i64 1]) ∧ Below w.heap.size w w' := by
  have HN := lhid h
  clear h
  have hmf : ∀ (fn : Fn) (first cap : Array Value) (w : World), (Instr.makeFunc fn first cap).run Try.prog w = .ok (.func fn first cap) w := fun _ _ _ _ => rfl
  go_enter_defers Try.func37, Try.ntmps37
  go_upto_region 2 with (fail)
  have HB_1 := lhid (Below.refl w.heap.size w)
  have hb := below_alloc (Below.refl w.heap.size w) (.cells #[.int .i64 0, .int .i64 0, .int .i64 0, .int .i64 0, .int .i64 0, .int .i64 0, .int .i64 0, .int .i64 0, .bool false] 39)
  have hn := blk_new w (.cells #[.int .i64 0, .int .i64 0, .int .i64 0, .int .i64 0, .int .i64 0, .int .i64 0, .int .i64 0, .int .i64 0, .bool false] 39)
  have HZ1 := lhid (show (World.alloc w (.cells #[.int .i64 0, .int .i64 0, .int .i64 0, .int .i64 0, .int .i64 0, .int .i64 0, .int .i64 0, .int .i64 0, .bool false] 39)).heap.size = w.heap.size + 1 from by simp)
  generalize hq : World.alloc w (.cells #[.int .i64 0, .int .i64 0, .int .i64 0, .int .i64 0, .int .i64 0, .int .i64 0, .int .i64 0, .int .i64 0, .bool false] 39) = w1 at hb hn HZ1 ⊢
  clear hq
  have HN_2 := lhid (HN.out.next hb)
  have HB_3 := lhid (below_then HB_1.out HB_1.out.size hb)
  clear HN HB_1 hb
  have BZ_4 := lhid (hn)
  clear hn
  have hb := below_alloc (Below.refl w1.heap.size w1) (.cells #[.int .i64 0] 24)
  have hn := blk_new w1 (.cells #[.int .i64 0] 24)
  have HZ2 := lhid (show (World.alloc w1 (.cells #[.int .i64 0] 24)).heap.size = w1.heap.size + 1 from by simp)
  generalize hq : World.alloc w1 (.cells #[.int .i64 0] 24) = w2 at hb hn HZ2 ⊢
  clear hq
  have HN_5 := lhid (HN_2.out.next hb)
  have HB_6 := lhid (below_then HB_3.out HB_3.out.size hb)
  have BZ_7 := lhid (blk_below BZ_4.out hb)
  clear HN_2 HB_3 BZ_4 hb
  rw [HZ1.out] at hn
  have BX_8 := lhid (hn)
  clear hn
  clear hmf
  go_wp2_with fail
  with_reducible refine (get_nil w2 v n HN_5.out).mono ?_
  rintro e w' ⟨rfl, rfl⟩
  refine leaves_cons (f := 73) (args := #[.pointer (some ⟨w.heap.size + 1, 0, none⟩)]) (by simp) (by simp [go_sem]) ?_
  refine (catch73_panicking ⟨w.heap.size + 1, 0, none⟩ 0 1 [] _ (blk_cell BX_8.out 0) (blk_frozen BX_8.out 0)).mono ?_
  rintro e u' w'' ⟨rfl, rfl, w1, hb, rfl⟩
  have hbw := (below_then HB_6.out HB_6.out.size hb).setCell (p := ⟨w.heap.size + 1, 0, none⟩) (Nat.le_add_right _ _) (.int .i64 1)
  have hcw := blk_cell (blk_put (blk_below BX_8.out hb) 0 (.int .i64 1) rfl) 0
  have hz9 := blk_far (blk_below BZ_7.out hb) (p := ⟨w.heap.size + 1, 0, none⟩) (show w.heap.size ≠ w.heap.size + 1 by omega) (.int .i64 1)
  obtain ⟨z0, z1, z2, z3, z4, z5, z6, z7, z8⟩ := nine hz9
  simp [Leaves, settle, results, Try.results37, go_sem, hcw, z0, z1, z2, z3, z4, z5, z6, z7, z8]
  exact hbw
theorem Get_none (base g : Nat) (F : Nat → Prop) (w : World) (day : Int) (G : List S39) (E : List S44) (n : Int) (h : BK base F w g day G E) (hn : ¬ (1 ≤ n ∧ n ≤ G.length)) : Calls Try.prog 37 #[.pointer (some ⟨g, 0, none⟩), .int .i64 n] w fun e w' => e = .returned (.tuple #[.agg #[.int .i64 0, .int .i64 0, .int .i64 0, .int .i64 0, .int .i64 0, .int .i64 0, .int .i64 0, .int .i64 0, .bool false], .int .i64 6]) ∧ Below w.heap.size w w' := by
  have HBK := lhid h
  clear h
  have hmf : ∀ (fn : Fn) (first cap : Array Value) (w : World), (Instr.makeFunc fn first cap).run Try.prog w = .ok (.func fn first cap) w := fun _ _ _ _ => rfl
  go_enter_defers Try.func37, Try.ntmps37
  go_upto_region 2 with (fail)
  have HB_1 := lhid (Below.refl w.heap.size w)
  have hb := below_alloc (Below.refl w.heap.size w) (.cells #[.int .i64 0, .int .i64 0, .int .i64 0, .int .i64 0, .int .i64 0, .int .i64 0, .int .i64 0, .int .i64 0, .bool false] 39)
  have hn := blk_new w (.cells #[.int .i64 0, .int .i64 0, .int .i64 0, .int .i64 0, .int .i64 0, .int .i64 0, .int .i64 0, .int .i64 0, .bool false] 39)
  have HZ1 := lhid (show (World.alloc w (.cells #[.int .i64 0, .int .i64 0, .int .i64 0, .int .i64 0, .int .i64 0, .int .i64 0, .int .i64 0, .int .i64 0, .bool false] 39)).heap.size = w.heap.size + 1 from by simp)
  generalize hq : World.alloc w (.cells #[.int .i64 0, .int .i64 0, .int .i64 0, .int .i64 0, .int .i64 0, .int .i64 0, .int .i64 0, .int .i64 0, .bool false] 39) = w1 at hb hn HZ1 ⊢
  clear hq
  have HBK_2 := lhid (HBK.out.next hb)
  have HB_3 := lhid (below_then HB_1.out HB_1.out.size hb)
  clear HBK HB_1 hb
  have BZ_4 := lhid (hn)
  clear hn
  have hb := below_alloc (Below.refl w1.heap.size w1) (.cells #[.int .i64 0] 24)
  have hn := blk_new w1 (.cells #[.int .i64 0] 24)
  have HZ2 := lhid (show (World.alloc w1 (.cells #[.int .i64 0] 24)).heap.size = w1.heap.size + 1 from by simp)
  generalize hq : World.alloc w1 (.cells #[.int .i64 0] 24) = w2 at hb hn HZ2 ⊢
  clear hq
  have HBK_5 := lhid (HBK_2.out.next hb)
  have HB_6 := lhid (below_then HB_3.out HB_3.out.size hb)
  have BZ_7 := lhid (blk_below BZ_4.out hb)
  clear HBK_2 HB_3 BZ_4 hb
  rw [HZ1.out] at hn
  have BX_8 := lhid (hn)
  clear hn
  clear hmf
  go_wp2_with fail
  with_reducible refine (get_none base g F w2 day G E n HBK_5.out hn).mono ?_
  rintro e w' ⟨rfl, rfl⟩
  refine leaves_cons (f := 73) (args := #[.pointer (some ⟨w.heap.size + 1, 0, none⟩)]) (by simp) (by simp [go_sem]) ?_
  refine (catch73_panicking ⟨w.heap.size + 1, 0, none⟩ 0 6 [] _ (blk_cell BX_8.out 0) (blk_frozen BX_8.out 0)).mono ?_
  rintro e u' w'' ⟨rfl, rfl, w1, hb, rfl⟩
  have hbw := (below_then HB_6.out HB_6.out.size hb).setCell (p := ⟨w.heap.size + 1, 0, none⟩) (Nat.le_add_right _ _) (.int .i64 6)
  have hcw := blk_cell (blk_put (blk_below BX_8.out hb) 0 (.int .i64 6) rfl) 0
  have hz9 := blk_far (blk_below BZ_7.out hb) (p := ⟨w.heap.size + 1, 0, none⟩) (show w.heap.size ≠ w.heap.size + 1 by omega) (.int .i64 6)
  obtain ⟨z0, z1, z2, z3, z4, z5, z6, z7, z8⟩ := nine hz9
  simp [Leaves, settle, results, Try.results37, go_sem, hcw, z0, z1, z2, z3, z4, z5, z6, z7, z8]
  exact hbw
theorem Get_ok (base g : Nat) (F : Nat → Prop) (w : World) (day : Int) (G : List S39) (E : List S44) (n : Nat) (h : BK base F w g day G E) (hl : G.length ≤ 1000) (h1 : 1 ≤ n) (h2 : n ≤ G.length) : Calls Try.prog 37 #[.pointer (some ⟨g, 0, none⟩), .int .i64 n] w fun e w' => e = .returned (.tuple #[.agg #[.int .i64 (gr G n).f0, .int .i64 (gr G n).f1, .int .i64 (gr G n).f2, .int .i64 (gr G n).f3, .int .i64 (gr G n).f4, .int .i64 (gr G n).f5, .int .i64 (gr G n).f6, .int .i64 (gr G n).f7, .bool (gr G n).f8], .int .i64 0]) ∧ Below w.heap.size w w' := by
  have HBK := lhid h
  have HL := lhid hl
  have HH := lhid (And.intro h1 h2)
  clear h hl h1 h2
  have hmf : ∀ (fn : Fn) (first cap : Array Value) (w : World), (Instr.makeFunc fn first cap).run Try.prog w = .ok (.func fn first cap) w := fun _ _ _ _ => rfl
  go_enter_defers Try.func37, Try.ntmps37
  go_upto_region 2 with (fail)
  have HB_1 := lhid (Below.refl w.heap.size w)
  have hb := below_alloc (Below.refl w.heap.size w) (.cells #[.int .i64 0, .int .i64 0, .int .i64 0, .int .i64 0, .int .i64 0, .int .i64 0, .int .i64 0, .int .i64 0, .bool false] 39)
  have hn := blk_new w (.cells #[.int .i64 0, .int .i64 0, .int .i64 0, .int .i64 0, .int .i64 0, .int .i64 0, .int .i64 0, .int .i64 0, .bool false] 39)
  have HZ1 := lhid (show (World.alloc w (.cells #[.int .i64 0, .int .i64 0, .int .i64 0, .int .i64 0, .int .i64 0, .int .i64 0, .int .i64 0, .int .i64 0, .bool false] 39)).heap.size = w.heap.size + 1 from by simp)
  generalize hq : World.alloc w (.cells #[.int .i64 0, .int .i64 0, .int .i64 0, .int .i64 0, .int .i64 0, .int .i64 0, .int .i64 0, .int .i64 0, .bool false] 39) = w1 at hb hn HZ1 ⊢
  clear hq
  have HBK_2 := lhid (HBK.out.next hb)
  have HB_3 := lhid (below_then HB_1.out HB_1.out.size hb)
  clear HBK HB_1 hb
  have BZ_4 := lhid (hn)
  clear hn
  have hb := below_alloc (Below.refl w1.heap.size w1) (.cells #[.int .i64 0] 24)
  have hn := blk_new w1 (.cells #[.int .i64 0] 24)
  have HZ2 := lhid (show (World.alloc w1 (.cells #[.int .i64 0] 24)).heap.size = w1.heap.size + 1 from by simp)
  generalize hq : World.alloc w1 (.cells #[.int .i64 0] 24) = w2 at hb hn HZ2 ⊢
  clear hq
  have HBK_5 := lhid (HBK_2.out.next hb)
  have HB_6 := lhid (below_then HB_3.out HB_3.out.size hb)
  have BZ_7 := lhid (blk_below BZ_4.out hb)
  clear HBK_2 HB_3 BZ_4 hb
  rw [HZ1.out] at hn
  have BX_8 := lhid (hn)
  clear hn
  clear hmf
  go_wp2_with fail
  obtain ⟨AG, cG, AE, cE, ho⟩ := HBK_5.out.opn
  obtain ⟨b, hb, _⟩ := ho.ad (by have := HH.out.1; have := HH.out.2; omega)
  rw [hb] at ho
  clear hb
  with_reducible refine (get_some base g F w2 day G E cG AE cE b n ho (by have := HH.out.1; omega) (by have := HH.out.2; omega) HL.out).mono ?_
  rintro e w' ⟨rfl, rfl⟩
  rw [Int.toNat_natCast]
  unfold pt
  obtain ⟨x0, x1, x2, x3, x4, x5, x6, x7, x8⟩ := ho.cells n HH.out.1 HH.out.2
  clear ho
  have hxc := blk_cell BX_8.out 0
  have hxz : ∀ o, w2.frozen? ⟨w.heap.size + 1, o, none⟩ = false := fun o => blk_frozen BX_8.out o
  simp only [List.getElem?_toArray, List.getElem?_cons_zero] at hxc
  obtain ⟨z0, z1, z2, z3, z4, z5, z6, z7, z8⟩ := nine BZ_7.out
  have hzz : ∀ o, w2.frozen? ⟨w.heap.size, o, none⟩ = false := fun o => blk_frozen BZ_7.out o
  go_wp2_with fail
  obtain ⟨hp1, hp2, hp3⟩ := put9 BZ_7.out HB_6.out (Nat.le_refl _) (.int .i64 (gr G n).f0) (.int .i64 (gr G n).f1) (.int .i64 (gr G n).f2) (.int .i64 (gr G n).f3) (.int .i64 (gr G n).f4) (.int .i64 (gr G n).f5) (.int .i64 (gr G n).f6) (.int .i64 (gr G n).f7) (.bool (gr G n).f8)
  have hp4 := hp3 (w.heap.size + 1) _ _ (by omega) BX_8.out
  clear hp3 hzz hxz hxc x0 x1 x2 x3 x4 x5 x6 x7 x8 z0 z1 z2 z3 z4 z5 z6 z7 z8
  generalize (World.setCell (World.setCell (World.setCell (World.setCell (World.setCell (World.setCell (World.setCell (World.setCell (World.setCell w2 ⟨w.heap.size, 0, none⟩ (.int .i64 (gr G n).f0)) ⟨w.heap.size, 1, none⟩ (.int .i64 (gr G n).f1)) ⟨w.heap.size, 2, none⟩ (.int .i64 (gr G n).f2)) ⟨w.heap.size, 3, none⟩ (.int .i64 (gr G n).f3)) ⟨w.heap.size, 4, none⟩ (.int .i64 (gr G n).f4)) ⟨w.heap.size, 5, none⟩ (.int .i64 (gr G n).f5)) ⟨w.heap.size, 6, none⟩ (.int .i64 (gr G n).f6)) ⟨w.heap.size, 7, none⟩ (.int .i64 (gr G n).f7)) ⟨w.heap.size, 8, none⟩ (.bool (gr G n).f8)) = w5 at hp1 hp2 hp4 ⊢
  have BZ9 := lhid hp1
  have BX9 := lhid hp4
  have HB9 := lhid hp2
  clear hp1 hp2 hp4
  have hzb := blk_far (p := ⟨w.heap.size + 1, 0, none⟩) BZ9.out (show w.heap.size ≠ w.heap.size + 1 by omega) (.int .i64 0)
  have hz8 := blk_put BX9.out 0 (.int .i64 0) rfl
  have hg8 : Below w.heap.size w (World.setCell (World.setCell w5 ⟨w.heap.size + 1, 0, none⟩ (.int .i64 0)) ⟨w.heap.size + 1, 0, none⟩ (.int .i64 0)).drew := below_box HB9.out (p := ⟨w.heap.size + 1, 0, none⟩) (Nat.le_add_right _ _) (.int .i64 0) (.int .i64 0)
  generalize World.setCell w5 ⟨w.heap.size + 1, 0, none⟩ (.int .i64 0) = w8 at hz8 hg8 hzb ⊢
  have hcw := blk_cell (blk_put hz8 0 (.int .i64 0) rfl) 0
  have hc8 := blk_cell hz8 0
  have hf8 := blk_frozen hz8 0
  simp only [List.getElem?_toArray, List.getElem?_cons_zero, Array.setIfInBounds_def, List.size_toArray] at hc8 hcw
  refine leaves_cons (f := 73) (args := #[.pointer (some ⟨w.heap.size + 1, 0, none⟩)]) (by simp) (by simp [go_sem]) ?_
  refine (catch73_idle ⟨w.heap.size + 1, 0, none⟩ 0 w8 (by simpa using hc8) hf8).mono ?_
  rintro e u' w'' ⟨rfl, rfl, rfl⟩
  have hz9 := blk_far hzb (p := ⟨w.heap.size + 1, 0, none⟩) (show w.heap.size ≠ w.heap.size + 1 by omega) (.int .i64 0)
  obtain ⟨z0, z1, z2, z3, z4, z5, z6, z7, z8⟩ := nine hz9
  simp [Leaves, settle, results, Try.results37, go_sem, hcw, z0, z1, z2, z3, z4, z5, z6, z7, z8]
  exact hg8
end Go.Proofs.Ytfnlghjkjmppdaa.PC
end
