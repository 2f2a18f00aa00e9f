/-
  The texts that the theorem in YthfdjccdelbeeaaZRowAs rests on, merged (part 4); only what it reaches.
-/
import Derived.Deep.WholeRow
import Derived.Deep.MidRow
import Derived.Test.YthfdjccdelbeeaaZAs2
section
namespace Go.Proofs.Ythfdjccdelbeeaa.PT
open Go.RowKit Go.Proofs.YthfdjccdelbeeaaW.PrintWords Go.Proofs.YthfdjccdelbeeaaW.PrintLast Go.Proofs.YthfdjccdelbeeaaW.PrintMore Go.Proofs.Ythfdjccdelbeeaa.Gm
set_option linter.unusedVariables false
set_option linter.unusedSimpArgs false
theorem q_new (W : World) (N0 : Nat) (h : N0 ≤ W.heap.size) (x : Int) : Kd.Q (Kd.int .i64) 3 (W.alloc (.cells #[.int .i64 x] 3)) N0 (fun _ => True) (.slice (some ⟨W.heap.size, 0, none⟩) 1 1) [x] :=
  Kd.Q_of_R (Kd.R_of_own (by
    have := World.ownsRow_lit (base := N0) (e := 3) (size := 1) W #[.int .i64 x] 1 h (by simp [maxLen]) (by simp)
    simpa [encs] using this) (fun _ _ => trivial))
theorem q_tail {W : World} {base : Nat} {ok : Nat → Prop} {A : Option Addr} {n c v : Nat} {q : List Nat} (h : Kd.Q (Kd.int .i64) 3 W base ok (.slice A n c) (qi (v :: q))) : ∃ Av cv, (∀ W' : World, (Instr.slice 26 (.slice A n c) (some (.int .i64 1)) none none).run Try.prog W' = .ok (.slice Av q.length cv) W') ∧ Kd.Q (Kd.int .i64) 3 W base ok (.slice Av q.length cv) (qi q) := by
  obtain ⟨hn, hc, _⟩ := Kd.Q_reads' h
  rw [qi_len, List.length_cons] at hn
  have hd := Kd.Q_drop h (k := 1) (by rw [qi_len, List.length_cons]; omega)
  rw [show n - 1 = q.length by omega, show (qi (v :: q)).drop 1 = qi q from rfl] at hd
  refine ⟨_, _, fun W' => ?_, hd⟩
  obtain ⟨i0, hi, hzz⟩ := Option.map_eq_some_iff.1 info3
  simp only [Prod.mk.injEq] at hzz
  have hel : Try.prog.elem 26 = 3 := by simp [Program.elem, Try.underlying26]
  have hu : Try.prog.underlying 26 = some (.slice (Try.prog.elem 26)) := by rw [hel]; exact Try.underlying26
  rw [run_slice_l W' 26 A n c hu .i64 1 (by decide) (by omega), hel]
  simp [sizeOf, typeInfo, hi, hzz.2.1, sliced, Result.andThen, show (Kd.int .i64).sz = 1 from rfl]
  omega
theorem pb_next {p b : Nat → Int} {k : Nat} (h : ∀ j, j < k → p j = -1 ∧ b j = (j : Int)) : ∀ j, j < k + 1 → put p k (-1) j = -1 ∧ put b k (k : Int) j = (j : Int) := fun j hj => by
  by_cases e : j = k
  · subst e; rw [put_at, put_at]; exact ⟨rfl, rfl⟩
  · rw [put_ne _ _ e, put_ne _ _ e]; exact h j (by omega)
theorem k_next {n j v x K : Nat} {p : Nat → Int} {q : List Nat} (h : q.length + cnt (fun i => decide (p i < 0)) n = K) (hj : j < n) (hp : p j < 0) : (q ++ [x]).length + cnt (fun i => decide (put p j (v : Int) i < 0)) n = K := by
  have := cnt_less (f := fun i => decide (p i < 0)) (g := fun i => decide (put p j (v : Int) i < 0)) (j := j) (decide_eq_true hp) (by rw [put_at]; exact decide_eq_false (by omega)) (fun i _ hi => by rw [put_ne _ _ hi]) hj
  rw [List.length_append]; simp only [List.length_cons, List.length_nil]; omega
def SrP (n s : Nat) (G : Nat → Nat → Bool) (m : Nat → Nat) (root gb fb : Nat) (vm : Value) (w : World) (e : Ending) (w' : World) : Prop := ∃ (p b : Nat → Int) (u : Nat → Bool) (vq : Value) (d : Nat → Nat), w'.heap[fb]? = some (.cells (fcs gb vm vq p b u) 141) ∧ Chg (fun k => k = fb) w w' ∧ ((e = .returned (.int .i64 (-1)) ∧ Ou n s G m p root d []) ∨ ∃ t : Nat, e = .returned (.int .i64 (t : Int)) ∧ Wy n s G m p root d t)
set_option maxHeartbeats 12800000 in
set_option maxRecDepth 100000 in
theorem search_c (w : World) (fb gb n s root : Nat) (base : Nat) (ok : Nat → Prop) (vq : Value) (p b : Nat → Int) (u : Nat → Bool) (G : Nat → Nat → Bool) (m : Nat → Nat) (A : Option Addr) (c : Nat) (hF : w.heap[fb]? = some (.cells (fcs gb (.slice A n c) vq p b u) 141)) (hG : w.heap[gb]? = some (.cells (gcs n G) 128)) (hM : Kd.R (Kd.int .i64) 3 w base ok (.slice A n c) (ml n m)) (hbp : Bip n s G) (hmt : Mat n G m) (hn24 : n ≤ 24) (hr : root < n) (hr2 : m root = n) : Calls Try.prog 74 #[.pointer (some ⟨fb, 0, none⟩), .int .i64 (root : Int)] w (SrP n s G m root gb fb (.slice A n c) w) := by
  obtain ⟨am, eA, hyA⟩ := ml_at (ml_C hM) hr
  subst eA
  clear hyA
  have hu141 := Try.underlying141
  have hu128 := Try.underlying128
  have hu26 := Try.underlying26
  have hu126 := Try.underlying126
  have hu125 := Try.underlying125
  have hu139 := Try.underlying139
  have HF := lhid hF
  have HG := lhid hG
  have HM := lhid hM
  have HMT := lhid hmt
  have HBP := lhid hbp
  have HN := lhid (And.intro hn24 hr)
  have HR2 := lhid hr2
  clear hF hG hM hmt hbp hr2
  have HNE := lhid (show gb ≠ fb from fun e => by have h1 := HF.out; have h2 := HG.out; rw [e, h1] at h2; injection h2 with h2; injection h2 with _ h2; cases h2)
  have HFL := lhid (blk_lt HF.out)
  have HCH := lhid (Chg.refl (fun k => k = fb) w)
  have HMR := lhid (Kd.R_mono (Kd.R_bound HM.out) (ok' := fun k => k < w.heap.size) (fun k q => q.2.2.1))
  go_enter Try.func74, Try.ntmps74
  have f0 := (blk_cell HF.out 0).trans (fcs_g ..)
  have g0 := (blk_cell HG.out 0).trans (gcs_n ..)
  have h24 : (n : Int) ≤ 24 := by omega
  go_upto_region 2 with (fail)
  try any_goals (exfalso; omega)
  clear f0 g0
  go_loopw [15] (fun i wr => ∃ k : Nat, k ≤ n ∧ i = .int .i64 k ∧ ∃ (p b : Nat → Int) (u : Nat → Bool), Hid (∀ j, j < k → p j = -1 ∧ b j = (j : Int)) ∧ Hid (wr.heap[fb]? = some (.cells (fcs gb (.slice (some am) n c) vq p b u) 141)) ∧ Hid (wr.heap[gb]? = some (.cells (gcs n G) 128)) ∧ Hid (Kd.R (Kd.int .i64) 3 wr base (fun k => k < w.heap.size) (.slice (some am) n c) (ml n m)) ∧ Hid (Chg (fun k => k = fb) w wr)) (fun i _ => n - (intOf i).toNat)
  case atStart => exact ⟨0, Nat.zero_le _, rfl, p, b, u, lhid (fun j h => by omega), HF, HG, HMR, HCH⟩
  case round =>
    clear HF HG HMR HCH
    clear p b u
    obtain ⟨k, hk, rfl, p, b, u, HPB, FOr, GBr, MRr, CHr⟩ := hrel
    by_cases hlt : k < n
    · have hki : (k : Int) < (n : Int) := by omega
      have hk0 : (0 : Int) ≤ (k : Int) := by omega
      have hk24 : (k : Int) < 24 := by omega
      have hkn : k < 24 := by omega
      go_upto_region 4 with (fail)
      try any_goals (exfalso; omega)
      have hb := below_drew1 (Below.refl wr.heap.size wr)
      have FO_1 := lhid (blk_below FOr.out hb)
      have GB_2 := lhid (blk_below GBr.out hb)
      have MR_3 := lhid (Kd.R_below MRr.out hb)
      have CH_4 := lhid (CHr.out.next hb)
      clear FOr GBr MRr CHr hb
      refine start_ (n := 19) (S := fun w' => True) (ds := []) (lsq 19 0) (by kernel_rfl) rfl rfl trivial (fun hHeld => ?_)
      generalize wr.drew = w11 at FO_1 GB_2 MR_3 CH_4 hHeld ⊢
      refine pure_ (i := 0) (N := some 18) (v := ?_) (a' := ?_) (lsq 19 1) rfl rfl (by as_aux_lemma => kernel_rfl) (fun _ _ _ h => h) (Or.inl ⟨by rfl, ?_⟩) ?_ ?_; rotate_left; (intro w'; go_simp; with_reducible rfl); rotate_left; (simp only [Act.put, List.setIfInBounds_toArray, List.set_cons_zero, List.set_cons_succ, i64_w, i32_w]; rfl)
      refine pure_ (i := 1) (N := some 19) (v := ?_) (a' := ?_) (lsq 19 3) rfl rfl (by as_aux_lemma => kernel_rfl) (fun _ _ _ h => h) (Or.inl ⟨by rfl, ?_⟩) ?_ ?_; rotate_left; (intro w'; go_simp; with_reducible rfl); rotate_left; (simp only [Act.put, List.setIfInBounds_toArray, List.set_cons_zero, List.set_cons_succ, i64_w, i32_w]; rfl)
      refine pure_ (i := 2) (N := some 20) (v := ?_) (a' := ?_) (lsq 19 7) rfl rfl (by as_aux_lemma => kernel_rfl) (fun _ _ _ h => h) (Or.inl ⟨by rfl, ?_⟩) ?_ ?_; rotate_left; (intro w'; go_simp; with_reducible rfl); rotate_left; (simp only [Act.put, List.setIfInBounds_toArray, List.set_cons_zero, List.set_cons_succ, i64_w, i32_w]; rfl)
      refine pure_ (i := 3) (N := some 21) (v := ?_) (a' := ?_) (lsq 19 15) rfl rfl (by as_aux_lemma => kernel_rfl) (fun _ _ _ h => h) (Or.inl ⟨by rfl, ?_⟩) ?_ ?_; rotate_left; (intro w'; go_simp; with_reducible rfl); rotate_left; (simp only [Act.put, List.setIfInBounds_toArray, List.set_cons_zero, List.set_cons_succ, i64_w, i32_w]; rfl)
      refine pure_ (i := 4) (N := some 22) (v := ?_) (a' := ?_) (lsq 19 31) rfl rfl (by as_aux_lemma => kernel_rfl) (fun _ _ _ h => h) (Or.inl ⟨by rfl, ?_⟩) ?_ ?_; rotate_left; (intro w'; go_simp; with_reducible rfl); rotate_left; (simp only [Act.put, List.setIfInBounds_toArray, List.set_cons_zero, List.set_cons_succ, i64_w, i32_w]; rfl)
      refine pure_ (i := 5) (N := some 23) (v := ?_) (a' := ?_) (lsq 19 63) rfl rfl (by as_aux_lemma => kernel_rfl) (fun _ _ _ h => h) (Or.inl ⟨by rfl, ?_⟩) ?_ ?_; rotate_left; (intro w'; go_simp; with_reducible rfl); rotate_left; (simp only [Act.put, List.setIfInBounds_toArray, List.set_cons_zero, List.set_cons_succ, i64_w, i32_w]; rfl)
      refine pure_ (i := 6) (N := some 24) (v := ?_) (a' := ?_) (lsq 19 127) rfl rfl (by as_aux_lemma => kernel_rfl) (fun _ _ _ h => h) (Or.inl ⟨by rfl, ?_⟩) ?_ ?_; rotate_left; (intro w'; go_simp; with_reducible rfl); rotate_left; (simp only [Act.put, List.setIfInBounds_toArray, List.set_cons_zero, List.set_cons_succ, i64_w, i32_w]; rfl)
      refine pure_ (i := 7) (N := some 25) (v := ?_) (a' := ?_) (lsq 19 255) rfl rfl (by as_aux_lemma => kernel_rfl) (fun _ _ _ h => h) (Or.inl ⟨by rfl, ?_⟩) ?_ ?_; rotate_left; (intro w'; go_simp; with_reducible rfl); rotate_left; (simp only [Act.put, List.setIfInBounds_toArray, List.set_cons_zero, List.set_cons_succ, i64_w, i32_w]; rfl)
      refine pure_ (i := 8) (N := some 26) (v := ?_) (a' := ?_) (lsq 19 511) rfl rfl (by as_aux_lemma => kernel_rfl) (fun _ _ _ h => h) (Or.inl ⟨by rfl, ?_⟩) ?_ ?_; rotate_left; (intro w'; go_simp; with_reducible rfl); rotate_left; (simp only [Act.put, List.setIfInBounds_toArray, List.set_cons_zero, List.set_cons_succ, i64_w, i32_w]; rfl)
      refine pure_ (i := 9) (N := some 27) (v := ?_) (a' := ?_) (lsq 19 1023) rfl rfl (by as_aux_lemma => kernel_rfl) (fun _ _ _ h => h) (Or.inl ⟨by rfl, ?_⟩) ?_ ?_; rotate_left; (intro w'; go_simp; with_reducible rfl); rotate_left; (simp only [Act.put, List.setIfInBounds_toArray, List.set_cons_zero, List.set_cons_succ, i64_w, i32_w]; rfl)
      refine pure_ (i := 11) (N := some 28) (v := ?_) (a' := ?_) (lsq 19 3071) rfl rfl (by as_aux_lemma => kernel_rfl) (fun _ _ _ h => h) (Or.inl ⟨by rfl, ?_⟩) ?_ ?_; rotate_left; (intro w'; go_simp; with_reducible rfl); rotate_left; (simp only [Act.put, List.setIfInBounds_toArray, List.set_cons_zero, List.set_cons_succ, i64_w, i32_w]; rfl)
      refine pure_ (i := 12) (N := some 29) (v := ?_) (a' := ?_) (lsq 19 7167) rfl rfl (by as_aux_lemma => kernel_rfl) (fun _ _ _ h => h) (Or.inl ⟨by rfl, ?_⟩) ?_ ?_; rotate_left; (intro w'; go_simp; with_reducible rfl); rotate_left; (simp only [Act.put, List.setIfInBounds_toArray, List.set_cons_zero, List.set_cons_succ, i64_w, i32_w]; rfl)
      refine pure_ (i := 15) (N := some 31) (v := ?_) (a' := ?_) (lsq 19 39935) rfl rfl (by as_aux_lemma => kernel_rfl) (fun _ _ _ h => h) (Or.inl ⟨by rfl, ?_⟩) ?_ ?_; rotate_left; (intro w'; go_simp; with_reducible rfl); rotate_left; (simp only [Act.put, List.setIfInBounds_toArray, List.set_cons_zero, List.set_cons_succ, i64_w, i32_w]; rfl)
      refine pure_ (i := 16) (N := some 32) (v := ?_) (a' := ?_) (lsq 19 105471) rfl rfl (by as_aux_lemma => kernel_rfl) (fun _ _ _ h => h) (Or.inl ⟨by rfl, ?_⟩) ?_ ?_; rotate_left; (intro w'; go_simp; with_reducible rfl); rotate_left; (simp only [Act.put, List.setIfInBounds_toArray, List.set_cons_zero, List.set_cons_succ, i64_w, i32_w]; rfl)
      refine one_ (i := 10) (N := none) (lsq 19 106495) rfl rfl (by kernel_rfl) (by decide) (fun K hK => ?_)
      have dc := (blk_cell FO_1.out (2 + k)).trans (fcs_p _ _ _ _ _ _ hkn)
      have df := blk_frozen FO_1.out (2 + k)
      refine skip_ (w1 := ?_) (by rfl) rfl ?_ ?_
      rotate_left
      · go_simp
        rfl
      clear dc df
      have FOs1 := lhid (show (World.setCell w11 ⟨fb, 2 + k, none⟩ (.int .i64 (-1))).heap[fb]? = some (.cells (fcs gb (.slice (some am) n c) vq (put p k (-1)) b u) 141) from blk_put FO_1.out (2 + k) (.int .i64 (-1)) (fcs_sp _ _ _ _ _ _ hkn _))
      have GBs1 := lhid (blk_far GB_2.out (p := ⟨fb, 2 + k, none⟩) (by have h1 := HNE.out; show gb ≠ fb; omega) (.int .i64 (-1)))
      have MRs1 := lhid (Kd.R_set MR_3.out FO_1.out (by decide) (2 + k) (.int .i64 (-1)))
      have CHs1 := lhid (CH_4.out.set (p := ⟨fb, 2 + k, none⟩) (Or.inr rfl) (.int .i64 (-1)))
      clear FO_1 GB_2 MR_3 CH_4
      generalize World.setCell w11 ⟨fb, 2 + k, none⟩ (.int .i64 (-1)) = ws1 at FOs1 GBs1 MRs1 CHs1 ⊢
      refine hK.out _ _ trivial (fun hHeld => ?_)
      clear hK K
      refine pure_ (i := 13) (N := some 30) (v := ?_) (a' := ?_) (lsq 19 114687) rfl rfl (by as_aux_lemma => kernel_rfl) (fun _ _ _ h => h) (Or.inl ⟨by rfl, ?_⟩) ?_ ?_; rotate_left; (intro w'; go_simp; with_reducible rfl); rotate_left; (simp only [Act.put, List.setIfInBounds_toArray, List.set_cons_zero, List.set_cons_succ, i64_w, i32_w]; rfl)
      refine one_ (i := 14) (N := none) (lsq 19 131071) rfl rfl (by kernel_rfl) (by decide) (fun K hK => ?_)
      have dc := (blk_cell FOs1.out (26 + k)).trans (fcs_b _ _ _ _ _ _ hkn)
      have df := blk_frozen FOs1.out (26 + k)
      refine skip_ (w1 := ?_) (by rfl) rfl ?_ ?_
      rotate_left
      · go_simp
        rfl
      clear dc df
      have FOs2 := lhid (show (World.setCell ws1 ⟨fb, 26 + k, none⟩ (.int .i64 (k : Int))).heap[fb]? = some (.cells (fcs gb (.slice (some am) n c) vq (put p k (-1)) (put b k (k : Int)) u) 141) from blk_put FOs1.out (26 + k) (.int .i64 (k : Int)) (fcs_sb _ _ _ _ _ _ hkn _))
      have GBs2 := lhid (blk_far GBs1.out (p := ⟨fb, 26 + k, none⟩) (by have h1 := HNE.out; show gb ≠ fb; omega) (.int .i64 (k : Int)))
      have MRs2 := lhid (Kd.R_set MRs1.out FOs1.out (by decide) (26 + k) (.int .i64 (k : Int)))
      have CHs2 := lhid (CHs1.out.set (p := ⟨fb, 26 + k, none⟩) (Or.inr rfl) (.int .i64 (k : Int)))
      clear FOs1 GBs1 MRs1 CHs1
      generalize World.setCell ws1 ⟨fb, 26 + k, none⟩ (.int .i64 (k : Int)) = ws2 at FOs2 GBs2 MRs2 CHs2 ⊢
      refine hK.out _ _ trivial (fun hHeld => ?_)
      clear hK K
      refine pure_ (i := 17) (N := some 33) (v := ?_) (a' := ?_) (lsq 19 262143) rfl rfl (by as_aux_lemma => kernel_rfl) (fun _ _ _ h => h) (Or.inl ⟨by rfl, ?_⟩) ?_ ?_; rotate_left; (intro w'; go_simp; with_reducible rfl); rotate_left; (simp only [Act.put, List.setIfInBounds_toArray, List.set_cons_zero, List.set_cons_succ, i64_w, i32_w]; rfl)
      refine one_ (i := 18) (N := none) (lsq 19 524287) rfl rfl (by kernel_rfl) (by decide) (fun K hK => ?_)
      have dc := (blk_cell FOs2.out (50 + k)).trans (fcs_u _ _ _ _ _ _ hkn)
      have df := blk_frozen FOs2.out (50 + k)
      refine skip_ (w1 := ?_) (by rfl) rfl ?_ ?_
      rotate_left
      · go_simp
        rfl
      clear dc df
      have FOs3 := lhid (show (World.setCell ws2 ⟨fb, 50 + k, none⟩ (.bool false)).heap[fb]? = some (.cells (fcs gb (.slice (some am) n c) vq (put p k (-1)) (put b k (k : Int)) (put u k false)) 141) from blk_put FOs2.out (50 + k) (.bool false) (fcs_su _ _ _ _ _ _ hkn _))
      have GBs3 := lhid (blk_far GBs2.out (p := ⟨fb, 50 + k, none⟩) (by have h1 := HNE.out; show gb ≠ fb; omega) (.bool false))
      have MRs3 := lhid (Kd.R_set MRs2.out FOs2.out (by decide) (50 + k) (.bool false))
      have CHs3 := lhid (CHs2.out.set (p := ⟨fb, 50 + k, none⟩) (Or.inr rfl) (.bool false))
      clear FOs2 GBs2 MRs2 CHs2
      generalize World.setCell ws2 ⟨fb, 50 + k, none⟩ (.bool false) = ws3 at FOs3 GBs3 MRs3 CHs3 ⊢
      refine hK.out _ _ trivial (fun hHeld => ?_)
      clear hK K
      refine done_ (by kernel_rfl) ?_
      
      go_wp2_with fail
      go_roundw
      case rel => exact ⟨k + 1, by omega, by simp, put p k (-1), put b k (k : Int), put u k false, lhid (pb_next HPB.out), FOs3, GBs3, MRs3, CHs3⟩
      case measure => simp [intOf]; omega
    have hne : n = k := by omega
    subst hne
    clear hlt hk
    have hrt : (root : Int) < 24 := by omega
    have hrt0 : (0 : Int) ≤ (root : Int) := by omega
    have hrn : root < 24 := by omega
    have dc := (blk_cell FOr.out (50 + root)).trans (fcs_u _ _ _ _ _ _ hrn)
    have df := blk_frozen FOr.out (50 + root)
    go_upto_region 7 with (fail)
    try any_goals (exfalso; omega)
    clear dc df
    have FOs4 := lhid (show (World.setCell wr ⟨fb, 50 + root, none⟩ (.bool true)).heap[fb]? = some (.cells (fcs gb (.slice (some am) n c) vq p b (put u root true)) 141) from blk_put FOr.out (50 + root) (.bool true) (fcs_su _ _ _ _ _ _ hrn _))
    have GBs4 := lhid (blk_far GBr.out (p := ⟨fb, 50 + root, none⟩) (by have h1 := HNE.out; show gb ≠ fb; omega) (.bool true))
    have MRs4 := lhid (Kd.R_set MRr.out FOr.out (by decide) (50 + root) (.bool true))
    have CHs4 := lhid (CHr.out.set (p := ⟨fb, 50 + root, none⟩) (Or.inr rfl) (.bool true))
    clear FOr GBr MRr CHr
    generalize World.setCell wr ⟨fb, 50 + root, none⟩ (.bool true) = ws4 at FOs4 GBs4 MRs4 CHs4 ⊢
    have dc := (blk_cell FOs4.out 74).trans (fcs_q ..)
    have df := blk_frozen FOs4.out 74
    have hfl := blk_lt FOs4.out
    have hfl2 : fb ≠ ws4.heap.size := by omega
    go_upto_region 8 with (fail)
    try any_goals (exfalso; omega)
    clear dc df hfl hfl2
    obtain ⟨qb, hqb⟩ : ∃ x, x = ws4.heap.size := ⟨_, rfl⟩
    rw [← hqb]
    have FOs5 := lhid (show (World.setCell ws4 ⟨fb, 74, none⟩ (.slice (some ⟨qb, 0, none⟩) 1 1)).heap[fb]? = some (.cells (fcs gb (.slice (some am) n c) (.slice (some ⟨qb, 0, none⟩) 1 1) p b (put u root true)) 141) from blk_put FOs4.out (74) (.slice (some ⟨qb, 0, none⟩) 1 1) (fcs_sq ..))
    have GBs5 := lhid (blk_far GBs4.out (p := ⟨fb, 74, none⟩) (by have h1 := HNE.out; show gb ≠ fb; omega) (.slice (some ⟨qb, 0, none⟩) 1 1))
    have MRs5 := lhid (Kd.R_set MRs4.out FOs4.out (by decide) (74) (.slice (some ⟨qb, 0, none⟩) 1 1))
    have CHs5 := lhid (CHs4.out.set (p := ⟨fb, 74, none⟩) (Or.inr rfl) (.slice (some ⟨qb, 0, none⟩) 1 1))
    have HSZ := lhid (show (World.setCell ws4 ⟨fb, 74, none⟩ (.slice (some ⟨qb, 0, none⟩) 1 1)).heap.size = qb from by rw [hqb]; simp)
    clear FOs4 GBs4 MRs4 CHs4
    generalize World.setCell ws4 ⟨fb, 74, none⟩ (.slice (some ⟨qb, 0, none⟩) 1 1) = ws5 at FOs5 GBs5 MRs5 CHs5 HSZ ⊢
    clear hqb
    have hq0 := q_new ws5 w.heap.size CHs5.out.size (root : Int)
    rw [HSZ.out] at hq0
    have hb := below_alloc (Below.refl ws5.heap.size ws5) (.cells #[.int .i64 (root : Int)] 3)
    generalize World.alloc ws5 (.cells #[.int .i64 (root : Int)] 3) = w20 at hb hq0 ⊢
    have HQ0 := lhid hq0
    clear hq0
    have FO_5 := lhid (blk_below FOs5.out hb)
    have GB_6 := lhid (blk_below GBs5.out hb)
    have MR_7 := lhid (Kd.R_below MRs5.out hb)
    have CH_8 := lhid (CHs5.out.next hb)
    clear FOs5 GBs5 MRs5 CHs5 hb
    have HB := lhid (show ∀ j, j < n → b j = (j : Int) from fun j hj => (HPB.out j hj).2)
    have HOU := lhid (show Ou n s G m p root (fun _ => 0) [root] from Ou.start (fun y hy => (HPB.out y hy).1))
    clear HPB
    go_loopw [6] (fun _ wr => ∃ (q : List Nat) (p : Nat → Int) (u : Nat → Bool) (d : Nat → Nat) (Aq : Option Addr) (cq : Nat), Hid (Ou n s G m p root d q) ∧ Hid (q.length + cnt (fun i => decide (p i < 0)) n ≤ 1000) ∧ Hid (Kd.Q (Kd.int .i64) 3 wr w.heap.size (fun _ => True) (.slice Aq q.length cq) (qi q)) ∧ Hid (wr.heap[fb]? = some (.cells (fcs gb (.slice (some am) n c) (.slice Aq q.length cq) p b u) 141)) ∧ Hid (wr.heap[gb]? = some (.cells (gcs n G) 128)) ∧ Hid (Kd.R (Kd.int .i64) 3 wr base (fun k => k < w.heap.size) (.slice (some am) n c) (ml n m)) ∧ Hid (Chg (fun k => k = fb) w wr)) (fun _ wr => mes n fb wr)
    case atStart => exact ⟨[root], p, _, fun _ => 0, some ⟨qb, 0, none⟩, 1, HOU, lhid (by have := cnt_le (fun i => decide (p i < 0)) n; simp; omega), HQ0, FO_5, GB_6, MR_7, CH_8⟩
    case round =>
      clear HOU FO_5 GB_6 MR_7 CH_8 HQ0
      clear p u
      obtain ⟨q, p, u, d, Aq, cq, HOU, HKL, QRr, FOr, GBr, MRr, CHr⟩ := hrel
      have HMS := lhid (mes_is FOr.out hn24)
      have f5 := (blk_cell FOr.out 74).trans (fcs_q ..)
      cases q with
      | nil =>
        go_wp2_with fail
        try any_goals (exfalso; omega)
        go_ret
        exact ⟨p, b, u, _, d, FOr.out, CHr.out, Or.inl ⟨rfl, HOU.out⟩⟩
      | cons v q =>
        have hvs := HOU.out.que v (by simp)
        have HVN := lhid (show v < n from by rcases hvs with e | e; rw [e]; exact hr; exact e.1)
        clear hvs f5
        obtain ⟨ql, hql⟩ : ∃ x, x = (v :: q).length := ⟨_, rfl⟩
        rw [← hql] at QRr FOr HMS
        have HQL := lhid (show ql = q.length + 1 from hql)
        clear hql
        have hql1 : 1 ≤ ql := by have h1 := HQL.out; omega
        have hql0 : (0 : Int) < (ql : Int) := by omega
        have hql3 : (1 : Int) ≤ (ql : Int) := by omega
        obtain ⟨qg, qo, cap, hvq, _, _, _⟩ := Kd.Q_form QRr.out (by rw [qi_len]; simp)
        injection hvq with hv1 hv2 hv3
        subst hv1
        clear hv2 hv3
        have hqc := (Kd.Q_cell (0 : Int) QRr.out 0 (by omega) (by omega)).1
        rw [show rdOf 0 (qi (v :: q)) 0 = (v : Int) from rfl, show Int.toNat 0 = 0 from rfl, Nat.add_zero] at hqc
        have hcc : ql ≤ cq := (Kd.Q_reads' QRr.out).2.1
        have hcci : (ql : Int) ≤ (cq : Int) := by omega
        obtain ⟨Av, cv, hrun, hqt⟩ := q_tail QRr.out
        have HQT := lhid hqt
        clear hqt
        have f5 := (blk_cell FOr.out 74).trans (fcs_q ..)
        go_upto_region 10 with (fail)
        try any_goals (exfalso; omega)
        clear hqc
        have df := blk_frozen FOr.out 74
        go_upto_region 11 with (fail)
        try any_goals (exfalso; omega)
        clear df f5 hrun hcc hcci hql1 hql0 hql3
        clear QRr
        have FOs6 := lhid (show (World.setCell wr ⟨fb, 74, none⟩ (.slice Av q.length cv)).heap[fb]? = some (.cells (fcs gb (.slice (some am) n c) (.slice Av q.length cv) p b u) 141) from blk_put FOr.out (74) (.slice Av q.length cv) (fcs_sq ..))
        have GBs6 := lhid (blk_far GBr.out (p := ⟨fb, 74, none⟩) (by have h1 := HNE.out; show gb ≠ fb; omega) (.slice Av q.length cv))
        have MRs6 := lhid (Kd.R_set MRr.out FOr.out (by decide) (74) (.slice Av q.length cv))
        have QRs6 := lhid (Kd.Q_set HQT.out FOr.out (by decide) (74) (.slice Av q.length cv))
        have CHs6 := lhid (CHr.out.set (p := ⟨fb, 74, none⟩) (Or.inr rfl) (.slice Av q.length cv))
        clear FOr GBr MRr HQT CHr
        generalize World.setCell wr ⟨fb, 74, none⟩ (.slice Av q.length cv) = ws6 at FOs6 GBs6 MRs6 QRs6 CHs6 ⊢
        obtain ⟨wy, hwy⟩ : ∃ x : World, x = wr := ⟨_, rfl⟩
        subst hwy
        have HK := lhid (show mes n fb wy = q.length + cnt (fun i => decide (p i < 0)) n + 1 by rw [HMS.out, HQL.out]; omega)
        have HIN := lhid HOU.out.pop
        clear HMS HQL HOU
        obtain ⟨K, hK⟩ : ∃ K, K = q.length + cnt (fun i => decide (p i < 0)) n := ⟨_, rfl⟩
        rw [← hK] at HK
        have HKK := lhid hK.symm
        have HK25 := lhid (show K ≤ 1000 from by have h1 := HK.out; have h2 := HKL.out; rw [List.length_cons] at h2; omega)
        clear hK
        have hvi : (v : Int) < (n : Int) := by have h1 := HVN.out; omega
        have hv24 : (v : Int) < 24 := by omega
        have hv0 : (0 : Int) ≤ (v : Int) := by omega
        have f0 := (blk_cell FOs6.out 0).trans (fcs_g ..)
        have g0 := (blk_cell GBs6.out 0).trans (gcs_n ..)
        go_upto_region 12 with (fail)
        try any_goals (exfalso; omega)
        clear f0 g0
        rw [show decide (0 < ql) = true from decide_eq_true (by assumption)]
        go_loopw [72] (fun i wr => ∃ j : Nat, j ≤ n ∧ i = .int .i64 j ∧ ∃ (q : List Nat) (p : Nat → Int) (u : Nat → Bool) (d : Nat → Nat) (Aq : Option Addr) (cq : Nat), Hid (Ii n s G m p root d q v j) ∧ Hid (q.length + cnt (fun i => decide (p i < 0)) n = K) ∧ Hid (Kd.Q (Kd.int .i64) 3 wr w.heap.size (fun _ => True) (.slice Aq q.length cq) (qi q)) ∧ Hid (wr.heap[fb]? = some (.cells (fcs gb (.slice (some am) n c) (.slice Aq q.length cq) p b u) 141)) ∧ Hid (wr.heap[gb]? = some (.cells (gcs n G) 128)) ∧ Hid (Kd.R (Kd.int .i64) 3 wr base (fun k => k < w.heap.size) (.slice (some am) n c) (ml n m)) ∧ Hid (Chg (fun k => k = fb) w wr)) (fun i _ => n - (intOf i).toNat)
        case atStart => exact ⟨0, Nat.zero_le _, rfl, q, p, u, d, Av, cv, HIN, HKK, QRs6, FOs6, GBs6, MRs6, CHs6⟩
        case round =>
          clear HIN HKK FOs6 GBs6 MRs6 CHs6 QRs6
          obtain ⟨j, hj, rfl, q, p, u, d, Aq, cq, HIN, HKK, QRr, FOr, GBr, MRr, CHr⟩ := hrel
          by_cases hlt : j < n
          · have hji : (j : Int) < (n : Int) := by omega
            have hj24 : (j : Int) < 24 := by omega
            have hj0 : (0 : Int) ≤ (j : Int) := by omega
            have hjn : j < 24 := by omega
            have hvn : v < 24 := by have h1 := HVN.out; omega
            have HJ := lhid hlt
            have f0 := (blk_cell FOr.out 0).trans (fcs_g ..)
            have f1 := (blk_cell FOr.out 1).trans (fcs_m ..)
            have gv := (blk_cell GBr.out (1 + v * 24 + j)).trans (gcs_get n G hvn hjn)
            have bv := (blk_cell FOr.out (26 + v)).trans (fcs_b _ _ _ _ _ _ hvn)
            have bj := (blk_cell FOr.out (26 + j)).trans (fcs_b _ _ _ _ _ _ hjn)
            rw [HB.out v HVN.out] at bv
            rw [HB.out j hlt] at bj
            obtain ⟨_, e1, yv⟩ := ml_at (ml_C MRr.out) HVN.out
            cases e1
            cases hg : G v j
            · rw [hg] at gv
              have HGV := lhid hg
              clear hg
              go_wp2_with fail
              go_quiet (fail)
              have hb := pw_below_drewN (Below.refl wr.heap.size wr) nq
              have FO_9 := lhid (blk_below FOr.out hb)
              have GB_10 := lhid (blk_below GBr.out hb)
              have MR_11 := lhid (Kd.R_below MRr.out hb)
              have CH_12 := lhid (CHr.out.next hb)
              have QR_13 := lhid (Kd.Q_below QRr.out hb)
              clear FOr GBr MRr CHr QRr hb
              clear f0 f1 gv bv bj yv
              generalize wr.drewN nq = w60 at FO_9 GB_10 MR_11 CH_12 QR_13 ⊢
              go_wp2_with fail
              try any_goals (exfalso; omega)
              go_roundw
              case rel => exact ⟨j + 1, by omega, by simp, q, p, u, d, Aq, cq, lhid (HIN.out.skip (fun h => by rw [HGV.out] at h; cases h)), HKK, QR_13, FO_9, GB_10, MR_11, CH_12⟩
              case measure => simp [intOf]; omega
            · rw [hg] at gv
              have HGV := lhid hg
              clear hg
              have hvj : v ≠ j := HBP.out.ne HGV.out
              have d1 : ((v : Int) == (j : Int)) = false := beq_eq_false_iff_ne.2 (by omega)
              clear hvj
              by_cases e : m v = j
              · have d2 : ((m v : Int) == (j : Int)) = true := beq_iff_eq.2 (by omega)
                have HE := lhid e
                clear e
                go_wp2_with fail
                go_quiet (fail)
                have hb := pw_below_drewN (Below.refl wr.heap.size wr) nq
                have FO_14 := lhid (blk_below FOr.out hb)
                have GB_15 := lhid (blk_below GBr.out hb)
                have MR_16 := lhid (Kd.R_below MRr.out hb)
                have CH_17 := lhid (CHr.out.next hb)
                have QR_18 := lhid (Kd.Q_below QRr.out hb)
                clear FOr GBr MRr CHr QRr hb
                clear f0 f1 gv bv bj yv d1 d2
                generalize wr.drewN nq = w60 at FO_14 GB_15 MR_16 CH_17 QR_18 ⊢
                go_wp2_with fail
                try any_goals (exfalso; omega)
                go_roundw
                case rel => exact ⟨j + 1, by omega, by simp, q, p, u, d, Aq, cq, lhid (HIN.out.skip (fun _ => Or.inr HE.out)), HKK, QR_18, FO_14, GB_15, MR_16, CH_17⟩
                case measure => simp [intOf]; omega
              · have d2 : ((m v : Int) == (j : Int)) = false := beq_eq_false_iff_ne.2 (by omega)
                have HE := lhid e
                clear e
                go_wp2_with fail
                go_quiet (fail)
                have hb := pw_below_drewN (Below.refl wr.heap.size wr) nq
                have FO_19 := lhid (blk_below FOr.out hb)
                have GB_20 := lhid (blk_below GBr.out hb)
                have MR_21 := lhid (Kd.R_below MRr.out hb)
                have CH_22 := lhid (CHr.out.next hb)
                have QR_23 := lhid (Kd.Q_below QRr.out hb)
                clear FOr GBr MRr CHr QRr hb
                clear f0 f1 gv bv bj yv d1 d2
                generalize wr.drewN nq = w60 at FO_19 GB_20 MR_21 CH_22 QR_23 ⊢
                have HQ25 := lhid (show q.length ≤ 1000 from Nat.le_trans (Nat.le_of_lt_succ (Nat.lt_succ_of_le (Nat.le_trans (Nat.le_add_right _ _) (Nat.le_of_eq HKK.out)))) HK25.out)
                have HNR := lhid (no_ring HBP.out HMT.out HIN.out.sea HIN.out.cur HGV.out)
                have d3 : ((j : Int) == (root : Int)) = false := beq_eq_false_iff_ne.2 (fun e => HNR.out.1 (by omega))
                have HMJ := lhid (HMT.out.le j HJ.out)
                go_upto_region 15 with (fail)
                try any_goals (exfalso; omega)
                by_cases hm : m j = n
                · have HM1 := lhid hm
                  clear hm
                  have hb := below_drew1 (Below.refl w60.heap.size w60)
                  have FO_24 := lhid (blk_below FO_19.out hb)
                  have GB_25 := lhid (blk_below GB_20.out hb)
                  have MR_26 := lhid (Kd.R_below MR_21.out hb)
                  have CH_27 := lhid (CH_22.out.next hb)
                  have QR_28 := lhid (Kd.Q_below QR_23.out hb)
                  clear FO_19 GB_20 MR_21 CH_22 QR_23 hb
                  refine start_ (n := 21) (S := fun w' => True) (ds := []) (lsq 21 0) (by kernel_rfl) rfl rfl trivial (fun hHeld => ?_)
                  generalize w60.drew = w51 at FO_24 GB_25 MR_26 CH_27 QR_28 hHeld ⊢
                  refine pure_ (i := 0) (N := some 115) (v := ?_) (a' := ?_) (lsq 21 1) rfl rfl (by as_aux_lemma => kernel_rfl) (fun _ _ _ h => h) (Or.inl ⟨by rfl, ?_⟩) ?_ ?_; rotate_left; (intro w'; go_simp; with_reducible rfl); rotate_left; (simp only [Act.put, List.setIfInBounds_toArray, List.set_cons_zero, List.set_cons_succ, i64_w, i32_w]; rfl)
                  refine pure_ (i := 1) (N := some 116) (v := ?_) (a' := ?_) (lsq 21 3) rfl rfl (by as_aux_lemma => kernel_rfl) (fun _ _ _ h => h) (Or.inl ⟨by rfl, ?_⟩) ?_ ?_; rotate_left; (intro w'; go_simp; with_reducible rfl); rotate_left; (simp only [Act.put, List.setIfInBounds_toArray, List.set_cons_zero, List.set_cons_succ, i64_w, i32_w]; rfl)
                  refine pure_ (i := 2) (N := some 117) (v := ?_) (a' := ?_) (lsq 21 7) rfl rfl (by as_aux_lemma => kernel_rfl) (fun _ _ _ h => h) (Or.inl ⟨by rfl, ?_⟩) ?_ ?_; rotate_left; (intro w'; go_simp; with_reducible rfl); rotate_left; (simp only [Act.put, List.setIfInBounds_toArray, List.set_cons_zero, List.set_cons_succ, i64_w, i32_w]; rfl)
                  refine pure_ (i := 3) (N := some 118) (v := ?_) (a' := ?_) (lsq 21 15) rfl rfl (by as_aux_lemma => kernel_rfl) (fun _ _ _ h => h) (Or.inl ⟨by rfl, ?_⟩) ?_ ?_; rotate_left; (intro w'; go_simp; with_reducible rfl); rotate_left; (simp only [Act.put, List.setIfInBounds_toArray, List.set_cons_zero, List.set_cons_succ, i64_w, i32_w]; rfl)
                  refine pure_ (i := 4) (N := some 119) (v := ?_) (a' := ?_) (lsq 21 31) rfl rfl (by as_aux_lemma => kernel_rfl) (fun _ _ _ h => h) (Or.inl ⟨by rfl, ?_⟩) ?_ ?_; rotate_left; (intro w'; go_simp; with_reducible rfl); rotate_left; (simp only [Act.put, List.setIfInBounds_toArray, List.set_cons_zero, List.set_cons_succ, i64_w, i32_w]; rfl)
                  refine pure_ (i := 5) (N := some 120) (v := ?_) (a' := ?_) (lsq 21 63) rfl rfl (by as_aux_lemma => kernel_rfl) (fun _ _ _ h => h) (Or.inl ⟨by rfl, ?_⟩) ?_ ?_; rotate_left; (intro w'; go_simp; with_reducible rfl); rotate_left; (simp only [Act.put, List.setIfInBounds_toArray, List.set_cons_zero, List.set_cons_succ, i64_w, i32_w]; rfl)
                  refine one_ (i := 6) (N := some 121) (lsq 21 127) rfl rfl (by kernel_rfl) (by decide) (fun K hK => ?_)
                  refine goes_ Try.func75 (by kernel_rfl) rfl #[.pointer (some ⟨fb, 0, none⟩), .int .i64 (j : Int)] (by rfl) rfl rfl (by (try simp only [List.map_toArray, List.map_cons, List.map_nil]); first | done | rfl) ?_
                  with_reducible refine (mate_n w51 fb gb n j _ _ _ _ G m (some am) c FO_24.out GB_25.out (ml_C MR_26.out) HJ.out HM1.out).mono ?_
                  rintro e w52 ⟨rfl, hb⟩
                  refine ⟨_, rfl, ?_⟩
                  have FO_29 := lhid (blk_below FO_24.out hb)
                  have GB_30 := lhid (blk_below GB_25.out hb)
                  have MR_31 := lhid (Kd.R_below MR_26.out hb)
                  have CH_32 := lhid (CH_27.out.next hb)
                  have QR_33 := lhid (Kd.Q_below QR_28.out hb)
                  clear FO_24 GB_25 MR_26 CH_27 QR_28 hb
                  refine hK.out _ _ trivial (fun hHeld => ?_)
                  clear hK K
                  refine norm_ (a' := ?_) ?_ ?_
                  rotate_left
                  · show Act.put _ (some 121) _ = _
                    simp only [Act.put, List.setIfInBounds_toArray, List.set_cons_zero, List.set_cons_succ, i64_w, i32_w]
                    rfl
                  refine pure_ (i := 7) (N := some 122) (v := ?_) (a' := ?_) (lsq 21 255) rfl rfl (by as_aux_lemma => kernel_rfl) (fun _ _ _ h => h) (Or.inl ⟨by rfl, ?_⟩) ?_ ?_; rotate_left; (intro w'; go_simp; with_reducible rfl); rotate_left; (simp only [Act.put, List.setIfInBounds_toArray, List.set_cons_zero, List.set_cons_succ, i64_w, i32_w]; rfl)
                  refine pure_ (i := 8) (N := some 123) (v := ?_) (a' := ?_) (lsq 21 511) rfl rfl (by as_aux_lemma => kernel_rfl) (fun _ _ _ h => h) (Or.inl ⟨by rfl, ?_⟩) ?_ ?_; rotate_left; (intro w'; go_simp; with_reducible rfl); rotate_left; (simp only [Act.put, List.setIfInBounds_toArray, List.set_cons_zero, List.set_cons_succ, i64_w, i32_w]; rfl)
                  refine pure_ (i := 9) (N := some 124) (v := undef) (a' := ?_) (lsq 21 1023) rfl rfl (by as_aux_lemma => kernel_rfl) (fun _ _ _ h => h) (Or.inr ⟨by rfl, rfl⟩) ?_ ?_; rotate_left; (simp only [Act.put, List.setIfInBounds_toArray, List.set_cons_zero, List.set_cons_succ, i64_w, i32_w]; rfl)
                  refine pure_ (i := 10) (N := some 125) (v := undef) (a' := ?_) (lsq 21 2047) rfl rfl (by as_aux_lemma => kernel_rfl) (fun _ _ _ h => h) (Or.inr ⟨by rfl, rfl⟩) ?_ ?_; rotate_left; (simp only [Act.put, List.setIfInBounds_toArray, List.set_cons_zero, List.set_cons_succ, i64_w, i32_w]; rfl)
                  refine pure_ (i := 11) (N := some 126) (v := undef) (a' := ?_) (lsq 21 4095) rfl rfl (by as_aux_lemma => kernel_rfl) (fun _ _ _ h => h) (Or.inr ⟨by rfl, rfl⟩) ?_ ?_; rotate_left; (simp only [Act.put, List.setIfInBounds_toArray, List.set_cons_zero, List.set_cons_succ, i64_w, i32_w]; rfl)
                  refine pure_ (i := 12) (N := some 127) (v := undef) (a' := ?_) (lsq 21 8191) rfl rfl (by as_aux_lemma => kernel_rfl) (fun _ _ _ h => h) (Or.inr ⟨by rfl, rfl⟩) ?_ ?_; rotate_left; (simp only [Act.put, List.setIfInBounds_toArray, List.set_cons_zero, List.set_cons_succ, i64_w, i32_w]; rfl)
                  refine pure_ (i := 13) (N := some 128) (v := undef) (a' := ?_) (lsq 21 16383) rfl rfl (by as_aux_lemma => kernel_rfl) (fun _ _ _ h => h) (Or.inr ⟨by rfl, rfl⟩) ?_ ?_; rotate_left; (simp only [Act.put, List.setIfInBounds_toArray, List.set_cons_zero, List.set_cons_succ, i64_w, i32_w]; rfl)
                  refine pure_ (i := 14) (N := some 129) (v := undef) (a' := ?_) (lsq 21 32767) rfl rfl (by as_aux_lemma => kernel_rfl) (fun _ _ _ h => h) (Or.inr ⟨by rfl, rfl⟩) ?_ ?_; rotate_left; (simp only [Act.put, List.setIfInBounds_toArray, List.set_cons_zero, List.set_cons_succ, i64_w, i32_w]; rfl)
                  refine pure_ (i := 15) (N := some 130) (v := undef) (a' := ?_) (lsq 21 65535) rfl rfl (by as_aux_lemma => kernel_rfl) (fun _ _ _ h => h) (Or.inr ⟨by rfl, rfl⟩) ?_ ?_; rotate_left; (simp only [Act.put, List.setIfInBounds_toArray, List.set_cons_zero, List.set_cons_succ, i64_w, i32_w]; rfl)
                  refine pure_ (i := 16) (N := some 131) (v := undef) (a' := ?_) (lsq 21 131071) rfl rfl (by as_aux_lemma => kernel_rfl) (fun _ _ _ h => h) (Or.inr ⟨by rfl, rfl⟩) ?_ ?_; rotate_left; (simp only [Act.put, List.setIfInBounds_toArray, List.set_cons_zero, List.set_cons_succ, i64_w, i32_w]; rfl)
                  refine pure_ (i := 17) (N := some 132) (v := undef) (a' := ?_) (lsq 21 262143) rfl rfl (by as_aux_lemma => kernel_rfl) (fun _ _ _ h => h) (Or.inr ⟨by rfl, rfl⟩) ?_ ?_; rotate_left; (simp only [Act.put, List.setIfInBounds_toArray, List.set_cons_zero, List.set_cons_succ, i64_w, i32_w]; rfl)
                  refine pure_ (i := 18) (N := some 133) (v := ?_) (a' := ?_) (lsq 21 524287) rfl rfl (by as_aux_lemma => kernel_rfl) (fun _ _ _ h => h) (Or.inl ⟨by rfl, ?_⟩) ?_ ?_; rotate_left; (intro w'; go_simp; with_reducible rfl); rotate_left; (simp only [Act.put, List.setIfInBounds_toArray, List.set_cons_zero, List.set_cons_succ, i64_w, i32_w]; rfl)
                  refine pure_ (i := 19) (N := some 134) (v := ?_) (a' := ?_) (lsq 21 1048575) rfl rfl (by as_aux_lemma => kernel_rfl) (fun _ _ _ h => h) (Or.inl ⟨by rfl, ?_⟩) ?_ ?_; rotate_left; (intro w'; go_simp; with_reducible rfl); rotate_left; (simp only [Act.put, List.setIfInBounds_toArray, List.set_cons_zero, List.set_cons_succ, i64_w, i32_w]; rfl)
                  refine pure_ (i := 20) (N := some 114) (v := ?_) (a' := ?_) (lsq 21 2097151) rfl rfl (by as_aux_lemma => kernel_rfl) (fun _ _ _ h => h) (Or.inl ⟨by rfl, ?_⟩) ?_ ?_; rotate_left; (intro w'; go_simp; with_reducible rfl); rotate_left; (simp only [Act.put, List.setIfInBounds_toArray, List.set_cons_zero, List.set_cons_succ, i64_w, i32_w]; rfl)
                  refine done_ (by kernel_rfl) ?_
                  
                  clear d3
                  have fp := (blk_cell FO_29.out (2 + j)).trans (fcs_p _ _ _ _ _ _ hjn)
                  by_cases hp : p j < 0
                  · have HPJ := lhid hp
                    have dfz := blk_frozen FO_29.out (2 + j)
                    go_upto_region 19 with (fail)
                    try any_goals (exfalso; omega)
                    clear fp dfz hp
                    have FOs7 := lhid (show (World.setCell w52 ⟨fb, 2 + j, none⟩ (.int .i64 (v : Int))).heap[fb]? = some (.cells (fcs gb (.slice (some am) n c) (.slice Aq q.length cq) (put p j (v : Int)) b u) 141) from blk_put FO_29.out (2 + j) (.int .i64 (v : Int)) (fcs_sp _ _ _ _ _ _ hjn _))
                    have GBs7 := lhid (blk_far GB_30.out (p := ⟨fb, 2 + j, none⟩) (by have h1 := HNE.out; show gb ≠ fb; omega) (.int .i64 (v : Int)))
                    have MRs7 := lhid (Kd.R_set MR_31.out FO_29.out (by decide) (2 + j) (.int .i64 (v : Int)))
                    have QRs7 := lhid (Kd.Q_set QR_33.out FO_29.out (by decide) (2 + j) (.int .i64 (v : Int)))
                    have CHs7 := lhid (CH_32.out.set (p := ⟨fb, 2 + j, none⟩) (Or.inr rfl) (.int .i64 (v : Int)))
                    clear FO_29 GB_30 MR_31 QR_33 CH_32
                    generalize World.setCell w52 ⟨fb, 2 + j, none⟩ (.int .i64 (v : Int)) = ws7 at FOs7 GBs7 MRs7 QRs7 CHs7 ⊢
                    go_wp2_with fail
                    try any_goals (exfalso; omega)
                    with_reducible refine (mate_n ws7 fb gb n j _ _ _ _ G m (some am) c FOs7.out GBs7.out (ml_C MRs7.out) HJ.out HM1.out).mono ?_
                    rintro e w53 ⟨rfl, hb⟩
                    have FO_34 := lhid (blk_below FOs7.out hb)
                    have GB_35 := lhid (blk_below GBs7.out hb)
                    have MR_36 := lhid (Kd.R_below MRs7.out hb)
                    have CH_37 := lhid (CHs7.out.next hb)
                    have QR_38 := lhid (Kd.Q_below QRs7.out hb)
                    clear FOs7 GBs7 MRs7 CHs7 QRs7 hb
                    go_wp2_with fail
                    try any_goals (exfalso; omega)
                    go_ret
                    exact ⟨put p j (v : Int), b, u, _, _, FO_34.out, CH_37.out, Or.inr ⟨j, rfl, HIN.out.found HBP.out HMT.out HGV.out HPJ.out HM1.out⟩⟩
                  · have HPJ := lhid (show 0 ≤ p j by omega)
                    have hp2 : ¬ p j < 0 := hp
                    go_wp2_with fail
                    clear fp hp hp2
                    go_wp2_with fail
                    try any_goals (exfalso; omega)
                    go_roundw
                    case rel => exact ⟨j + 1, by omega, by simp, q, p, u, d, Aq, cq, lhid (HIN.out.skip (fun _ => Or.inl HPJ.out)), HKK, QR_33, FO_29, GB_30, MR_31, CH_32⟩
                    case measure => simp [intOf]; omega
                · have HM1 := lhid (show m j < n by have h1 := HMJ.out; omega)
                  clear hm
                  have hmj24 : m j < 24 := by have h1 := HM1.out; omega
                  have hmji : (m j : Int) < 24 := by omega
                  have hmj0 : (0 : Int) ≤ (m j : Int) := by omega
                  have hmjn : (m j : Int) ≥ 0 := hmj0
                  have d5 : ¬ (p (m j) ≥ 0) := fun e => HNR.out.2 ⟨HM1.out, e⟩
                  have hb := below_drew1 (Below.refl w60.heap.size w60)
                  have FO_39 := lhid (blk_below FO_19.out hb)
                  have GB_40 := lhid (blk_below GB_20.out hb)
                  have MR_41 := lhid (Kd.R_below MR_21.out hb)
                  have CH_42 := lhid (CH_22.out.next hb)
                  have QR_43 := lhid (Kd.Q_below QR_23.out hb)
                  clear FO_19 GB_20 MR_21 CH_22 QR_23 hb
                  refine start_ (n := 21) (S := fun w' => w'.cell? ⟨fb, 2 + m j, none⟩ = some (.int .i64 (p (m j)))) (ds := []) (lsq 21 0) (by kernel_rfl) rfl rfl (((blk_cell FO_39.out (2 + m j)).trans (fcs_p _ _ _ _ _ _ hmj24))) (fun hHeld => ?_)
                  generalize w60.drew = w51 at FO_39 GB_40 MR_41 CH_42 QR_43 hHeld ⊢
                  refine pure_ (i := 0) (N := some 115) (v := ?_) (a' := ?_) (lsq 21 1) rfl rfl (by as_aux_lemma => kernel_rfl) (fun _ _ _ h => h) (Or.inl ⟨by rfl, ?_⟩) ?_ ?_; rotate_left; (intro w'; go_simp; with_reducible rfl); rotate_left; (simp only [Act.put, List.setIfInBounds_toArray, List.set_cons_zero, List.set_cons_succ, i64_w, i32_w]; rfl)
                  refine pure_ (i := 1) (N := some 116) (v := ?_) (a' := ?_) (lsq 21 3) rfl rfl (by as_aux_lemma => kernel_rfl) (fun _ _ _ h => h) (Or.inl ⟨by rfl, ?_⟩) ?_ ?_; rotate_left; (intro w'; go_simp; with_reducible rfl); rotate_left; (simp only [Act.put, List.setIfInBounds_toArray, List.set_cons_zero, List.set_cons_succ, i64_w, i32_w]; rfl)
                  refine pure_ (i := 2) (N := some 117) (v := ?_) (a' := ?_) (lsq 21 7) rfl rfl (by as_aux_lemma => kernel_rfl) (fun _ _ _ h => h) (Or.inl ⟨by rfl, ?_⟩) ?_ ?_; rotate_left; (intro w'; go_simp; with_reducible rfl); rotate_left; (simp only [Act.put, List.setIfInBounds_toArray, List.set_cons_zero, List.set_cons_succ, i64_w, i32_w]; rfl)
                  refine pure_ (i := 3) (N := some 118) (v := ?_) (a' := ?_) (lsq 21 15) rfl rfl (by as_aux_lemma => kernel_rfl) (fun _ _ _ h => h) (Or.inl ⟨by rfl, ?_⟩) ?_ ?_; rotate_left; (intro w'; go_simp; with_reducible rfl); rotate_left; (simp only [Act.put, List.setIfInBounds_toArray, List.set_cons_zero, List.set_cons_succ, i64_w, i32_w]; rfl)
                  refine pure_ (i := 4) (N := some 119) (v := ?_) (a' := ?_) (lsq 21 31) rfl rfl (by as_aux_lemma => kernel_rfl) (fun _ _ _ h => h) (Or.inl ⟨by rfl, ?_⟩) ?_ ?_; rotate_left; (intro w'; go_simp; with_reducible rfl); rotate_left; (simp only [Act.put, List.setIfInBounds_toArray, List.set_cons_zero, List.set_cons_succ, i64_w, i32_w]; rfl)
                  refine pure_ (i := 5) (N := some 120) (v := ?_) (a' := ?_) (lsq 21 63) rfl rfl (by as_aux_lemma => kernel_rfl) (fun _ _ _ h => h) (Or.inl ⟨by rfl, ?_⟩) ?_ ?_; rotate_left; (intro w'; go_simp; with_reducible rfl); rotate_left; (simp only [Act.put, List.setIfInBounds_toArray, List.set_cons_zero, List.set_cons_succ, i64_w, i32_w]; rfl)
                  refine one_ (i := 6) (N := some 121) (lsq 21 127) rfl rfl (by kernel_rfl) (by decide) (fun K hK => ?_)
                  refine goes_ Try.func75 (by kernel_rfl) rfl #[.pointer (some ⟨fb, 0, none⟩), .int .i64 (j : Int)] (by rfl) rfl rfl (by (try simp only [List.map_toArray, List.map_cons, List.map_nil]); first | done | rfl) ?_
                  with_reducible refine (mate_v w51 fb gb n j _ _ _ _ G m (some am) c FO_39.out GB_40.out (ml_C MR_41.out) HJ.out HM1.out).mono ?_
                  rintro e w52 ⟨rfl, hb⟩
                  refine ⟨_, rfl, ?_⟩
                  have FO_44 := lhid (blk_below FO_39.out hb)
                  have GB_45 := lhid (blk_below GB_40.out hb)
                  have MR_46 := lhid (Kd.R_below MR_41.out hb)
                  have CH_47 := lhid (CH_42.out.next hb)
                  have QR_48 := lhid (Kd.Q_below QR_43.out hb)
                  clear FO_39 GB_40 MR_41 CH_42 QR_43 hb
                  refine hK.out _ _ (((blk_cell FO_44.out (2 + m j)).trans (fcs_p _ _ _ _ _ _ hmj24))) (fun hHeld => ?_)
                  clear hK K
                  refine norm_ (a' := ?_) ?_ ?_
                  rotate_left
                  · show Act.put _ (some 121) _ = _
                    simp only [Act.put, List.setIfInBounds_toArray, List.set_cons_zero, List.set_cons_succ, i64_w, i32_w]
                    rfl
                  refine pure_ (i := 7) (N := some 122) (v := ?_) (a' := ?_) (lsq 21 255) rfl rfl (by as_aux_lemma => kernel_rfl) (fun _ _ _ h => h) (Or.inl ⟨by rfl, ?_⟩) ?_ ?_; rotate_left; (intro w'; go_simp; with_reducible rfl); rotate_left; (simp only [Act.put, List.setIfInBounds_toArray, List.set_cons_zero, List.set_cons_succ, i64_w, i32_w]; rfl)
                  refine pure_ (i := 8) (N := some 123) (v := ?_) (a' := ?_) (lsq 21 511) rfl rfl (by as_aux_lemma => kernel_rfl) (fun _ _ _ h => h) (Or.inl ⟨by rfl, ?_⟩) ?_ ?_; rotate_left; (intro w'; go_simp; with_reducible rfl); rotate_left; (simp only [Act.put, List.setIfInBounds_toArray, List.set_cons_zero, List.set_cons_succ, i64_w, i32_w]; rfl)
                  refine pure_ (i := 9) (N := some 124) (v := ?_) (a' := ?_) (lsq 21 1023) rfl rfl (by as_aux_lemma => kernel_rfl) (fun _ _ _ h => h) (Or.inl ⟨by rfl, ?_⟩) ?_ ?_; rotate_left; (intro w'; go_simp; with_reducible rfl); rotate_left; (simp only [Act.put, List.setIfInBounds_toArray, List.set_cons_zero, List.set_cons_succ, i64_w, i32_w]; rfl)
                  refine pure_ (i := 10) (N := some 125) (v := ?_) (a' := ?_) (lsq 21 2047) rfl rfl (by as_aux_lemma => kernel_rfl) (fun _ _ _ h => h) (Or.inl ⟨by rfl, ?_⟩) ?_ ?_; rotate_left; (intro w'; go_simp; with_reducible rfl); rotate_left; (simp only [Act.put, List.setIfInBounds_toArray, List.set_cons_zero, List.set_cons_succ, i64_w, i32_w]; rfl)
                  refine pure_ (i := 11) (N := some 126) (v := ?_) (a' := ?_) (lsq 21 4095) rfl rfl (by as_aux_lemma => kernel_rfl) (fun _ _ _ h => h) (Or.inl ⟨by rfl, ?_⟩) ?_ ?_; rotate_left; (intro w'; go_simp; with_reducible rfl); rotate_left; (simp only [Act.put, List.setIfInBounds_toArray, List.set_cons_zero, List.set_cons_succ, i64_w, i32_w]; rfl)
                  refine pure_ (i := 13) (N := some 128) (v := ?_) (a' := ?_) (lsq 21 12287) rfl rfl (by as_aux_lemma => kernel_rfl) (fun _ _ _ h => h) (Or.inl ⟨by rfl, ?_⟩) ?_ ?_; rotate_left; (intro w'; go_simp; with_reducible rfl); rotate_left; (simp only [Act.put, List.setIfInBounds_toArray, List.set_cons_zero, List.set_cons_succ, i64_w, i32_w]; rfl)
                  refine pure_ (i := 14) (N := some 129) (v := ?_) (a' := ?_) (lsq 21 28671) rfl rfl (by as_aux_lemma => kernel_rfl) (fun _ _ _ h => h) (Or.inl ⟨by rfl, ?_⟩) ?_ ?_; rotate_left; (intro w'; go_simp; with_reducible rfl); rotate_left; (simp only [Act.put, List.setIfInBounds_toArray, List.set_cons_zero, List.set_cons_succ, i64_w, i32_w]; rfl)
                  refine one_ (i := 12) (N := some 127) (lsq 21 32767) rfl rfl (by kernel_rfl) (by decide) (fun K hK => ?_)
                  refine goes_ Try.func75 (by kernel_rfl) rfl #[.pointer (some ⟨fb, 0, none⟩), .int .i64 (j : Int)] (by rfl) rfl rfl (by (try simp only [List.map_toArray, List.map_cons, List.map_nil]); first | done | rfl) ?_
                  with_reducible refine (mate_v w52 fb gb n j _ _ _ _ G m (some am) c FO_44.out GB_45.out (ml_C MR_46.out) HJ.out HM1.out).mono ?_
                  rintro e w53 ⟨rfl, hb⟩
                  refine ⟨_, rfl, ?_⟩
                  have FO_49 := lhid (blk_below FO_44.out hb)
                  have GB_50 := lhid (blk_below GB_45.out hb)
                  have MR_51 := lhid (Kd.R_below MR_46.out hb)
                  have CH_52 := lhid (CH_47.out.next hb)
                  have QR_53 := lhid (Kd.Q_below QR_48.out hb)
                  clear FO_44 GB_45 MR_46 CH_47 QR_48 hb
                  refine hK.out _ _ (((blk_cell FO_49.out (2 + m j)).trans (fcs_p _ _ _ _ _ _ hmj24))) (fun hHeld => ?_)
                  clear hK K
                  refine norm_ (a' := ?_) ?_ ?_
                  rotate_left
                  · show Act.put _ (some 127) _ = _
                    simp only [Act.put, List.setIfInBounds_toArray, List.set_cons_zero, List.set_cons_succ, i64_w, i32_w]
                    rfl
                  refine pure_ (i := 15) (N := some 130) (v := ?_) (a' := ?_) (lsq 21 65535) rfl rfl (by as_aux_lemma => kernel_rfl) (fun _ _ _ h => h) (Or.inl ⟨by rfl, ?_⟩) ?_ ?_; rotate_left; (intro w'; go_simp; with_reducible rfl); rotate_left; (simp only [Act.put, List.setIfInBounds_toArray, List.set_cons_zero, List.set_cons_succ, i64_w, i32_w]; rfl)
                  refine take_ (i := 16) (N := some 131) (v := ?_) (a' := ?_) (lsq 21 131071) rfl rfl (by as_aux_lemma => kernel_rfl) (fun _ _ _ h => h) (Or.inl ⟨by rfl, ?_⟩) hHeld ?_ ?_; rotate_left; (intro w' s0; go_simp; with_reducible rfl); rotate_left; (simp only [Act.put, List.setIfInBounds_toArray, List.set_cons_zero, List.set_cons_succ, i64_w, i32_w]; rfl)
                  refine pure_ (i := 17) (N := some 132) (v := ?_) (a' := ?_) (lsq 21 262143) rfl rfl (by as_aux_lemma => kernel_rfl) (fun _ _ _ h => h) (Or.inl ⟨by rfl, ?_⟩) ?_ ?_; rotate_left; (intro w'; go_simp; with_reducible rfl); rotate_left; (simp only [Act.put, List.setIfInBounds_toArray, List.set_cons_zero, List.set_cons_succ, i64_w, i32_w]; rfl)
                  refine pure_ (i := 18) (N := some 133) (v := ?_) (a' := ?_) (lsq 21 524287) rfl rfl (by as_aux_lemma => kernel_rfl) (fun _ _ _ h => h) (Or.inl ⟨by rfl, ?_⟩) ?_ ?_; rotate_left; (intro w'; go_simp; with_reducible rfl); rotate_left; (simp only [Act.put, List.setIfInBounds_toArray, List.set_cons_zero, List.set_cons_succ, i64_w, i32_w]; rfl)
                  refine pure_ (i := 19) (N := some 134) (v := ?_) (a' := ?_) (lsq 21 1048575) rfl rfl (by as_aux_lemma => kernel_rfl) (fun _ _ _ h => h) (Or.inl ⟨by rfl, ?_⟩) ?_ ?_; rotate_left; (intro w'; go_simp; with_reducible rfl); rotate_left; (simp only [Act.put, List.setIfInBounds_toArray, List.set_cons_zero, List.set_cons_succ, i64_w, i32_w]; rfl)
                  refine pure_ (i := 20) (N := some 114) (v := ?_) (a' := ?_) (lsq 21 2097151) rfl rfl (by as_aux_lemma => kernel_rfl) (fun _ _ _ h => h) (Or.inl ⟨by rfl, ?_⟩) ?_ ?_; rotate_left; (intro w'; go_simp; with_reducible rfl); rotate_left; (simp only [Act.put, List.setIfInBounds_toArray, List.set_cons_zero, List.set_cons_succ, i64_w, i32_w]; rfl)
                  refine done_ (by kernel_rfl) ?_
                  
                  clear d3 d5
                  have fp := (blk_cell FO_49.out (2 + j)).trans (fcs_p _ _ _ _ _ _ hjn)
                  by_cases hp : p j < 0
                  · have HPJ := lhid hp
                    have dfz := blk_frozen FO_49.out (2 + j)
                    go_upto_region 19 with (fail)
                    try any_goals (exfalso; omega)
                    clear fp dfz hp
                    have FOs8 := lhid (show (World.setCell w53 ⟨fb, 2 + j, none⟩ (.int .i64 (v : Int))).heap[fb]? = some (.cells (fcs gb (.slice (some am) n c) (.slice Aq q.length cq) (put p j (v : Int)) b u) 141) from blk_put FO_49.out (2 + j) (.int .i64 (v : Int)) (fcs_sp _ _ _ _ _ _ hjn _))
                    have GBs8 := lhid (blk_far GB_50.out (p := ⟨fb, 2 + j, none⟩) (by have h1 := HNE.out; show gb ≠ fb; omega) (.int .i64 (v : Int)))
                    have MRs8 := lhid (Kd.R_set MR_51.out FO_49.out (by decide) (2 + j) (.int .i64 (v : Int)))
                    have QRs8 := lhid (Kd.Q_set QR_53.out FO_49.out (by decide) (2 + j) (.int .i64 (v : Int)))
                    have CHs8 := lhid (CH_52.out.set (p := ⟨fb, 2 + j, none⟩) (Or.inr rfl) (.int .i64 (v : Int)))
                    clear FO_49 GB_50 MR_51 QR_53 CH_52
                    generalize World.setCell w53 ⟨fb, 2 + j, none⟩ (.int .i64 (v : Int)) = ws8 at FOs8 GBs8 MRs8 QRs8 CHs8 ⊢
                    go_wp2_with fail
                    try any_goals (exfalso; omega)
                    with_reducible refine (mate_v ws8 fb gb n j _ _ _ _ G m (some am) c FOs8.out GBs8.out (ml_C MRs8.out) HJ.out HM1.out).mono ?_
                    rintro e w54 ⟨rfl, hb⟩
                    have FO_54 := lhid (blk_below FOs8.out hb)
                    have GB_55 := lhid (blk_below GBs8.out hb)
                    have MR_56 := lhid (Kd.R_below MRs8.out hb)
                    have CH_57 := lhid (CHs8.out.next hb)
                    have QR_58 := lhid (Kd.Q_below QRs8.out hb)
                    clear FOs8 GBs8 MRs8 CHs8 QRs8 hb
                    go_upto_region 21 with (fail)
                    try any_goals (exfalso; omega)
                    have hb := below_drew1 (Below.refl w54.heap.size w54)
                    have FO_59 := lhid (blk_below FO_54.out hb)
                    have GB_60 := lhid (blk_below GB_55.out hb)
                    have MR_61 := lhid (Kd.R_below MR_56.out hb)
                    have CH_62 := lhid (CH_57.out.next hb)
                    have QR_63 := lhid (Kd.Q_below QR_58.out hb)
                    clear FO_54 GB_55 MR_56 CH_57 QR_58 hb
                    refine start_ (n := 8) (S := fun w' => True) (ds := [7]) (lsq 8 0) (by kernel_rfl) rfl rfl trivial (fun hHeld => ?_)
                    generalize w54.drew = w55 at FO_59 GB_60 MR_61 CH_62 QR_63 hHeld ⊢
                    refine pure_ (i := 0) (N := some 158) (v := ?_) (a' := ?_) (lsq 8 1) rfl rfl (by as_aux_lemma => kernel_rfl) (fun _ _ _ h => h) (Or.inl ⟨by rfl, ?_⟩) ?_ ?_; rotate_left; (intro w'; go_simp; with_reducible rfl); rotate_left; (simp only [Act.put, List.setIfInBounds_toArray, List.set_cons_zero, List.set_cons_succ, i64_w, i32_w]; rfl)
                    refine pure_ (i := 1) (N := some 159) (v := ?_) (a' := ?_) (lsq 8 3) rfl rfl (by as_aux_lemma => kernel_rfl) (fun _ _ _ h => h) (Or.inl ⟨by rfl, ?_⟩) ?_ ?_; rotate_left; (intro w'; go_simp; with_reducible rfl); rotate_left; (simp only [Act.put, List.setIfInBounds_toArray, List.set_cons_zero, List.set_cons_succ, i64_w, i32_w]; rfl)
                    refine pure_ (i := 2) (N := some 160) (v := ?_) (a' := ?_) (lsq 8 7) rfl rfl (by as_aux_lemma => kernel_rfl) (fun _ _ _ h => h) (Or.inl ⟨by rfl, ?_⟩) ?_ ?_; rotate_left; (intro w'; go_simp; with_reducible rfl); rotate_left; (simp only [Act.put, List.setIfInBounds_toArray, List.set_cons_zero, List.set_cons_succ, i64_w, i32_w]; rfl)
                    refine pure_ (i := 4) (N := some 162) (v := ?_) (a' := ?_) (lsq 8 23) rfl rfl (by as_aux_lemma => kernel_rfl) (fun _ _ _ h => h) (Or.inl ⟨by rfl, ?_⟩) ?_ ?_; rotate_left; (intro w'; go_simp; with_reducible rfl); rotate_left; (simp only [Act.put, List.setIfInBounds_toArray, List.set_cons_zero, List.set_cons_succ, i64_w, i32_w]; rfl)
                    refine pure_ (i := 5) (N := some 163) (v := ?_) (a' := ?_) (lsq 8 55) rfl rfl (by as_aux_lemma => kernel_rfl) (fun _ _ _ h => h) (Or.inl ⟨by rfl, ?_⟩) ?_ ?_; rotate_left; (intro w'; go_simp; with_reducible rfl); rotate_left; (simp only [Act.put, List.setIfInBounds_toArray, List.set_cons_zero, List.set_cons_succ, i64_w, i32_w]; rfl)
                    refine one_ (i := 3) (N := some 161) (lsq 8 63) rfl rfl (by kernel_rfl) (by decide) (fun K hK => ?_)
                    refine goes_ Try.func75 (by kernel_rfl) rfl #[.pointer (some ⟨fb, 0, none⟩), .int .i64 (j : Int)] (by rfl) rfl rfl (by (try simp only [List.map_toArray, List.map_cons, List.map_nil]); first | done | rfl) ?_
                    with_reducible refine (mate_v w55 fb gb n j _ _ _ _ G m (some am) c FO_59.out GB_60.out (ml_C MR_61.out) HJ.out HM1.out).mono ?_
                    rintro e w56 ⟨rfl, hb⟩
                    refine ⟨_, rfl, ?_⟩
                    have FO_64 := lhid (blk_below FO_59.out hb)
                    have GB_65 := lhid (blk_below GB_60.out hb)
                    have MR_66 := lhid (Kd.R_below MR_61.out hb)
                    have CH_67 := lhid (CH_62.out.next hb)
                    have QR_68 := lhid (Kd.Q_below QR_63.out hb)
                    clear FO_59 GB_60 MR_61 CH_62 QR_63 hb
                    refine hK.out _ _ trivial (fun hHeld => ?_)
                    clear hK K
                    refine norm_ (a' := ?_) ?_ ?_
                    rotate_left
                    · show Act.put _ (some 161) _ = _
                      simp only [Act.put, List.setIfInBounds_toArray, List.set_cons_zero, List.set_cons_succ, i64_w, i32_w]
                      rfl
                    refine pure_ (i := 6) (N := some 164) (v := ?_) (a' := ?_) (lsq 8 127) rfl rfl (by as_aux_lemma => kernel_rfl) (fun _ _ _ h => h) (Or.inl ⟨by rfl, ?_⟩) ?_ ?_; rotate_left; (intro w'; go_simp; with_reducible rfl); rotate_left; (simp only [Act.put, List.setIfInBounds_toArray, List.set_cons_zero, List.set_cons_succ, i64_w, i32_w]; rfl)
                    refine last_ (i := 7) (N := none) (lsq 8 255) rfl rfl (by kernel_rfl) (by decide) (fun K hK => ?_)
                    have dc := (blk_cell FO_64.out (50 + m j)).trans (fcs_u _ _ _ _ _ _ hmj24)
                    have df := blk_frozen FO_64.out (50 + m j)
                    refine skip_ (w1 := ?_) (by rfl) rfl ?_ ?_
                    rotate_left
                    · go_simp
                      rfl
                    clear dc df
                    have FOs9 := lhid (show (World.setCell w56 ⟨fb, 50 + m j, none⟩ (.bool true)).heap[fb]? = some (.cells (fcs gb (.slice (some am) n c) (.slice Aq q.length cq) (put p j (v : Int)) b (put u (m j) true)) 141) from blk_put FO_64.out (50 + m j) (.bool true) (fcs_su _ _ _ _ _ _ hmj24 _))
                    have GBs9 := lhid (blk_far GB_65.out (p := ⟨fb, 50 + m j, none⟩) (by have h1 := HNE.out; show gb ≠ fb; omega) (.bool true))
                    have MRs9 := lhid (Kd.R_set MR_66.out FO_64.out (by decide) (50 + m j) (.bool true))
                    have QRs9 := lhid (Kd.Q_set QR_68.out FO_64.out (by decide) (50 + m j) (.bool true))
                    have CHs9 := lhid (CH_67.out.set (p := ⟨fb, 50 + m j, none⟩) (Or.inr rfl) (.bool true))
                    clear FO_64 GB_65 MR_66 QR_68 CH_67
                    generalize World.setCell w56 ⟨fb, 50 + m j, none⟩ (.bool true) = ws9 at FOs9 GBs9 MRs9 QRs9 CHs9 ⊢
                    refine hK.out _ _ ?_
                    clear hK K
                    refine done_ (by kernel_rfl) ?_
                    
                    go_upto_region 22 with (fail)
                    try any_goals (exfalso; omega)
                    have hb := below_drew1 (Below.refl ws9.heap.size ws9)
                    have FO_69 := lhid (blk_below FOs9.out hb)
                    have GB_70 := lhid (blk_below GBs9.out hb)
                    have MR_71 := lhid (Kd.R_below MRs9.out hb)
                    have CH_72 := lhid (CHs9.out.next hb)
                    have QR_73 := lhid (Kd.Q_below QRs9.out hb)
                    clear FOs9 GBs9 MRs9 CHs9 QRs9 hb
                    refine start_ (n := 13) (S := fun w' => w'.cell? ⟨fb, 74, none⟩ = some (.slice Aq q.length cq)) (ds := [12]) (lsq 13 0) (by kernel_rfl) rfl rfl (((blk_cell FO_69.out 74).trans (fcs_q ..))) (fun hHeld => ?_)
                    generalize ws9.drew = w57 at FO_69 GB_70 MR_71 CH_72 QR_73 hHeld ⊢
                    refine pure_ (i := 0) (N := some 165) (v := ?_) (a' := ?_) (lsq 13 1) rfl rfl (by as_aux_lemma => kernel_rfl) (fun _ _ _ h => h) (Or.inl ⟨by rfl, ?_⟩) ?_ ?_; rotate_left; (intro w'; go_simp; with_reducible rfl); rotate_left; (simp only [Act.put, List.setIfInBounds_toArray, List.set_cons_zero, List.set_cons_succ, i64_w, i32_w]; rfl)
                    refine pure_ (i := 1) (N := some 166) (v := ?_) (a' := ?_) (lsq 13 3) rfl rfl (by as_aux_lemma => kernel_rfl) (fun _ _ _ h => h) (Or.inl ⟨by rfl, ?_⟩) ?_ ?_; rotate_left; (intro w'; go_simp; with_reducible rfl); rotate_left; (simp only [Act.put, List.setIfInBounds_toArray, List.set_cons_zero, List.set_cons_succ, i64_w, i32_w]; rfl)
                    refine pure_ (i := 2) (N := some 167) (v := ?_) (a' := ?_) (lsq 13 7) rfl rfl (by as_aux_lemma => kernel_rfl) (fun _ _ _ h => h) (Or.inl ⟨by rfl, ?_⟩) ?_ ?_; rotate_left; (intro w'; go_simp; with_reducible rfl); rotate_left; (simp only [Act.put, List.setIfInBounds_toArray, List.set_cons_zero, List.set_cons_succ, i64_w, i32_w]; rfl)
                    refine pure_ (i := 3) (N := some 168) (v := ?_) (a' := ?_) (lsq 13 15) rfl rfl (by as_aux_lemma => kernel_rfl) (fun _ _ _ h => h) (Or.inl ⟨by rfl, ?_⟩) ?_ ?_; rotate_left; (intro w'; go_simp; with_reducible rfl); rotate_left; (simp only [Act.put, List.setIfInBounds_toArray, List.set_cons_zero, List.set_cons_succ, i64_w, i32_w]; rfl)
                    refine pure_ (i := 5) (N := some 170) (v := ?_) (a' := ?_) (lsq 13 47) rfl rfl (by as_aux_lemma => kernel_rfl) (fun _ _ _ h => h) (Or.inl ⟨by rfl, ?_⟩) ?_ ?_; rotate_left; (intro w'; go_simp; with_reducible rfl); rotate_left; (simp only [Act.put, List.setIfInBounds_toArray, List.set_cons_zero, List.set_cons_succ, i64_w, i32_w]; rfl)
                    refine pure_ (i := 6) (N := some 171) (v := ?_) (a' := ?_) (lsq 13 111) rfl rfl (by as_aux_lemma => kernel_rfl) (fun _ _ _ h => h) (Or.inl ⟨by rfl, ?_⟩) ?_ ?_; rotate_left; (intro w'; go_simp; with_reducible rfl); rotate_left; (simp only [Act.put, List.setIfInBounds_toArray, List.set_cons_zero, List.set_cons_succ, i64_w, i32_w]; rfl)
                    refine take_ (i := 4) (N := some 169) (v := ?_) (a' := ?_) (lsq 13 127) rfl rfl (by as_aux_lemma => kernel_rfl) (fun _ _ _ h => h) (Or.inl ⟨by rfl, ?_⟩) hHeld ?_ ?_; rotate_left; (intro w' s0; go_simp; with_reducible rfl); rotate_left; (simp only [Act.put, List.setIfInBounds_toArray, List.set_cons_zero, List.set_cons_succ, i64_w, i32_w]; rfl)
                    refine one_ (i := 7) (N := some 172) (lsq 13 255) rfl rfl (by kernel_rfl) (by decide) (fun K hK => ?_)
                    refine goes_ Try.func75 (by kernel_rfl) rfl #[.pointer (some ⟨fb, 0, none⟩), .int .i64 (j : Int)] (by rfl) rfl rfl (by (try simp only [List.map_toArray, List.map_cons, List.map_nil]); first | done | rfl) ?_
                    with_reducible refine (mate_v w57 fb gb n j _ _ _ _ G m (some am) c FO_69.out GB_70.out (ml_C MR_71.out) HJ.out HM1.out).mono ?_
                    rintro e w58 ⟨rfl, hb⟩
                    refine ⟨_, rfl, ?_⟩
                    have FO_74 := lhid (blk_below FO_69.out hb)
                    have GB_75 := lhid (blk_below GB_70.out hb)
                    have MR_76 := lhid (Kd.R_below MR_71.out hb)
                    have CH_77 := lhid (CH_72.out.next hb)
                    have QR_78 := lhid (Kd.Q_below QR_73.out hb)
                    clear FO_69 GB_70 MR_71 CH_72 QR_73 hb
                    refine hK.out _ _ (((blk_cell FO_74.out 74).trans (fcs_q ..))) (fun hHeld => ?_)
                    clear hK K
                    refine norm_ (a' := ?_) ?_ ?_
                    rotate_left
                    · show Act.put _ (some 172) _ = _
                      simp only [Act.put, List.setIfInBounds_toArray, List.set_cons_zero, List.set_cons_succ, i64_w, i32_w]
                      rfl
                    refine one_ (i := 8) (N := some 173) (lsq 13 511) rfl rfl (by kernel_rfl) (by decide) (fun K hK => ?_)
                    refine value_ (w1 := ?_) (v := ?_) (by rfl) rfl ?_ ?_
                    rotate_left 2
                    · go_simp
                      constructor
                      · rfl
                      · rfl
                    refine hK.out _ _ ((pw_cell_below (below_alloc (Below.refl _ _) _) ((blk_cell FO_74.out 74).trans (fcs_q ..)))) (fun hHeld => ?_)
                    clear hK K
                    refine norm_ (a' := ?_) ?_ ?_
                    rotate_left
                    · show Act.put _ (some 173) _ = _
                      simp only [Act.put, List.setIfInBounds_toArray, List.set_cons_zero, List.set_cons_succ, i64_w, i32_w]
                      rfl
                    refine one_ (i := 9) (N := some 174) (lsq 13 1023) rfl rfl (by kernel_rfl) (by decide) (fun K hK => ?_)
                    refine Kd.Q_append_step (Kd.int .i64) (w0 := w58) w.heap.size (by rfl) (.tmp 169) (.tmp 173) 26 3 (.int .i64 0) 8 rfl Try.underlying26 info3 rfl (by decide) (by decide) (.slice Aq q.length cq) (qi q) (m j : Int) [.int .i64 (m j : Int)] (fun _ => True) (fun _ => False) rfl rfl rfl (fun _ hk => hk.elim) (fun _ _ => trivial) ?aO (Below.refl _ _) ?aS ?aL ?_
                    (case aO => exact QR_78.out)
                    (case aS => exact CH_77.out.size)
                    (case aL => rw [qi_len]; have := HQ25.out; omega)
                    intro v1 w70 hq70 hb70 hg70 hat70
                    obtain ⟨A1, c1, hv1, _⟩ := Kd.Q_slice hq70
                    rw [List.length_append, qi_len] at hv1
                    have hv1' : v1 = .slice A1 (q.length + 1) c1 := hv1
                    subst hv1'
                    rw [show qi q ++ [(m j : Int)] = qi (q ++ [m j]) by simp [qi]] at hq70
                    have QRz := lhid hq70
                    have FOz := lhid (blk_grown FO_74.out hg70 (Kd.Q_ne QR_78.out FO_74.out (by decide)))
                    have GBz := lhid (blk_grown GB_75.out hg70 (Kd.Q_ne QR_78.out GB_75.out (by decide)))
                    have MRz := lhid (Kd.R_grown MR_76.out hg70 (fun k hk e => by have h1 := Kd.Q_base QR_78.out k e.symm; omega))
                    have CHz := lhid (CH_77.out.trans (F' := fun k => some k = Value.ownBlock (.slice Aq q.length cq)) ⟨hg70.os, hg70.tape, hg70.output, hg70.size, fun k hk hn => hg70.block k hk hn⟩ (fun k hk e => by have h1 := Kd.Q_base QR_78.out k e.symm; omega))
                    clear hq70 hb70 hg70 hat70 hv1 FO_74 GB_75 MR_76 CH_77 QR_78
                    refine hK.out _ _ (((blk_cell FOz.out 74).trans (fcs_q ..))) (fun hHeld => ?_)
                    clear hK K
                    refine norm_ (a' := ?_) ?_ ?_
                    rotate_left
                    · show Act.put _ (some 174) _ = _
                      simp only [Act.put, List.setIfInBounds_toArray, List.set_cons_zero, List.set_cons_succ, i64_w, i32_w]
                      rfl
                    refine pure_ (i := 10) (N := some 175) (v := ?_) (a' := ?_) (lsq 13 2047) rfl rfl (by as_aux_lemma => kernel_rfl) (fun _ _ _ h => h) (Or.inl ⟨by rfl, ?_⟩) ?_ ?_; rotate_left; (intro w'; go_simp; with_reducible rfl); rotate_left; (simp only [Act.put, List.setIfInBounds_toArray, List.set_cons_zero, List.set_cons_succ, i64_w, i32_w]; rfl)
                    refine pure_ (i := 11) (N := some 176) (v := ?_) (a' := ?_) (lsq 13 4095) rfl rfl (by as_aux_lemma => kernel_rfl) (fun _ _ _ h => h) (Or.inl ⟨by rfl, ?_⟩) ?_ ?_; rotate_left; (intro w'; go_simp; with_reducible rfl); rotate_left; (simp only [Act.put, List.setIfInBounds_toArray, List.set_cons_zero, List.set_cons_succ, i64_w, i32_w]; rfl)
                    refine last_ (i := 12) (N := none) (lsq 13 8191) rfl rfl (by kernel_rfl) (by decide) (fun K hK => ?_)
                    have dc := (blk_cell FOz.out 74).trans (fcs_q ..)
                    have df := blk_frozen FOz.out 74
                    refine skip_ (w1 := ?_) (by rfl) rfl ?_ ?_
                    rotate_left
                    · go_simp
                      rfl
                    clear dc df
                    have FOs10 := lhid (show (World.setCell w70 ⟨fb, 74, none⟩ (.slice A1 (q.length + 1) c1)).heap[fb]? = some (.cells (fcs gb (.slice (some am) n c) (.slice A1 (q.length + 1) c1) (put p j (v : Int)) b (put u (m j) true)) 141) from blk_put FOz.out (74) (.slice A1 (q.length + 1) c1) (fcs_sq ..))
                    have GBs10 := lhid (blk_far GBz.out (p := ⟨fb, 74, none⟩) (by have h1 := HNE.out; show gb ≠ fb; omega) (.slice A1 (q.length + 1) c1))
                    have MRs10 := lhid (Kd.R_set MRz.out FOz.out (by decide) (74) (.slice A1 (q.length + 1) c1))
                    have QRs10 := lhid (Kd.Q_set QRz.out FOz.out (by decide) (74) (.slice A1 (q.length + 1) c1))
                    have CHs10 := lhid (CHz.out.set (p := ⟨fb, 74, none⟩) (Or.inr rfl) (.slice A1 (q.length + 1) c1))
                    clear FOz GBz MRz QRz CHz
                    generalize World.setCell w70 ⟨fb, 74, none⟩ (.slice A1 (q.length + 1) c1) = ws10 at FOs10 GBs10 MRs10 QRs10 CHs10 ⊢
                    refine hK.out _ _ ?_
                    clear hK K
                    refine done_ (by kernel_rfl) ?_
                    
                    have hle : q.length + 1 = (q ++ [m j]).length := by simp
                    have QRe := lhid (show Kd.Q (Kd.int .i64) 3 ws10 w.heap.size (fun _ => True) (.slice A1 (q ++ [m j]).length c1) (qi (q ++ [m j])) by rw [← hle]; exact QRs10.out)
                    have FOe := lhid (show ws10.heap[fb]? = some (.cells (fcs gb (.slice (some am) n c) (.slice A1 (q ++ [m j]).length c1) (put p j (v : Int)) b (put u (m j) true)) 141) by rw [← hle]; exact FOs10.out)
                    clear hle
                    go_wp2_with fail
                    try any_goals (exfalso; omega)
                    go_roundw
                    case rel => exact ⟨j + 1, by omega, by simp, q ++ [m j], put p j (v : Int), put u (m j) true, put d j (1 + d (m v)), A1, c1, lhid (HIN.out.push HBP.out HMT.out HGV.out HPJ.out HM1.out), lhid (k_next HKK.out HJ.out HPJ.out), QRe, FOe, GBs10, MRs10, CHs10⟩
                    case measure => simp [intOf]; omega
                  · have HPJ := lhid (show 0 ≤ p j by omega)
                    have hp2 : ¬ p j < 0 := hp
                    go_wp2_with fail
                    clear fp hp hp2
                    go_wp2_with fail
                    try any_goals (exfalso; omega)
                    go_roundw
                    case rel => exact ⟨j + 1, by omega, by simp, q, p, u, d, Aq, cq, lhid (HIN.out.skip (fun _ => Or.inl HPJ.out)), HKK, QR_53, FO_49, GB_50, MR_51, CH_52⟩
                    case measure => simp [intOf]; omega
          have hne : n = j := by omega
          subst hne
          clear hlt hj
          have HOX := lhid (HIN.out.done HBP.out)
          have HKX := lhid (show q.length + cnt (fun i => decide (p i < 0)) n ≤ 1000 from Nat.le_trans (Nat.le_of_eq HKK.out) HK25.out)
          go_wp2_with fail
          try any_goals (exfalso; omega)
          go_roundw
          case rel => exact ⟨q, p, u, d, Aq, cq, HOX, HKX, QRr, FOr, GBr, MRr, CHr⟩
          case measure => rw [mes_is FOr.out hn24, HK.out]; have := HKK.out; omega
end Go.Proofs.Ythfdjccdelbeeaa.PT
end
section
namespace Go.Proofs.Ythfdjccdelbeeaa.PT
open Go.RowKit Go.Proofs.YthfdjccdelbeeaaW.PrintWords Go.Proofs.YthfdjccdelbeeaaW.PrintLast Go.Proofs.YthfdjccdelbeeaaW.PrintMore Go.Proofs.Ythfdjccdelbeeaa.Gm
set_option linter.unusedVariables false
set_option linter.unusedSimpArgs false
theorem zero_fcs (gb : Nat) (vm : Value) : (Try.zeroCells141.setIfInBounds 0 (.pointer (some ⟨gb, 0, none⟩))).setIfInBounds 1 vm = fcs gb vm (.slice none 0 0) (fun _ => 0) (fun _ => 0) (fun _ => false) := by kernel_rfl
theorem R_not_f {W : World} {base : Nat} {ok : Nat → Prop} {v : Value} {xs : List Int} {fb : Nat} {cs : Array Value} (h : Kd.R (Kd.int .i64) 3 W base ok v xs) (hF : W.heap[fb]? = some (.cells cs 141)) : Kd.R (Kd.int .i64) 3 W base (fun k => k < W.heap.size ∧ k ≠ fb) v xs :=
  Kd.R_mono (Kd.R_bound h) (fun k q => ⟨q.2.2.1, fun e => by
    obtain ⟨_, _, _, t, ht, cs, hcs⟩ := q
    have ht' : t = 3 := by simpa [Kd.int, Kd.scalar, Kd.E] using ht
    subst ht'
    exact blk_ne hcs hF (by decide) e⟩)
theorem mea_lt {n x v : Nat} {m' : Nat → Nat} {d : Nat → Nat} {P Q : Prop} (h : m' x = n ∧ P ∨ m' x < n ∧ d (m' x) < d v ∧ Q) : (if mateI n m' x < 0 then 0 else d (mateI n m' x).toNat + 1) < (if (v : Int) < 0 then 0 else d (v : Int).toNat + 1) := by
  rw [if_neg (show ¬ (v : Int) < 0 by omega), Int.toNat_natCast]
  unfold mateI
  rcases h with ⟨h1, _⟩ | ⟨h1, h3, _⟩
  · rw [if_pos h1, if_pos (by decide)]; omega
  · rw [if_neg (show ¬ m' x = n by omega), if_neg (show ¬ ((m' x : Nat) : Int) < 0 by omega), Int.toNat_natCast]; omega
def GrP (n s : Nat) (G : Nat → Nat → Bool) (m : Nat → Nat) (root : Nat) (w : World) (e : Ending) (w' : World) : Prop := Below w.heap.size w w' ∧ ((e = .returned (.tuple #[.slice none 0 0, .bool false]) ∧ ∃ p d, Ou n s G m p root d []) ∨ ∃ (t : Nat) (m' : Nat → Nat) (A' : Option Addr) (c' : Nat), e = .returned (.tuple #[.slice A' n c', .bool true]) ∧ n ≤ c' ∧ (∃ p d, Wy n s G m p root d t) ∧ Fi n G m root t m' ∧ Kd.C (Kd.int .i64) w' A' n (ml n m'))
set_option maxHeartbeats 12800000 in
set_option maxRecDepth 100000 in
theorem grown_c (w : World) (gb n s root : Nat) (G : Nat → Nat → Bool) (m : Nat → Nat) (A : Option Addr) (c : Nat) (hG : w.heap[gb]? = some (.cells (gcs n G) 128)) (hM : Kd.C (Kd.int .i64) w A n (ml n m)) (hc : n ≤ c) (hbp : Bip n s G) (hmt : Mat n G m) (hn24 : n ≤ 24) (hr : root < n) (hr2 : m root = n) : Calls Try.prog 72 #[.pointer (some ⟨gb, 0, none⟩), .slice A n c, .int .i64 (root : Int)] w (GrP n s G m root w) := by
  have HG := lhid hG
  have HM := lhid hM
  have HMT := lhid hmt
  have HBP := lhid hbp
  have HN := lhid (And.intro hn24 hr)
  have HR2 := lhid hr2
  have HC := lhid hc
  have hu141 := Try.underlying141
  have hu128 := Try.underlying128
  have hu26 := Try.underlying26
  have hu126 := Try.underlying126
  have hu125 := Try.underlying125
  have hu139 := Try.underlying139
  clear hG hM hmt hbp hr2 hc
  go_enter Try.func72, Try.ntmps72
  go_upto_region 1 with (fail)
  try any_goals (exfalso; omega)
  have hcl := cloneI_calls w A c (ml n m) (by rw [ml_len]; exact HM.out) (by rw [ml_len]; exact HC.out) (by rw [ml_len]; omega)
  rw [ml_len] at hcl
  go_wp2_with fail
  with_reducible refine hcl.mono ?_
  rintro e w1 ⟨v1, rfl, hR1, hb1⟩
  clear hcl
  obtain ⟨ab, c1, rfl, hab, _, _⟩ := Kd.R_form hR1 (by rw [ml_len]; omega)
  rw [ml_len] at hR1
  have hc1 := (Kd.R_reads' hR1).2.1
  have hv0 : Value.slice (some ⟨ab, 0, none⟩) (ml n m).length c1 = .slice (some ⟨ab, 0, none⟩) n c1 := by rw [ml_len]
  rw [hv0]
  clear hv0
  have HR1 := lhid hR1
  have HB1 := lhid hb1
  have HC1 := lhid hc1
  have HG1 := lhid (show w1.heap[gb]? = some (.cells (gcs n G) 128) from (hb1.block gb (blk_lt HG.out)).trans HG.out)
  clear hR1 hb1 hc1
  have HAB := lhid hab
  clear hab
  go_upto_region 2 with (fail)
  try any_goals (exfalso; omega)
  rw [zero_fcs gb (.slice (some ⟨ab, 0, none⟩) n c1)]
  obtain ⟨fb, hfb⟩ : ∃ x, x = w1.heap.size := ⟨_, rfl⟩
  have HF := lhid (blk_new w1 (.cells (fcs gb (.slice (some ⟨ab, 0, none⟩) n c1) (.slice none 0 0) (fun _ => 0) (fun _ => 0) (fun _ => false)) 141))
  rw [← hfb] at HF ⊢
  have HB2 := lhid (below_alloc HB1.out (.cells (fcs gb (.slice (some ⟨ab, 0, none⟩) n c1) (.slice none 0 0) (fun _ => 0) (fun _ => 0) (fun _ => false)) 141))
  have hbx := below_alloc (Below.refl w1.heap.size w1) (.cells (fcs gb (.slice (some ⟨ab, 0, none⟩) n c1) (.slice none 0 0) (fun _ => 0) (fun _ => 0) (fun _ => false)) 141)
  have HG2 := lhid (blk_below HG1.out hbx)
  have HR2w := lhid (Kd.R_below HR1.out hbx)
  have HFB := lhid (show w.heap.size ≤ fb by rw [hfb]; exact HB1.out.size)
  clear hbx hfb HB1 HG1 HR1
  generalize World.alloc w1 (.cells (fcs gb (.slice (some ⟨ab, 0, none⟩) n c1) (.slice none 0 0) (fun _ => 0) (fun _ => 0) (fun _ => false)) 141) = w2 at HF HB2 HG2 HR2w ⊢
  go_wp2_with fail
  with_reducible refine (search_c w2 fb gb n s root w.heap.size (fun _ => True) (.slice none 0 0) (fun _ => 0) (fun _ => 0) (fun _ => false) G m (some ⟨ab, 0, none⟩) c1 HF.out HG2.out HR2w.out HBP.out HMT.out HN.out.1 HN.out.2 HR2.out).mono ?_
  rintro e w3 ⟨p, b, u, vq, d, hF3, hch, ho⟩
  have FO3 := lhid hF3
  have HRM := lhid (R_not_f HR2w.out HF.out)
  have HR3 := lhid (show Kd.R (Kd.int .i64) 3 w3 w.heap.size (fun _ => True) (.slice (some ⟨ab, 0, none⟩) n c1) (ml n m) from Kd.R_mono (Kd.R_step HRM.out (fun k hk _ => hch.block k hk.1 hk.2)) (fun _ _ => trivial))
  have HB3 := lhid (Below.trans HB2.out (hch.below (Nat.le_trans HFB.out (Nat.le_of_lt (blk_lt HF.out))) (fun k hk => by rw [hk]; exact HFB.out)))
  have HG3 := lhid (show w3.heap[gb]? = some (.cells (gcs n G) 128) from (HB3.out.block gb (blk_lt HG.out)).trans HG.out)
  clear HF HG2 HR2w HB2 HRM hch hF3
  rcases ho with ⟨rfl, ho⟩ | ⟨t, rfl, ho⟩
  · go_wp2_with fail
    try any_goals (exfalso; omega)
    go_ret2
    exact ⟨HB3.out, Or.inl ⟨rfl, p, d, ho⟩⟩
  have HW := lhid ho
  clear ho
  go_upto_region 5 with (fail)
  try any_goals (exfalso; omega)
  have HNE := lhid (show ab ≠ fb by rintro rfl; obtain ⟨cs, hcs⟩ := Kd.R_typed HR3.out ab rfl; exact blk_ne hcs FO3.out (by decide) rfl)
  have HNG := lhid (show gb ≠ ab ∧ gb ≠ fb from ⟨fun e => by have h1 := blk_lt HG.out; have h2 := HAB.out; omega, fun e => by have h1 := blk_lt HG.out; have h2 := HFB.out; omega⟩)
  go_loopw [9, 10, 11] (fun i _ _ wr => ∃ (m' : Nat → Nat) (z : Int), i = .int .i64 z ∧ Hid ((∃ x : Nat, z = (x : Int) ∧ Tu n G m p root d t m' x) ∨ (z = -1 ∧ Fi n G m root t m')) ∧ Hid (wr.heap[fb]? = some (.cells (fcs gb (.slice (some ⟨ab, 0, none⟩) n c1) vq p b u) 141)) ∧ Hid (wr.heap[gb]? = some (.cells (gcs n G) 128)) ∧ Hid (Kd.R (Kd.int .i64) 3 wr w.heap.size (fun _ => True) (.slice (some ⟨ab, 0, none⟩) n c1) (ml n m')) ∧ Hid (Below w.heap.size w wr)) (fun i _ _ _ => if intOf i < 0 then 0 else d (intOf i).toNat + 1)
  case atStart => exact ⟨m, (t : Int), rfl, lhid (Or.inl ⟨t, rfl, HW.out.start HMT.out⟩), FO3, HG3, HR3, HB3⟩
  case round =>
    clear FO3 HG3 HR3 HB3
    obtain ⟨m', z, rfl, HZ, FOr, GBr, MRr, BEr⟩ := hrel
    rcases HZ.out with ⟨v, rfl, hT⟩ | ⟨rfl, hF⟩
    · have HT := lhid hT
      have hv24 : v < 24 := by have h1 := hT.vn; omega
      have hv0 : (0 : Int) ≤ (v : Int) := by omega
      have hvi : (v : Int) < 24 := by omega
      have hvg : (v : Int) ≥ 0 := hv0
      obtain ⟨x, e1, hx, hxv, hst⟩ := hT.step HBP.out HMT.out HW.out.sea HR2.out
      have HX := lhid (And.intro hx hxv)
      have HST := lhid hst
      have f2 := (blk_cell FOr.out (2 + v)).trans (fcs_p _ _ _ _ _ _ hv24)
      rw [e1] at f2
      clear HZ hT hx hxv hst e1
      go_upto_region 7 with (fail)
      try any_goals (exfalso; omega)
      clear f2
      have hmc := mate_c wr fb gb n x vq p b u G m' (some ⟨ab, 0, none⟩) c1 FOr.out GBr.out (ml_C MRr.out) HX.out.1
      go_wp2_with fail
      try any_goals (exfalso; omega)
      with_reducible refine hmc.mono ?_
      rintro e w5 ⟨rfl, hb⟩
      clear hmc
      have FO5 := lhid (blk_below FOr.out hb)
      have GB5 := lhid (blk_below GBr.out hb)
      have MR5 := lhid (Kd.R_below MRr.out hb)
      have BE5 := lhid (below_then BEr.out BEr.out.size hb)
      clear FOr GBr MRr BEr hb
      have hx0 : (0 : Int) ≤ (x : Int) := by omega
      have hxn : (x : Int) < (n : Int) := by have h1 := HX.out.1; omega
      have hvn : (v : Int) < (n : Int) := by have h1 := HT.out.vn; omega
      go_upto_region 8 with (fail)
      try any_goals (exfalso; omega)
      have hb := below_drew1 (Below.refl w5.heap.size w5)
      have FO_1 := lhid (blk_below FO5.out hb)
      have GB_2 := lhid (blk_below GB5.out hb)
      have MR_3 := lhid (Kd.R_below MR5.out hb)
      have BE_4 := lhid (below_then BE5.out BE5.out.size hb)
      clear FO5 GB5 MR5 BE5 hb
      refine start_ (n := 16) (S := fun w' => w'.cell? ⟨fb, 1, none⟩ = some (.slice (some ⟨ab, 0, none⟩) n c1)) (ds := [13, 15]) (lsq 16 0) (by kernel_rfl) rfl rfl (((blk_cell FO_1.out 1).trans (fcs_m ..))) (fun hHeld => ?_)
      generalize w5.drew = w1 at FO_1 GB_2 MR_3 BE_4 hHeld ⊢
      refine pure_ (i := 0) (N := some 33) (v := ?_) (a' := ?_) (lsq 16 1) rfl rfl (by as_aux_lemma => kernel_rfl) (fun _ _ _ h => h) (Or.inl ⟨by rfl, ?_⟩) ?_ ?_; rotate_left; (intro w'; go_simp; with_reducible rfl); rotate_left; (simp only [Act.put, List.setIfInBounds_toArray, List.set_cons_zero, List.set_cons_succ, i64_w, i32_w]; rfl)
      refine pure_ (i := 1) (N := some 34) (v := ?_) (a' := ?_) (lsq 16 3) rfl rfl (by as_aux_lemma => kernel_rfl) (fun _ _ _ h => h) (Or.inl ⟨by rfl, ?_⟩) ?_ ?_; rotate_left; (intro w'; go_simp; with_reducible rfl); rotate_left; (simp only [Act.put, List.setIfInBounds_toArray, List.set_cons_zero, List.set_cons_succ, i64_w, i32_w]; rfl)
      refine pure_ (i := 2) (N := some 35) (v := ?_) (a' := ?_) (lsq 16 7) rfl rfl (by as_aux_lemma => kernel_rfl) (fun _ _ _ h => h) (Or.inl ⟨by rfl, ?_⟩) ?_ ?_; rotate_left; (intro w'; go_simp; with_reducible rfl); rotate_left; (simp only [Act.put, List.setIfInBounds_toArray, List.set_cons_zero, List.set_cons_succ, i64_w, i32_w]; rfl)
      refine pure_ (i := 4) (N := some 37) (v := ?_) (a' := ?_) (lsq 16 23) rfl rfl (by as_aux_lemma => kernel_rfl) (fun _ _ _ h => h) (Or.inl ⟨by rfl, ?_⟩) ?_ ?_; rotate_left; (intro w'; go_simp; with_reducible rfl); rotate_left; (simp only [Act.put, List.setIfInBounds_toArray, List.set_cons_zero, List.set_cons_succ, i64_w, i32_w]; rfl)
      refine pure_ (i := 5) (N := some 38) (v := ?_) (a' := ?_) (lsq 16 55) rfl rfl (by as_aux_lemma => kernel_rfl) (fun _ _ _ h => h) (Or.inl ⟨by rfl, ?_⟩) ?_ ?_; rotate_left; (intro w'; go_simp; with_reducible rfl); rotate_left; (simp only [Act.put, List.setIfInBounds_toArray, List.set_cons_zero, List.set_cons_succ, i64_w, i32_w]; rfl)
      refine pure_ (i := 6) (N := some 39) (v := ?_) (a' := ?_) (lsq 16 119) rfl rfl (by as_aux_lemma => kernel_rfl) (fun _ _ _ h => h) (Or.inl ⟨by rfl, ?_⟩) ?_ ?_; rotate_left; (intro w'; go_simp; with_reducible rfl); rotate_left; (simp only [Act.put, List.setIfInBounds_toArray, List.set_cons_zero, List.set_cons_succ, i64_w, i32_w]; rfl)
      refine pure_ (i := 7) (N := some 40) (v := ?_) (a' := ?_) (lsq 16 247) rfl rfl (by as_aux_lemma => kernel_rfl) (fun _ _ _ h => h) (Or.inl ⟨by rfl, ?_⟩) ?_ ?_; rotate_left; (intro w'; go_simp; with_reducible rfl); rotate_left; (simp only [Act.put, List.setIfInBounds_toArray, List.set_cons_zero, List.set_cons_succ, i64_w, i32_w]; rfl)
      refine pure_ (i := 9) (N := some 42) (v := ?_) (a' := ?_) (lsq 16 759) rfl rfl (by as_aux_lemma => kernel_rfl) (fun _ _ _ h => h) (Or.inl ⟨by rfl, ?_⟩) ?_ ?_; rotate_left; (intro w'; go_simp; with_reducible rfl); rotate_left; (simp only [Act.put, List.setIfInBounds_toArray, List.set_cons_zero, List.set_cons_succ, i64_w, i32_w]; rfl)
      refine pure_ (i := 10) (N := some 43) (v := ?_) (a' := ?_) (lsq 16 1783) rfl rfl (by as_aux_lemma => kernel_rfl) (fun _ _ _ h => h) (Or.inl ⟨by rfl, ?_⟩) ?_ ?_; rotate_left; (intro w'; go_simp; with_reducible rfl); rotate_left; (simp only [Act.put, List.setIfInBounds_toArray, List.set_cons_zero, List.set_cons_succ, i64_w, i32_w]; rfl)
      refine pure_ (i := 11) (N := some 44) (v := ?_) (a' := ?_) (lsq 16 3831) rfl rfl (by as_aux_lemma => kernel_rfl) (fun _ _ _ h => h) (Or.inl ⟨by rfl, ?_⟩) ?_ ?_; rotate_left; (intro w'; go_simp; with_reducible rfl); rotate_left; (simp only [Act.put, List.setIfInBounds_toArray, List.set_cons_zero, List.set_cons_succ, i64_w, i32_w]; rfl)
      refine take_ (i := 3) (N := some 36) (v := ?_) (a' := ?_) (lsq 16 3839) rfl rfl (by as_aux_lemma => kernel_rfl) (fun _ _ _ h => h) (Or.inl ⟨by rfl, ?_⟩) hHeld ?_ ?_; rotate_left; (intro w' s0; go_simp; with_reducible rfl); rotate_left; (simp only [Act.put, List.setIfInBounds_toArray, List.set_cons_zero, List.set_cons_succ, i64_w, i32_w]; rfl)
      refine take_ (i := 8) (N := some 41) (v := ?_) (a' := ?_) (lsq 16 4095) rfl rfl (by as_aux_lemma => kernel_rfl) (fun _ _ _ h => h) (Or.inl ⟨by rfl, ?_⟩) hHeld ?_ ?_; rotate_left; (intro w' s0; go_simp; with_reducible rfl); rotate_left; (simp only [Act.put, List.setIfInBounds_toArray, List.set_cons_zero, List.set_cons_succ, i64_w, i32_w]; rfl)
      refine pure_ (i := 12) (N := some 45) (v := ?_) (a' := ?_) (lsq 16 8191) rfl rfl (by as_aux_lemma => kernel_rfl) (fun _ _ _ h => h) (Or.inl ⟨by rfl, ?_⟩) ?_ ?_; rotate_left; (intro w'; go_simp; with_reducible rfl); rotate_left; (simp only [Act.put, List.setIfInBounds_toArray, List.set_cons_zero, List.set_cons_succ, i64_w, i32_w]; rfl)
      refine last_ (i := 13) (N := none) (lsq 16 16383) rfl rfl (by kernel_rfl) (by decide) (fun K hK => ?_)
      obtain ⟨dc, df⟩ := Kd.R_celln (0 : Int) MR_3.out (v : Int) (by omega) (by omega)
      rw [Int.toNat_natCast] at dc df
      refine skip_ (w1 := ?_) (by rfl) rfl ?_ ?_
      rotate_left
      · go_simp
        rfl
      clear dc df
      have MRa := lhid (show Kd.R (Kd.int .i64) 3 (World.setCell w1 ⟨ab, v, none⟩ (.int .i64 (x : Int))) w.heap.size (fun _ => True) (.slice (some ⟨ab, 0, none⟩) n c1) (ml n (put m' v x)) from by have h1 := Kd.R_putn MR_3.out (v : Int) (x : Int); rwa [Int.toNat_natCast, ml_set _ HT.out.vn] at h1)
      have FOa := lhid (blk_far FO_1.out (p := ⟨ab, v, none⟩) (fun e => HNE.out e.symm) (.int .i64 (x : Int)))
      have GBa := lhid (blk_far GB_2.out (p := ⟨ab, v, none⟩) HNG.out.1 (.int .i64 (x : Int)))
      have BEa := lhid (BE_4.out.setCell (p := ⟨ab, v, none⟩) HAB.out (.int .i64 (x : Int)))
      clear FO_1 GB_2 MR_3 BE_4
      generalize World.setCell w1 ⟨ab, v, none⟩ (.int .i64 (x : Int)) = wma at FOa GBa MRa BEa ⊢
      refine hK.out _ _ ?_
      clear hK K
      refine pure_ (i := 14) (N := some 46) (v := ?_) (a' := ?_) (lsq 16 32767) rfl rfl (by as_aux_lemma => kernel_rfl) (fun _ _ _ h => h) (Or.inl ⟨by rfl, ?_⟩) ?_ ?_; rotate_left; (intro w'; go_simp; with_reducible rfl); rotate_left; (simp only [Act.put, List.setIfInBounds_toArray, List.set_cons_zero, List.set_cons_succ, i64_w, i32_w]; rfl)
      refine last_ (i := 15) (N := none) (lsq 16 65535) rfl rfl (by kernel_rfl) (by decide) (fun K hK => ?_)
      obtain ⟨dc, df⟩ := Kd.R_celln (0 : Int) MRa.out (x : Int) (by omega) (by omega)
      rw [Int.toNat_natCast] at dc df
      refine skip_ (w1 := ?_) (by rfl) rfl ?_ ?_
      rotate_left
      · go_simp
        rfl
      clear dc df
      have MRb := lhid (show Kd.R (Kd.int .i64) 3 (World.setCell wma ⟨ab, x, none⟩ (.int .i64 (v : Int))) w.heap.size (fun _ => True) (.slice (some ⟨ab, 0, none⟩) n c1) (ml n (put (put m' v x) x v)) from by have h1 := Kd.R_putn MRa.out (x : Int) (v : Int); rwa [Int.toNat_natCast, ml_set _ HX.out.1] at h1)
      have FOb := lhid (blk_far FOa.out (p := ⟨ab, x, none⟩) (fun e => HNE.out e.symm) (.int .i64 (v : Int)))
      have GBb := lhid (blk_far GBa.out (p := ⟨ab, x, none⟩) HNG.out.1 (.int .i64 (v : Int)))
      have BEb := lhid (BEa.out.setCell (p := ⟨ab, x, none⟩) HAB.out (.int .i64 (v : Int)))
      clear FOa GBa MRa BEa
      generalize World.setCell wma ⟨ab, x, none⟩ (.int .i64 (v : Int)) = wmb at FOb GBb MRb BEb ⊢
      refine hK.out _ _ ?_
      clear hK K
      refine done_ (by kernel_rfl) ?_
      
      go_wp2_with fail
      try any_goals (exfalso; omega)
      go_roundw
      case rel => exact ⟨put (put m' v x) x v, mateI n m' x, rfl, lhid (by
        rcases HST.out with ⟨h1, h2⟩ | ⟨h1, _, h2⟩
        · exact Or.inr ⟨by unfold mateI; rw [if_pos h1], h2⟩
        · exact Or.inl ⟨m' x, by unfold mateI; rw [if_neg (by omega)], h2⟩), FOb, GBb, MRb, BEb⟩
      case measure => exact mea_lt HST.out
    have HF5 := lhid hF
    clear hF HZ
    have f1 := (blk_cell FOr.out 1).trans (fcs_m ..)
    go_wp2_with fail
    try any_goals (exfalso; omega)
    go_ret2
    exact ⟨BEr.out, Or.inr ⟨t, m', some ⟨ab, 0, none⟩, c1, rfl, HC1.out, ⟨p, d, HW.out⟩, HF5.out, ml_C MRr.out⟩⟩
end Go.Proofs.Ythfdjccdelbeeaa.PT
end
section
namespace Go.Proofs.Ythfdjccdelbeeaa.PT
open Go.RowKit Go.Proofs.YthfdjccdelbeeaaW.PrintWords Go.Proofs.YthfdjccdelbeeaaW.PrintLast Go.Proofs.YthfdjccdelbeeaaW.PrintMore Go.Proofs.Ythfdjccdelbeeaa.Gm
set_option linter.unusedVariables false
set_option linter.unusedSimpArgs false
theorem ml_zero (n : Nat) : ml n (fun _ => 0) = List.replicate n (0 : Int) := by
  unfold ml
  rw [List.eq_replicate_iff]
  exact ⟨by simp, fun b hb => by obtain ⟨_, _, q⟩ := List.mem_map.1 hb; exact q.symm⟩
theorem ml_congr {n : Nat} {m m' : Nat → Nat} (h : ∀ u, u < n → m u = m' u) : ml n m = ml n m' := List.map_congr_left (fun u hu => by rw [h u (List.mem_range.1 hu)])
def MoP (n s : Nat) (G : Nat → Nat → Bool) (w : World) (e : Ending) (w' : World) : Prop := Below w.heap.size w w' ∧ ∃ (m : Nat → Nat) (A : Option Addr) (c : Nat), e = .returned (.slice A n c) ∧ n ≤ c ∧ Mat n G m ∧ Mx G s (nprs n s m) ∧ Kd.C (Kd.int .i64) w' A n (ml n m)
set_option maxHeartbeats 12800000 in
set_option maxRecDepth 100000 in
theorem most_c (w : World) (gb n s : Nat) (G : Nat → Nat → Bool) (hG : w.heap[gb]? = some (.cells (gcs n G) 128)) (hbp : Bip n s G) (hn24 : n ≤ 24) (hsn : s ≤ n) : Calls Try.prog 66 #[.pointer (some ⟨gb, 0, none⟩)] w (MoP n s G w) := by
  have HG := lhid hG
  have HBP := lhid hbp
  have HN := lhid (And.intro hn24 hsn)
  have n24 : (n : Int) ≤ 24 := by omega
  have n0 : (0 : Int) ≤ (n : Int) := by omega
  have hu128 := Try.underlying128
  have hu26 := Try.underlying26
  have hu126 := Try.underlying126
  have hu125 := Try.underlying125
  have g0 := (blk_cell hG 0).trans (gcs_n n G)
  clear hG hbp hsn
  go_enter Try.func66, Try.ntmps66
  go_upto_region 2 with (((with_reducible refine gate_dst (N := 12) rfl ?_); refine Kd.R_make (Kd.int .i64) (w0 := w) w.heap.size 3 rfl (N := 12) rfl 26 _ _ rfl (n : Int) rfl rfl Try.underlying26 (.int .i64 0) 8 info3 rfl (by decide) (by decide) (0 : Int) (ok := fun _ => True) (okp := fun _ => True) rfl (fun _ hk => hk) trivial (by omega) (by omega) (Below.refl _ _) (Nat.le_refl _) ?_; intro v1 w1 ho1 hb1 hg1 hn1; rw [Int.toNat_natCast, ← ml_zero] at ho1; obtain ⟨A1, c1, rfl⟩ := Kd.R_slice ho1; rw [ml_len] at ho1 ⊢; have HR1 := lhid ho1; have HB1 := lhid hb1; have HG1 := lhid (blk_below HG.out hb1); clear ho1 hb1 hg1 hn1))
  try any_goals (exfalso; omega)
  clear g0
  go_upto_region 3 with (fail)
  try any_goals (exfalso; omega)
  go_loopw [4, 15] (fun _ i wr => ∃ k : Nat, k ≤ n ∧ i = .int .i64 k ∧ ∃ m : Nat → Nat, Hid (∀ u, u < k → m u = n) ∧ Hid (wr.heap[gb]? = some (.cells (gcs n G) 128)) ∧ Hid (Kd.R (Kd.int .i64) 3 wr w.heap.size (fun _ => True) (.slice A1 n c1) (ml n m)) ∧ Hid (Below w.heap.size w wr)) (fun _ i _ => n - (intOf i).toNat)
  case atStart => exact ⟨0, Nat.zero_le _, rfl, fun _ => 0, lhid (fun u hu => by omega), HG1, HR1, HB1⟩
  case round =>
    clear HG1 HR1 HB1
    obtain ⟨k, hk, rfl, m, HM, GBr, MRr, BEr⟩ := hrel
    by_cases hlt : k < n
    · have hki : (k : Int) < (n : Int) := by omega
      have hk0 : (0 : Int) ≤ (k : Int) := by omega
      obtain ⟨ab, c2, hv, hab, _, _⟩ := Kd.R_form MRr.out (by rw [ml_len]; omega)
      injection hv with hv1 hv2 hv3
      subst hv1 hv3
      clear hv2
      have HAB := lhid hab
      clear hab
      have g0 := (blk_cell GBr.out 0).trans (gcs_n n G)
      obtain ⟨dc, df⟩ := Kd.R_celln (0 : Int) MRr.out (k : Int) (by omega) (by omega)
      rw [Int.toNat_natCast] at dc df
      have HNG := lhid (show gb ≠ ab from fun e => by have h1 := blk_lt HG.out; have h2 := HAB.out; omega)
      go_upto_region 6 with (fail)
      try any_goals (exfalso; omega)
      clear g0 dc df
      have MRs := lhid (show Kd.R (Kd.int .i64) 3 (World.setCell wr ⟨ab, k, none⟩ (.int .i64 (n : Int))) w.heap.size (fun _ => True) (.slice (some ⟨ab, 0, none⟩) n c1) (ml n (put m k n)) from by have h1 := Kd.R_putn MRr.out (k : Int) (n : Int); rwa [Int.toNat_natCast, ml_set _ hlt] at h1)
      have GBs := lhid (blk_far GBr.out (p := ⟨ab, k, none⟩) HNG.out (.int .i64 (n : Int)))
      have BEs := lhid (BEr.out.setCell (p := ⟨ab, k, none⟩) HAB.out (.int .i64 (n : Int)))
      have HM2 := lhid (show ∀ u, u < k + 1 → put m k n u = n from fun u hu => by by_cases e : u = k; rw [e, put_at]; rw [put_ne _ _ e]; exact HM.out u (by omega))
      clear MRr GBr BEr HM
      generalize World.setCell wr ⟨ab, k, none⟩ (.int .i64 (n : Int)) = w4 at MRs GBs BEs ⊢
      go_wp2_with fail
      try any_goals (exfalso; omega)
      go_roundw
      case rel => exact ⟨k + 1, by omega, by simp, put m k n, HM2, GBs, MRs, BEs⟩
      case measure => simp [intOf]; omega
    have hne : n = k := by omega
    subst hne
    clear hlt hk
    have HG0 := lhid (Gre.zero (s := s) (G := G) (m := fun _ => n) (fun _ => rfl))
    have MC0 := lhid (show Kd.C (Kd.int .i64) wr A1 n (ml n (fun _ => n)) by rw [← ml_congr HM.out]; exact ml_C MRr.out)
    have hc1 := (Kd.R_reads' MRr.out).2.1
    have HC1 := lhid hc1
    clear HM MRr hc1
    go_upto_region 8 with (fail)
    try any_goals (exfalso; omega)
    go_loopw [3, 5, 6, 7, 28] (fun v _ _ _ i wr => ∃ (k : Nat) (m : Nat → Nat) (A : Option Addr) (c : Nat), k ≤ n ∧ i = .int .i64 k ∧ v = .slice A n c ∧ Hid (n ≤ c) ∧ Hid (Gre n s G k m) ∧ Hid (wr.heap[gb]? = some (.cells (gcs n G) 128)) ∧ Hid (Kd.C (Kd.int .i64) wr A n (ml n m)) ∧ Hid (Below w.heap.size w wr)) (fun _ _ _ _ i _ => n - (intOf i).toNat)
    case atStart => exact ⟨0, _, A1, c1, Nat.zero_le _, rfl, rfl, HC1, HG0, GBr, MC0, BEr⟩
    case round =>
      clear HC1 HG0 GBr MC0 BEr
      obtain ⟨k, m, A, c, hk, rfl, rfl, HC, HGR, GBr, MCr, BEr⟩ := hrel
      by_cases hlt : k < n
      · have hki : (k : Int) < (n : Int) := by omega
        have hk0 : (0 : Int) ≤ (k : Int) := by omega
        have HK := lhid hlt
        obtain ⟨am, eA, y⟩ := ml_at MCr.out hlt
        subst eA
        have g0 := (blk_cell GBr.out 0).trans (gcs_n n G)
        by_cases hm : m k < n
        · have hmi : (m k : Int) < (n : Int) := by omega
          have HMK := lhid hm
          go_wp2_with fail
          go_quiet (fail)
          have hb := pw_below_drewN (Below.refl wr.heap.size wr) nq
          have GB_1 := lhid (blk_below GBr.out hb)
          have MC_2 := lhid (Kd.C_below MCr.out hb)
          have BE_3 := lhid (below_then BEr.out BEr.out.size hb)
          clear GBr MCr BEr hb
          clear y g0
          generalize wr.drewN nq = w30 at GB_1 MC_2 BE_3 ⊢
          go_wp2_with fail
          try any_goals (exfalso; omega)
          go_roundw
          case rel => exact ⟨k + 1, m, some am, c, by omega, by simp, rfl, HC, lhid (HGR.out.skip HMK.out), GB_1, MC_2, BE_3⟩
          case measure => simp [intOf]; omega
        · have hmi : ¬ (m k : Int) < (n : Int) := by omega
          have HMK := lhid (show m k = n from Nat.le_antisymm (HGR.out.mat.le k hlt) (by omega))
          go_wp2_with fail
          go_quiet (fail)
          have hb := pw_below_drewN (Below.refl wr.heap.size wr) nq
          have GB_4 := lhid (blk_below GBr.out hb)
          have MC_5 := lhid (Kd.C_below MCr.out hb)
          have BE_6 := lhid (below_then BEr.out BEr.out.size hb)
          clear GBr MCr BEr hb
          clear y g0 hmi
          generalize wr.drewN nq = w30 at GB_4 MC_5 BE_6 ⊢
          go_wp2_with fail
          try any_goals (exfalso; omega)
          with_reducible refine (grown_c w30 gb n s k G m (some am) c GB_4.out MC_5.out HC.out HBP.out HGR.out.mat HN.out.1 HK.out HMK.out).mono ?_
          rintro e w40 ⟨hb, ho⟩
          have GB_7 := lhid (blk_below GB_4.out hb)
          have MC_8 := lhid (Kd.C_below MC_5.out hb)
          have BE_9 := lhid (below_then BE_6.out BE_6.out.size hb)
          clear GB_4 MC_5 BE_6 hb
          rcases ho with ⟨rfl, p, d, ho⟩ | ⟨t, m', A', c', rfl, hc', ⟨p, d, hw⟩, hf, hM'⟩
          · have HO := lhid ho
            clear ho
            go_wp2_with fail
            try any_goals (exfalso; omega)
            go_roundw
            case rel => exact ⟨k + 1, m, some am, c, by omega, by simp, rfl, HC, lhid (HGR.out.no HBP.out HK.out HMK.out HO.out), GB_7, MC_8, BE_9⟩
            case measure => simp [intOf]; omega
          · have HW := lhid hw
            have HF := lhid hf
            have HM' := lhid hM'
            have HC' := lhid hc'
            clear hw hf hM' hc'
            go_wp2_with fail
            try any_goals (exfalso; omega)
            go_roundw
            case rel => exact ⟨k + 1, m', A', c', by omega, by simp, rfl, HC', lhid (HGR.out.yes HBP.out HN.out.2 HK.out HMK.out HW.out HF.out), GB_7, HM', BE_9⟩
            case measure => simp [intOf]; omega
      have hne : n = k := by omega
      subst hne
      go_wp2_with fail
      try any_goals (exfalso; omega)
      go_ret
      exact ⟨BEr.out, m, A, c, rfl, HC.out, (HGR.out.great HN.out.2).1, (HGR.out.great HN.out.2).2, MCr.out⟩
end Go.Proofs.Ythfdjccdelbeeaa.PT
end
section
namespace Go.Proofs.Ythfdjccdelbeeaa.PT
open Go.RowKit Go.Proofs.YthfdjccdelbeeaaW.PrintWords Go.Proofs.YthfdjccdelbeeaaW.PrintLast Go.Proofs.YthfdjccdelbeeaaW.PrintMore Go.Proofs.Ythfdjccdelbeeaa.Gm
set_option linter.unusedVariables false
set_option linter.unusedSimpArgs false
def kE : Kd (Int × Int) := Kd.pair (Kd.int .i64) (Kd.int .i64)
def ced (es : List (Nat × Nat)) : List (Int × Int) := es.map (fun e => ((e.1 : Int), (e.2 : Int)))
theorem zero_gcs (n : Nat) : Try.zeroCells128.setIfInBounds 0 (.int .i64 (n : Int)) = gcs n (Ged []) := by kernel_rfl
theorem at_E {w : World} {A : Option Addr} {es : List (Nat × Nat)} {k a b : Nat} (h : Kd.C kE w A es.length (ced es)) (hk : es[k]? = some (a, b)) : ∃ ad, A = some ad ∧ w.cell? (ad.add (k * 2)) = some (.int .i64 (a : Int)) ∧ w.cell? ⟨(ad.add (k * 2)).block, (ad.add (k * 2)).off + 1, none⟩ = some (.int .i64 (b : Int)) := by
  have hlt : k < es.length := (List.getElem?_eq_some_iff.1 hk).1
  obtain ⟨ad, c, e, _, hK, hc0⟩ := Kd.C_get h ((0 : Int), (0 : Int)) (k : Int) (by omega) (by omega)
  have hc : ∀ j u, c[j]? = some u → w.cell? (ad.add (k * 2 + j)) = some u := hc0
  have hg : (ced es).getD (Int.toNat (k : Int)) ((0 : Int), (0 : Int)) = ((a : Int), (b : Int)) := by
    rw [Int.toNat_natCast, List.getD_eq_getElem?_getD]; unfold ced; rw [List.getElem?_map, hk]; rfl
  rw [hg] at hK
  obtain ⟨c1, c2, rfl, h1, h2⟩ := hK
  have q1 : c1 = [.int .i64 (a : Int)] := h1
  have q2 : c2 = [.int .i64 (b : Int)] := h2
  subst q1 q2
  exact ⟨ad, e, hc 0 _ rfl, by rw [← add_field _ _ 1 (by omega)]; exact hc 1 _ rfl⟩
theorem ged_next {es : List (Nat × Nat)} {k a b : Nat} (h : es[k]? = some (a, b)) : Ged (es.take (k + 1)) = put2 (put2 (Ged (es.take k)) a b true) b a true := by
  funext i j
  unfold put2 Ged
  rw [List.take_add_one, h, List.any_append]
  show ((es.take k).any _ || [(a, b)].any _) = _
  by_cases c1 : i = b ∧ j = a
  · rw [if_pos c1]; simp [c1.1, c1.2]
  · rw [if_neg c1]
    by_cases c2 : i = a ∧ j = b
    · rw [if_pos c2]; simp [c2.1, c2.2]
    · rw [if_neg c2, show [(a, b)].any (fun e => (e.1 == i && e.2 == j) || (e.1 == j && e.2 == i)) = false from ?_, Bool.or_false]
      simp only [List.any_cons, List.any_nil, Bool.or_false]
      simp only [Bool.or_eq_false_iff, Bool.and_eq_false_iff, beq_eq_false_iff_ne]
      omega
theorem eb_0 {w : World} {eb : Nat} {x y : Value} (h : w.heap[eb]? = some (.cells #[x, y] 105)) : w.cell? ⟨eb, 0, none⟩ = some x := (blk_cell h 0).trans rfl
theorem eb_1 {w : World} {eb : Nat} {x y : Value} (h : w.heap[eb]? = some (.cells #[x, y] 105)) : w.cell? ⟨eb, 1, none⟩ = some y := (blk_cell h 1).trans rfl
def ChP (n : Nat) (es : List (Nat × Nat)) (w : World) (e : Ending) (w' : World) : Prop := Below w.heap.size w w' ∧ e = .returned (.tuple #[.pointer (some ⟨w.heap.size, 0, none⟩), .int .i64 0]) ∧ w'.heap[w.heap.size]? = some (.cells (gcs n (Ged es)) 128)
set_option maxHeartbeats 12800000 in
set_option maxRecDepth 100000 in
theorem checked_c (w : World) (A : Option Addr) (c n : Nat) (es : List (Nat × Nat)) (hE : Kd.C kE w A es.length (ced es)) (hl : es.length ≤ 128) (hn24 : n ≤ 24) (hok : ∀ e ∈ es, e.1 < n ∧ e.2 < n ∧ e.1 ≠ e.2) : Calls Try.prog 64 #[.int .i64 (n : Int), .slice A es.length c] w (ChP n es w) := by
  have HE := lhid hE
  have HOK := lhid hok
  have n24 : (n : Int) ≤ 24 := by omega
  have n0 : (0 : Int) ≤ (n : Int) := by omega
  have l128 : (es.length : Int) ≤ 128 := by omega
  have HL := lhid hl
  have hu128 := Try.underlying128
  have hu126 := Try.underlying126
  have hu125 := Try.underlying125
  have hu105 := Try.underlying105
  have hu101 := Try.underlying101
  clear hE hok hl
  have HB0 := lhid (Below.refl w.heap.size w)
  go_enter Try.func64, Try.ntmps64
  go_upto_region 6 with (fail)
  try any_goals (exfalso; omega)
  rw [zero_gcs]
  obtain ⟨gb, hgb⟩ : ∃ x, x = w.heap.size := ⟨_, rfl⟩
  rw [← hgb]
  have HGB := lhid hgb.symm
  have HG := lhid (show (w.alloc (.cells (gcs n (Ged [])) 128)).heap[gb]? = some (.cells (gcs n (Ged [])) 128) by rw [hgb]; exact blk_new w _)
  have HB := lhid (below_alloc HB0.out (.cells (gcs n (Ged [])) 128))
  clear HB0 hgb
  generalize World.alloc w (.cells (gcs n (Ged [])) 128) = w1 at HG HB ⊢
  go_upto_region 7 with (fail)
  try any_goals (exfalso; omega)
  go_loopw [8, 23] (fun _ i wr => ∃ k : Nat, k ≤ es.length ∧ i = .int .i64 k ∧ Hid (wr.heap[gb]? = some (.cells (gcs n (Ged (es.take k))) 128)) ∧ Hid (Below w.heap.size w wr)) (fun _ i _ => es.length - (intOf i).toNat)
  case atStart => exact ⟨0, Nat.zero_le _, rfl, HG, HB⟩
  case round =>
    clear HG HB
    obtain ⟨k, hk, rfl, GBr, BEr⟩ := hrel
    by_cases hlt : k < es.length
    · have hki : (k : Int) < (es.length : Int) := by omega
      have hk0 : (0 : Int) ≤ (k : Int) := by omega
      obtain ⟨a, b, hab, han, hbn, hne⟩ : ∃ a b, es[k]? = some (a, b) ∧ a < n ∧ b < n ∧ a ≠ b := by
        obtain ⟨e1, h1⟩ : ∃ e, es[k]? = some e := ⟨_, List.getElem?_eq_getElem hlt⟩
        exact ⟨e1.1, e1.2, h1, HOK.out e1 (List.mem_of_getElem? h1)⟩
      have HAB := lhid hab
      have HAN := lhid (And.intro han (And.intro hbn hne))
      obtain ⟨ad, eA, y0, y1⟩ := at_E (Kd.C_below HE.out BEr.out) hab
      subst eA
      clear hab
      have a0 : (0 : Int) ≤ (a : Int) := by omega
      have b0 : (0 : Int) ≤ (b : Int) := by omega
      have an : (a : Int) < (n : Int) := by omega
      have bn : (b : Int) < (n : Int) := by omega
      have dab : ((a : Int) == (b : Int)) = false := beq_eq_false_iff_ne.2 (by omega)
      go_upto_region 9 with (fail)
      try any_goals (exfalso; omega)
      clear y0 y1
      obtain ⟨eb, heb⟩ : ∃ x, x = wr.heap.size := ⟨_, rfl⟩
      have hb := below_alloc (Below.refl wr.heap.size wr) (.cells #[.int .i64 (a : Int), .int .i64 (b : Int)] 105)
      have HEB := lhid (show (wr.alloc (.cells #[.int .i64 (a : Int), .int .i64 (b : Int)] 105)).heap[eb]? = some (.cells #[.int .i64 (a : Int), .int .i64 (b : Int)] 105) by rw [heb]; exact blk_new wr _)
      have HNE := lhid (show gb ≠ eb from fun e => by have h1 := blk_lt GBr.out; omega)
      rw [← heb]
      have GB_1 := lhid (blk_below GBr.out hb)
      have BE_2 := lhid (below_then BEr.out BEr.out.size hb)
      clear GBr BEr hb
      clear heb
      generalize World.alloc wr (.cells #[.int .i64 (a : Int), .int .i64 (b : Int)] 105) = w20 at HEB GB_1 BE_2 ⊢
      have e0 := eb_0 HEB.out
      have e1 := eb_1 HEB.out
      go_upto_region 11 with (fail)
      try any_goals (exfalso; omega)
      clear e0 e1 dab
      have hb := below_drew1 (Below.refl w20.heap.size w20)
      have GB_3 := lhid (blk_below GB_1.out hb)
      have BE_4 := lhid (below_then BE_2.out BE_2.out.size hb)
      have EB_5 := lhid (blk_below HEB.out hb)
      clear GB_1 BE_2 HEB hb
      have a24 : a < 24 := by have h1 := HAN.out; omega
      have b24 : b < 24 := by have h1 := HAN.out; omega
      have ai : (a : Int) < 24 := by omega
      have bi : (b : Int) < 24 := by omega
      refine start_ (n := 20) (S := fun w' => w'.cell? ⟨eb, 0, none⟩ = some (.int .i64 (a : Int)) ∧ w'.cell? ⟨eb, 1, none⟩ = some (.int .i64 (b : Int))) (ds := [19]) (lsq 20 0) (by kernel_rfl) rfl (by kernel_rfl) ⟨(eb_0 EB_5.out), (eb_1 EB_5.out)⟩ (fun hHeld => ?_)
      generalize w20.drew = w21 at GB_3 BE_4 EB_5 hHeld ⊢
      refine pure_ (i := 0) (N := some 54) (v := ?_) (a' := ?_) (lsq 20 1) rfl rfl (by as_aux_lemma => kernel_rfl) (fun _ _ _ h => h) (Or.inl ⟨by rfl, ?_⟩) ?_ ?_; rotate_left; (intro w'; go_simp; with_reducible rfl); rotate_left; (simp only [Act.put, List.setIfInBounds_toArray, List.set_cons_zero, List.set_cons_succ, i64_w, i32_w]; rfl)
      refine pure_ (i := 1) (N := some 55) (v := ?_) (a' := ?_) (lsq 20 3) rfl rfl (by as_aux_lemma => kernel_rfl) (fun _ _ _ h => h) (Or.inl ⟨by rfl, ?_⟩) ?_ ?_; rotate_left; (intro w'; go_simp; with_reducible rfl); rotate_left; (simp only [Act.put, List.setIfInBounds_toArray, List.set_cons_zero, List.set_cons_succ, i64_w, i32_w]; rfl)
      refine pure_ (i := 3) (N := some 57) (v := ?_) (a' := ?_) (lsq 20 11) rfl rfl (by as_aux_lemma => kernel_rfl) (fun _ _ _ h => h) (Or.inl ⟨by rfl, ?_⟩) ?_ ?_; rotate_left; (intro w'; go_simp; with_reducible rfl); rotate_left; (simp only [Act.put, List.setIfInBounds_toArray, List.set_cons_zero, List.set_cons_succ, i64_w, i32_w]; rfl)
      refine pure_ (i := 5) (N := some 59) (v := ?_) (a' := ?_) (lsq 20 43) rfl rfl (by as_aux_lemma => kernel_rfl) (fun _ _ _ h => h) (Or.inl ⟨by rfl, ?_⟩) ?_ ?_; rotate_left; (intro w'; go_simp; with_reducible rfl); rotate_left; (simp only [Act.put, List.setIfInBounds_toArray, List.set_cons_zero, List.set_cons_succ, i64_w, i32_w]; rfl)
      refine pure_ (i := 6) (N := some 60) (v := ?_) (a' := ?_) (lsq 20 107) rfl rfl (by as_aux_lemma => kernel_rfl) (fun _ _ _ h => h) (Or.inl ⟨by rfl, ?_⟩) ?_ ?_; rotate_left; (intro w'; go_simp; with_reducible rfl); rotate_left; (simp only [Act.put, List.setIfInBounds_toArray, List.set_cons_zero, List.set_cons_succ, i64_w, i32_w]; rfl)
      refine pure_ (i := 8) (N := some 62) (v := ?_) (a' := ?_) (lsq 20 363) rfl rfl (by as_aux_lemma => kernel_rfl) (fun _ _ _ h => h) (Or.inl ⟨by rfl, ?_⟩) ?_ ?_; rotate_left; (intro w'; go_simp; with_reducible rfl); rotate_left; (simp only [Act.put, List.setIfInBounds_toArray, List.set_cons_zero, List.set_cons_succ, i64_w, i32_w]; rfl)
      refine pure_ (i := 10) (N := some 64) (v := ?_) (a' := ?_) (lsq 20 1387) rfl rfl (by as_aux_lemma => kernel_rfl) (fun _ _ _ h => h) (Or.inl ⟨by rfl, ?_⟩) ?_ ?_; rotate_left; (intro w'; go_simp; with_reducible rfl); rotate_left; (simp only [Act.put, List.setIfInBounds_toArray, List.set_cons_zero, List.set_cons_succ, i64_w, i32_w]; rfl)
      refine pure_ (i := 11) (N := some 65) (v := ?_) (a' := ?_) (lsq 20 3435) rfl rfl (by as_aux_lemma => kernel_rfl) (fun _ _ _ h => h) (Or.inl ⟨by rfl, ?_⟩) ?_ ?_; rotate_left; (intro w'; go_simp; with_reducible rfl); rotate_left; (simp only [Act.put, List.setIfInBounds_toArray, List.set_cons_zero, List.set_cons_succ, i64_w, i32_w]; rfl)
      refine pure_ (i := 15) (N := some 68) (v := ?_) (a' := ?_) (lsq 20 36203) rfl rfl (by as_aux_lemma => kernel_rfl) (fun _ _ _ h => h) (Or.inl ⟨by rfl, ?_⟩) ?_ ?_; rotate_left; (intro w'; go_simp; with_reducible rfl); rotate_left; (simp only [Act.put, List.setIfInBounds_toArray, List.set_cons_zero, List.set_cons_succ, i64_w, i32_w]; rfl)
      refine pure_ (i := 16) (N := some 69) (v := ?_) (a' := ?_) (lsq 20 101739) rfl rfl (by as_aux_lemma => kernel_rfl) (fun _ _ _ h => h) (Or.inl ⟨by rfl, ?_⟩) ?_ ?_; rotate_left; (intro w'; go_simp; with_reducible rfl); rotate_left; (simp only [Act.put, List.setIfInBounds_toArray, List.set_cons_zero, List.set_cons_succ, i64_w, i32_w]; rfl)
      refine take_ (i := 2) (N := some 56) (v := ?_) (a' := ?_) (lsq 20 101743) rfl rfl (by as_aux_lemma => kernel_rfl) (fun _ _ _ h => h) (Or.inl ⟨by rfl, ?_⟩) hHeld ?_ ?_; rotate_left; (rintro w' ⟨s0, s1⟩; go_simp; with_reducible rfl); rotate_left; (simp only [Act.put, List.setIfInBounds_toArray, List.set_cons_zero, List.set_cons_succ, i64_w, i32_w]; rfl)
      refine pure_ (i := 12) (N := some 66) (v := ?_) (a' := ?_) (lsq 20 105839) rfl rfl (by as_aux_lemma => kernel_rfl) (fun _ _ _ h => h) (Or.inl ⟨by rfl, ?_⟩) ?_ ?_; rotate_left; (intro w'; go_simp; with_reducible rfl); rotate_left; (simp only [Act.put, List.setIfInBounds_toArray, List.set_cons_zero, List.set_cons_succ, i64_w, i32_w]; rfl)
      refine take_ (i := 4) (N := some 58) (v := ?_) (a' := ?_) (lsq 20 105855) rfl rfl (by as_aux_lemma => kernel_rfl) (fun _ _ _ h => h) (Or.inl ⟨by rfl, ?_⟩) hHeld ?_ ?_; rotate_left; (rintro w' ⟨s0, s1⟩; go_simp; with_reducible rfl); rotate_left; (simp only [Act.put, List.setIfInBounds_toArray, List.set_cons_zero, List.set_cons_succ, i64_w, i32_w]; rfl)
      refine pure_ (i := 13) (N := some 67) (v := ?_) (a' := ?_) (lsq 20 114047) rfl rfl (by as_aux_lemma => kernel_rfl) (fun _ _ _ h => h) (Or.inl ⟨by rfl, ?_⟩) ?_ ?_; rotate_left; (intro w'; go_simp; with_reducible rfl); rotate_left; (simp only [Act.put, List.setIfInBounds_toArray, List.set_cons_zero, List.set_cons_succ, i64_w, i32_w]; rfl)
      refine take_ (i := 7) (N := some 61) (v := ?_) (a' := ?_) (lsq 20 114175) rfl rfl (by as_aux_lemma => kernel_rfl) (fun _ _ _ h => h) (Or.inl ⟨by rfl, ?_⟩) hHeld ?_ ?_; rotate_left; (rintro w' ⟨s0, s1⟩; go_simp; with_reducible rfl); rotate_left; (simp only [Act.put, List.setIfInBounds_toArray, List.set_cons_zero, List.set_cons_succ, i64_w, i32_w]; rfl)
      refine pure_ (i := 17) (N := some 70) (v := ?_) (a' := ?_) (lsq 20 245247) rfl rfl (by as_aux_lemma => kernel_rfl) (fun _ _ _ h => h) (Or.inl ⟨by rfl, ?_⟩) ?_ ?_; rotate_left; (intro w'; go_simp; with_reducible rfl); rotate_left; (simp only [Act.put, List.setIfInBounds_toArray, List.set_cons_zero, List.set_cons_succ, i64_w, i32_w]; rfl)
      refine take_ (i := 9) (N := some 63) (v := ?_) (a' := ?_) (lsq 20 245759) rfl rfl (by as_aux_lemma => kernel_rfl) (fun _ _ _ h => h) (Or.inl ⟨by rfl, ?_⟩) hHeld ?_ ?_; rotate_left; (rintro w' ⟨s0, s1⟩; go_simp; with_reducible rfl); rotate_left; (simp only [Act.put, List.setIfInBounds_toArray, List.set_cons_zero, List.set_cons_succ, i64_w, i32_w]; rfl)
      refine one_ (i := 14) (N := none) (lsq 20 262143) rfl rfl (by kernel_rfl) (by decide) (fun K hK => ?_)
      have dc := (blk_cell GB_3.out (1 + a * 24 + b)).trans (gcs_get n (Ged (es.take k)) (show a < 24 by omega) (show b < 24 by omega))
      have df := blk_frozen GB_3.out (1 + a * 24 + b)
      refine skip_ (w1 := ?_) (by rfl) rfl ?_ ?_
      rotate_left
      · go_simp
        rfl
      clear dc df
      have GBa := lhid (show (World.setCell w21 ⟨gb, 1 + a * 24 + b, none⟩ (.bool true)).heap[gb]? = some (.cells (gcs n (put2 (Ged (es.take k)) a b true)) 128) from by have h1 := blk_set GB_3.out (1 + a * 24 + b) (.bool true); rwa [gcs_set n _ (show a < 24 by omega) (show b < 24 by omega)] at h1)
      have EBa := lhid (blk_far EB_5.out (p := ⟨gb, 1 + a * 24 + b, none⟩) (fun e => HNE.out e.symm) (.bool true))
      have BEa := lhid (BE_4.out.setCell (p := ⟨gb, 1 + a * 24 + b, none⟩) (Nat.le_of_eq HGB.out) (.bool true))
      clear GB_3 BE_4 EB_5
      generalize World.setCell w21 ⟨gb, 1 + a * 24 + b, none⟩ (.bool true) = wga at GBa BEa EBa ⊢
      refine hK.out _ _ ⟨(eb_0 EBa.out), (eb_1 EBa.out)⟩ (fun hHeld => ?_)
      clear hK K
      refine pure_ (i := 18) (N := some 71) (v := ?_) (a' := ?_) (lsq 20 524287) rfl rfl (by as_aux_lemma => kernel_rfl) (fun _ _ _ h => h) (Or.inl ⟨by rfl, ?_⟩) ?_ ?_; rotate_left; (intro w'; go_simp; with_reducible rfl); rotate_left; (simp only [Act.put, List.setIfInBounds_toArray, List.set_cons_zero, List.set_cons_succ, i64_w, i32_w]; rfl)
      refine last_ (i := 19) (N := none) (lsq 20 1048575) rfl rfl (by kernel_rfl) (by decide) (fun K hK => ?_)
      have dc := (blk_cell GBa.out (1 + b * 24 + a)).trans (gcs_get n ((put2 (Ged (es.take k)) a b true)) (show b < 24 by omega) (show a < 24 by omega))
      have df := blk_frozen GBa.out (1 + b * 24 + a)
      refine skip_ (w1 := ?_) (by rfl) rfl ?_ ?_
      rotate_left
      · go_simp
        rfl
      clear dc df
      have GBb := lhid (show (World.setCell wga ⟨gb, 1 + b * 24 + a, none⟩ (.bool true)).heap[gb]? = some (.cells (gcs n (put2 ((put2 (Ged (es.take k)) a b true)) b a true)) 128) from by have h1 := blk_set GBa.out (1 + b * 24 + a) (.bool true); rwa [gcs_set n _ (show b < 24 by omega) (show a < 24 by omega)] at h1)
      have EBb := lhid (blk_far EBa.out (p := ⟨gb, 1 + b * 24 + a, none⟩) (fun e => HNE.out e.symm) (.bool true))
      have BEb := lhid (BEa.out.setCell (p := ⟨gb, 1 + b * 24 + a, none⟩) (Nat.le_of_eq HGB.out) (.bool true))
      clear GBa BEa EBa
      generalize World.setCell wga ⟨gb, 1 + b * 24 + a, none⟩ (.bool true) = wgb at GBb BEb EBb ⊢
      refine hK.out _ _ ?_
      clear hK K
      refine done_ (by kernel_rfl) ?_
      
      have GBz := lhid (show wgb.heap[gb]? = some (.cells (gcs n (Ged (es.take (k + 1)))) 128) by rw [ged_next HAB.out]; exact GBb.out)
      go_wp2_with fail
      try any_goals (exfalso; omega)
      go_roundw
      case rel => exact ⟨k + 1, by omega, by simp, GBz, BEb⟩
      case measure => simp [intOf]; omega
    have hne : es.length = k := by omega
    subst hne
    rw [List.take_length] at GBr
    go_wp2_with fail
    try any_goals (exfalso; omega)
    go_ret2
    have hz := HGB.out
    subst hz
    exact ⟨BEr.out, rfl, GBr.out⟩
end Go.Proofs.Ythfdjccdelbeeaa.PT
end
section
namespace Go.Proofs.Ythfdjccdelbeeaa.PT
open Go.RowKit Go.Proofs.YthfdjccdelbeeaaW.PrintWords Go.Proofs.YthfdjccdelbeeaaW.PrintLast Go.Proofs.YthfdjccdelbeeaaW.PrintMore Go.Proofs.Ythfdjccdelbeeaa.Gm
set_option linter.unusedVariables false
set_option linter.unusedSimpArgs false
theorem storeNew {P : Program} {ops : Array Oper} {rest : List Oper} {op : Oper} {a : Act} {w : World} {Q : Exit → Act → World → Prop} (hgd : op.guard = none) (ty : TypeId) (x y : Operand) (ho : op.op = .store ty x y) (W : World) (c c' : Array Value)
    (hw : w = W.alloc (.cells c ty)) (hx : a.eval x = .pointer (some ⟨W.heap.size, 0, none⟩)) (hy : a.eval y = .agg c') (hi : (P.info? ty).map (·.size) = some c'.size) (hs : c.size = c'.size) (h1 : c'.all (·.oneCell') = true)
    (h : wpList P ops Q rest (a.put op.dst undef) (W.alloc (.cells c' ty))) : wpList P ops Q (op :: rest) a w := by
  subst hw
  refine wpList_plain hgd fun K hK => ?_
  unfold Oper.wp execOp
  simp only [ho, hx, hy, Instr.storeAt, Instr.sureAddr, Sem.run_bind, Sem.run_pure, Result.andThen_ok, run_storeVar_new W ty c c' hi hs h1]
  exact hK _ _ h
theorem infoG : (Try.prog.info? 128).map (·.size) = some 577 := by kernel_rfl
theorem gcs_one (n : Nat) (G : Nat → Nat → Bool) : (gcs n G).all (·.oneCell') = true := all_oneCell_toArray (fun v hv => by
  rcases List.mem_cons.1 hv with q | q
  · rw [q]; rfl
  · obtain ⟨_, _, q⟩ := List.mem_map.1 q
    rw [← q]; rfl)
theorem gcs_rng {w : World} {gb n : Nat} {G : Nat → Nat → Bool} (h : w.heap[gb]? = some (.cells (gcs n G) 128)) : w.rangeAt gb 0 (gcs n G).toList := fun j v hv => by
  rw [Nat.zero_add, blk_cell h j, ← Array.getElem?_toList]; exact hv
theorem qi_at {w : World} {A : Option Addr} {st : List Nat} {k x : Nat} (hM : Kd.C (Kd.int .i64) w A st.length (qi st)) (h : st[k]? = some x) : ∃ ad, A = some ad ∧ w.cell? (ad.add k) = some (.int .i64 (x : Int)) := by
  have hlt : k < st.length := (List.getElem?_eq_some_iff.1 h).1
  obtain ⟨ad, eA, y⟩ := Kd.at_int hM (k : Int) (by omega) (by omega)
  have e : rd (qi st) (k : Int) = (x : Int) := by unfold rd qi; rw [Int.toNat_natCast, List.getD_eq_getElem?_getD, List.getElem?_map, h]; rfl
  rw [e, Int.toNat_natCast] at y
  exact ⟨ad, eA, y⟩
theorem bip_drop {n s : Nat} {G : Nat → Nat → Bool} (h : Bip n s G) (a b : Nat) : Bip n s (put2 (put2 G a b false) b a false) := by
  have key : ∀ u v, put2 (put2 G a b false) b a false u v = true → G u v = true ∧ ¬ (u = b ∧ v = a) ∧ ¬ (u = a ∧ v = b) := fun u v q => by
    unfold put2 at q
    by_cases c1 : u = b ∧ v = a
    · rw [if_pos c1] at q; cases q
    · rw [if_neg c1] at q
      by_cases c2 : u = a ∧ v = b
      · rw [if_pos c2] at q; cases q
      · rw [if_neg c2] at q; exact ⟨q, c1, c2⟩
  refine ⟨fun u v q => ?_, fun u v q => h.lt u v (key u v q).1, fun u v q => h.side u v (key u v q).1⟩
  obtain ⟨q1, q2, q3⟩ := key u v q
  unfold put2
  rw [if_neg (fun e => q3 ⟨e.2, e.1⟩), if_neg (fun e => q2 ⟨e.2, e.1⟩)]
  exact h.sym u v q1
def WoP (n s : Nat) (w : World) (e : Ending) (w' : World) : Prop := Below w.heap.size w w' ∧ ∃ (gb : Nat) (G : Nat → Nat → Bool), e = .returned (.pointer (some ⟨gb, 0, none⟩)) ∧ w'.heap[gb]? = some (.cells (gcs n G) 128) ∧ Bip n s G
set_option maxHeartbeats 12800000 in
set_option maxRecDepth 100000 in
theorem without_c (w : World) (gb n s : Nat) (G : Nat → Nat → Bool) (A : Option Addr) (c : Nat) (st : List Nat) (hG : w.heap[gb]? = some (.cells (gcs n G) 128)) (hbp : Bip n s G) (hS : Kd.C (Kd.int .i64) w A st.length (qi st)) (hl : st.length ≤ 24) (hn24 : n ≤ 24) (hst : ∀ x ∈ st, x < n) : Calls Try.prog 67 #[.pointer (some ⟨gb, 0, none⟩), .slice A st.length c] w (WoP n s w) := by
  have HG := lhid hG
  have HBP := lhid hbp
  have HS := lhid hS
  have HST := lhid hst
  have n24 : (n : Int) ≤ 24 := by omega
  have n0 : (0 : Int) ≤ (n : Int) := by omega
  have l2 : (st.length : Int) ≤ 24 := by omega
  have HL := lhid hl
  have HN := lhid hn24
  have hu128 := Try.underlying128
  have hu126 := Try.underlying126
  have hu125 := Try.underlying125
  have hu26 := Try.underlying26
  clear hG hbp hS hst hl
  go_enter Try.func67, Try.ntmps67
  go_upto_region 2 with (first | ((with_reducible refine gate_dst (N := 11) rfl ?_); refine wpList_load_mid rfl 128 (.tmp 10) rfl gb 0 rfl (gcs n G).toList _ (gcs_rng HG.out) Try.underlying128 rfl (by rw [infoG, Array.length_toList, gcs_size]) ?_; simp only [Array.toArray_toList]) | ((with_reducible refine gate_store (t := 128) (p := 5) (v := .tmp 11) rfl ?_); refine storeNew rfl 128 (.tmp 5) (.tmp 11) rfl w _ (gcs n G) rfl rfl rfl (by rw [infoG, gcs_size]) (by rw [gcs_size]; exact Try.zeroCells128_size) (gcs_one n G) ?_))
  try any_goals (exfalso; omega)
  obtain ⟨ob, hob⟩ : ∃ x, x = w.heap.size := ⟨_, rfl⟩
  have HO := lhid (show (w.alloc (.cells (gcs n G) 128)).heap[ob]? = some (.cells (gcs n G) 128) by rw [hob]; exact blk_new w _)
  have HB := lhid (below_alloc (Below.refl w.heap.size w) (.cells (gcs n G) 128))
  have HGB := lhid hob.symm
  have HNE := lhid (show gb ≠ ob from fun e => by have h1 := blk_lt HG.out; omega)
  rw [← hob]
  clear hob
  generalize World.alloc w (.cells (gcs n G) 128) = w1 at HO HB ⊢
  go_upto_region 3 with (fail)
  try any_goals (exfalso; omega)
  go_loopw [7, 8, 14, 18, 19, 20, 21, 22] (fun _ _ i _ _ _ _ _ wr => ∃ k : Nat, k ≤ st.length ∧ i = .int .i64 k ∧ ∃ G' : Nat → Nat → Bool, Hid (Bip n s G') ∧ Hid (wr.heap[ob]? = some (.cells (gcs n G') 128)) ∧ Hid (Below w.heap.size w wr)) (fun _ _ i _ _ _ _ _ _ => st.length - (intOf i).toNat)
  case atStart => exact ⟨0, Nat.zero_le _, rfl, G, HBP, HO, HB⟩
  case round =>
    clear HO HB HBP
    obtain ⟨k, hk, rfl, G', HBP, OBr, BEr⟩ := hrel
    by_cases hlt : k < st.length
    · have hki : (k : Int) < (st.length : Int) := by omega
      have hk0 : (0 : Int) ≤ (k : Int) := by omega
      obtain ⟨x, hx⟩ : ∃ x, st[k]? = some x := ⟨_, List.getElem?_eq_getElem hlt⟩
      have HX := lhid (HST.out x (List.mem_of_getElem? hx))
      obtain ⟨ad, eA, y⟩ := qi_at (Kd.C_below HS.out BEr.out) hx
      subst eA
      clear hx
      have g0 := (blk_cell (blk_below HG.out BEr.out) 0).trans (gcs_n n G)
      go_upto_region 6 with (fail)
      try any_goals (exfalso; omega)
      clear y g0
      go_loopw [8, 22] (fun _ i wr => ∃ j : Nat, j ≤ n ∧ i = .int .i64 j ∧ ∃ G' : Nat → Nat → Bool, Hid (Bip n s G') ∧ Hid (wr.heap[ob]? = some (.cells (gcs n G') 128)) ∧ Hid (Below w.heap.size w wr)) (fun _ i _ => n - (intOf i).toNat)
      case atStart => exact ⟨0, Nat.zero_le _, rfl, G', HBP, OBr, BEr⟩
      case round =>
        clear HBP OBr BEr
        obtain ⟨j, hj, rfl, G', HBP, OBr, BEr⟩ := hrel
        by_cases hlj : j < n
        · have hji : (j : Int) < (n : Int) := by omega
          have hj0 : (0 : Int) ≤ (j : Int) := by omega
          have hj24 : (j : Int) < 24 := by omega
          have hx24 : (x : Int) < 24 := by have h1 := HX.out; omega
          have hx0 : (0 : Int) ≤ (x : Int) := by omega
          have x24 : x < 24 := by omega
          have j24 : j < 24 := by omega
          go_upto_region 8 with (fail)
          try any_goals (exfalso; omega)
          have hb := below_drew1 (Below.refl wr.heap.size wr)
          have GB_1 := lhid (blk_below OBr.out hb)
          have BE_2 := lhid (below_then BEr.out BEr.out.size hb)
          clear OBr BEr hb
          refine start_ (n := 12) (S := fun w' => True) (ds := [7, 11]) (lsq 12 0) (by kernel_rfl) rfl rfl trivial (fun hHeld => ?_)
          generalize wr.drew = w11 at GB_1 BE_2 hHeld ⊢
          refine pure_ (i := 0) (N := some 25) (v := ?_) (a' := ?_) (lsq 12 1) rfl rfl (by as_aux_lemma => kernel_rfl) (fun _ _ _ h => h) (Or.inl ⟨by rfl, ?_⟩) ?_ ?_; rotate_left; (intro w'; go_simp; with_reducible rfl); rotate_left; (simp only [Act.put, List.setIfInBounds_toArray, List.set_cons_zero, List.set_cons_succ, i64_w, i32_w]; rfl)
          refine pure_ (i := 1) (N := some 26) (v := ?_) (a' := ?_) (lsq 12 3) rfl rfl (by as_aux_lemma => kernel_rfl) (fun _ _ _ h => h) (Or.inl ⟨by rfl, ?_⟩) ?_ ?_; rotate_left; (intro w'; go_simp; with_reducible rfl); rotate_left; (simp only [Act.put, List.setIfInBounds_toArray, List.set_cons_zero, List.set_cons_succ, i64_w, i32_w]; rfl)
          refine pure_ (i := 2) (N := some 27) (v := ?_) (a' := ?_) (lsq 12 7) rfl rfl (by as_aux_lemma => kernel_rfl) (fun _ _ _ h => h) (Or.inl ⟨by rfl, ?_⟩) ?_ ?_; rotate_left; (intro w'; go_simp; with_reducible rfl); rotate_left; (simp only [Act.put, List.setIfInBounds_toArray, List.set_cons_zero, List.set_cons_succ, i64_w, i32_w]; rfl)
          refine pure_ (i := 3) (N := some 28) (v := ?_) (a' := ?_) (lsq 12 15) rfl rfl (by as_aux_lemma => kernel_rfl) (fun _ _ _ h => h) (Or.inl ⟨by rfl, ?_⟩) ?_ ?_; rotate_left; (intro w'; go_simp; with_reducible rfl); rotate_left; (simp only [Act.put, List.setIfInBounds_toArray, List.set_cons_zero, List.set_cons_succ, i64_w, i32_w]; rfl)
          refine pure_ (i := 4) (N := some 29) (v := ?_) (a' := ?_) (lsq 12 31) rfl rfl (by as_aux_lemma => kernel_rfl) (fun _ _ _ h => h) (Or.inl ⟨by rfl, ?_⟩) ?_ ?_; rotate_left; (intro w'; go_simp; with_reducible rfl); rotate_left; (simp only [Act.put, List.setIfInBounds_toArray, List.set_cons_zero, List.set_cons_succ, i64_w, i32_w]; rfl)
          refine pure_ (i := 5) (N := some 30) (v := ?_) (a' := ?_) (lsq 12 63) rfl rfl (by as_aux_lemma => kernel_rfl) (fun _ _ _ h => h) (Or.inl ⟨by rfl, ?_⟩) ?_ ?_; rotate_left; (intro w'; go_simp; with_reducible rfl); rotate_left; (simp only [Act.put, List.setIfInBounds_toArray, List.set_cons_zero, List.set_cons_succ, i64_w, i32_w]; rfl)
          refine pure_ (i := 6) (N := some 31) (v := ?_) (a' := ?_) (lsq 12 127) rfl rfl (by as_aux_lemma => kernel_rfl) (fun _ _ _ h => h) (Or.inl ⟨by rfl, ?_⟩) ?_ ?_; rotate_left; (intro w'; go_simp; with_reducible rfl); rotate_left; (simp only [Act.put, List.setIfInBounds_toArray, List.set_cons_zero, List.set_cons_succ, i64_w, i32_w]; rfl)
          refine pure_ (i := 8) (N := some 32) (v := ?_) (a' := ?_) (lsq 12 383) rfl rfl (by as_aux_lemma => kernel_rfl) (fun _ _ _ h => h) (Or.inl ⟨by rfl, ?_⟩) ?_ ?_; rotate_left; (intro w'; go_simp; with_reducible rfl); rotate_left; (simp only [Act.put, List.setIfInBounds_toArray, List.set_cons_zero, List.set_cons_succ, i64_w, i32_w]; rfl)
          refine pure_ (i := 9) (N := some 33) (v := ?_) (a' := ?_) (lsq 12 895) rfl rfl (by as_aux_lemma => kernel_rfl) (fun _ _ _ h => h) (Or.inl ⟨by rfl, ?_⟩) ?_ ?_; rotate_left; (intro w'; go_simp; with_reducible rfl); rotate_left; (simp only [Act.put, List.setIfInBounds_toArray, List.set_cons_zero, List.set_cons_succ, i64_w, i32_w]; rfl)
          refine last_ (i := 7) (N := none) (lsq 12 1023) rfl rfl (by kernel_rfl) (by decide) (fun K hK => ?_)
          have dc := (blk_cell GB_1.out (1 + x * 24 + j)).trans (gcs_get n G' (show x < 24 by omega) (show j < 24 by omega))
          have df := blk_frozen GB_1.out (1 + x * 24 + j)
          refine skip_ (w1 := ?_) (by rfl) rfl ?_ ?_
          rotate_left
          · go_simp
            rfl
          clear dc df
          have GBa := lhid (show (World.setCell w11 ⟨ob, 1 + x * 24 + j, none⟩ (.bool false)).heap[ob]? = some (.cells (gcs n (put2 G' x j false)) 128) from by have h1 := blk_set GB_1.out (1 + x * 24 + j) (.bool false); rwa [gcs_set n _ (show x < 24 by omega) (show j < 24 by omega)] at h1)
          have BEa := lhid (BE_2.out.setCell (p := ⟨ob, 1 + x * 24 + j, none⟩) (Nat.le_of_eq HGB.out) (.bool false))
          clear GB_1 BE_2
          generalize World.setCell w11 ⟨ob, 1 + x * 24 + j, none⟩ (.bool false) = wga at GBa BEa ⊢
          refine hK.out _ _ ?_
          clear hK K
          refine pure_ (i := 10) (N := some 34) (v := ?_) (a' := ?_) (lsq 12 2047) rfl rfl (by as_aux_lemma => kernel_rfl) (fun _ _ _ h => h) (Or.inl ⟨by rfl, ?_⟩) ?_ ?_; rotate_left; (intro w'; go_simp; with_reducible rfl); rotate_left; (simp only [Act.put, List.setIfInBounds_toArray, List.set_cons_zero, List.set_cons_succ, i64_w, i32_w]; rfl)
          refine last_ (i := 11) (N := none) (lsq 12 4095) rfl rfl (by kernel_rfl) (by decide) (fun K hK => ?_)
          have dc := (blk_cell GBa.out (1 + j * 24 + x)).trans (gcs_get n (put2 G' x j false) (show j < 24 by omega) (show x < 24 by omega))
          have df := blk_frozen GBa.out (1 + j * 24 + x)
          refine skip_ (w1 := ?_) (by rfl) rfl ?_ ?_
          rotate_left
          · go_simp
            rfl
          clear dc df
          have GBb := lhid (show (World.setCell wga ⟨ob, 1 + j * 24 + x, none⟩ (.bool false)).heap[ob]? = some (.cells (gcs n (put2 (put2 G' x j false) j x false)) 128) from by have h1 := blk_set GBa.out (1 + j * 24 + x) (.bool false); rwa [gcs_set n _ (show j < 24 by omega) (show x < 24 by omega)] at h1)
          have BEb := lhid (BEa.out.setCell (p := ⟨ob, 1 + j * 24 + x, none⟩) (Nat.le_of_eq HGB.out) (.bool false))
          clear GBa BEa
          generalize World.setCell wga ⟨ob, 1 + j * 24 + x, none⟩ (.bool false) = wgb at GBb BEb ⊢
          refine hK.out _ _ ?_
          clear hK K
          refine done_ (by kernel_rfl) ?_
          
          go_wp2_with fail
          try any_goals (exfalso; omega)
          go_roundw
          case rel => exact ⟨j + 1, by omega, by simp, _, lhid (bip_drop HBP.out x j), GBb, BEb⟩
          case measure => simp [intOf]; omega
        have hne : n = j := by omega
        clear hlj hj
        go_wp2_with fail
        try any_goals (exfalso; omega)
        go_roundw
        case rel => exact ⟨k + 1, by omega, by simp, G', HBP, OBr, BEr⟩
        case measure => simp [intOf]; omega
    have hne : st.length = k := by omega
    clear hlt hk
    go_wp2_with fail
    try any_goals (exfalso; omega)
    go_ret
    exact ⟨BEr.out, ob, G', rfl, OBr.out, HBP.out⟩
end Go.Proofs.Ythfdjccdelbeeaa.PT
end
