/-
  Every grant is within the one above it.
-/
import Derived.Test.YtfnlghjkjmppdaaCLb
namespace Go.Proofs.Ytfnlghjkjmppdaa.PC
open Go.RowKit Go.Proofs.YtfnlghjkjmppdaaW.PrintWords Go.Proofs.YtfnlghjkjmppdaaW.PrintLast Go.Proofs.YtfnlghjkjmppdaaW.PrintMore
set_option linter.unusedVariables false
set_option linter.unusedSimpArgs false
theorem and_n (a b : Nat) (ha : a < 9223372036854775808) (hb : b < 9223372036854775808) : bits .and .i64 (a : Int) (b : Int) = ((a &&& b : Nat) : Int) := by
  have hx : a &&& b < 2 ^ 63 := Nat.and_lt_two_pow _ (by omega)
  show IntKind.i64.wrap ((BitVec.ofInt 64 (a : Int) &&& BitVec.ofInt 64 (b : Int)).toNat : Int) = _
  rw [BitVec.toNat_and, ofInt_u64 a (by omega), ofInt_u64 b (by omega), IntKind.wrap_i64]
  omega
theorem or_n (a b : Nat) (ha : a < 9223372036854775808) (hb : b < 9223372036854775808) : bits .or .i64 (a : Int) (b : Int) = ((a ||| b : Nat) : Int) := by
  have hx : a ||| b < 2 ^ 63 := Nat.or_lt_two_pow (by omega) (by omega)
  show IntKind.i64.wrap ((BitVec.ofInt 64 (a : Int) ||| BitVec.ofInt 64 (b : Int)).toNat : Int) = _
  rw [BitVec.toNat_or, ofInt_u64 a (by omega), ofInt_u64 b (by omega), IntKind.wrap_i64]
  omega
theorem andNot_n (a b : Nat) (ha : a < 9223372036854775808) (hb : b < 9223372036854775808) : bits .andNot .i64 (a : Int) (b : Int) = ((a &&& (18446744073709551615 - b) : Nat) : Int) := by
  have hx : a &&& (18446744073709551615 - b) < 2 ^ 63 := by rw [Nat.and_comm]; exact Nat.and_lt_two_pow _ (by omega)
  show IntKind.i64.wrap ((BitVec.ofInt 64 (a : Int) &&& ~~~BitVec.ofInt 64 (b : Int)).toNat : Int) = _
  rw [BitVec.toNat_and, BitVec.toNat_not, ofInt_u64 a (by omega), ofInt_u64 b (by omega), IntKind.wrap_i64]
  have e : 2 ^ 64 - 1 - b = 18446744073709551615 - b := by omega
  rw [e]
  omega
theorem and_i {a b : Int} (h0 : 0 ≤ a) (h1 : a < 65536) (h2 : 0 ≤ b) (h3 : b < 65536) : bits .and .i64 a b = ((a.toNat &&& b.toNat : Nat) : Int) := by
  obtain ⟨A, rfl⟩ := Int.eq_ofNat_of_zero_le h0
  obtain ⟨B, rfl⟩ := Int.eq_ofNat_of_zero_le h2
  simpa using and_n A B (by omega) (by omega)
theorem or_i {a b : Int} (h0 : 0 ≤ a) (h1 : a < 65536) (h2 : 0 ≤ b) (h3 : b < 65536) : bits .or .i64 a b = ((a.toNat ||| b.toNat : Nat) : Int) := by
  obtain ⟨A, rfl⟩ := Int.eq_ofNat_of_zero_le h0
  obtain ⟨B, rfl⟩ := Int.eq_ofNat_of_zero_le h2
  simpa using or_n A B (by omega) (by omega)
theorem andNot_bit (a b i : Nat) (ha : a < 18446744073709551616) (hb : b < 18446744073709551616) : (a &&& (18446744073709551615 - b)).testBit i = (a.testBit i && !b.testBit i) := by
  rw [Nat.testBit_and]
  by_cases c : i < 64
  · rw [show 18446744073709551615 - b = 2 ^ 64 - (b + 1) by omega, Nat.testBit_two_pow_sub_succ (by omega)]
    simp [c]
  · rw [Nat.testBit_lt_two_pow (Nat.lt_of_lt_of_le (show a < 2 ^ 64 by omega) (Nat.pow_le_pow_right (by omega) (by omega)))]; rfl
/-- What leaves nothing outside is within. -/
theorem within {a b : Int} (h0 : 0 ≤ a) (h1 : a < 65536) (h2 : 0 ≤ b) (h3 : b < 65536) (h : bits .andNot .i64 a b = 0) : bits .and .i64 a b = a := by
  obtain ⟨A, rfl⟩ := Int.eq_ofNat_of_zero_le h0
  obtain ⟨B, rfl⟩ := Int.eq_ofNat_of_zero_le h2
  rw [andNot_n A B (by omega) (by omega)] at h
  rw [and_n A B (by omega) (by omega)]
  have hz : A &&& (18446744073709551615 - B) = 0 := by omega
  congr 1
  apply Nat.eq_of_testBit_eq
  intro i
  have := congrArg (fun x => x.testBit i) hz
  simp only [andNot_bit A B i (by omega) (by omega), Nat.zero_testBit] at this
  rw [Nat.testBit_and]
  cases ha : A.testBit i <;> cases hb : B.testBit i <;> simp_all
theorem wf_u8 {n : Int} (h : (Lit.int .u8 n).wf = true) : 0 ≤ n ∧ n < 256 := by
  have : 0 ≤ n ∧ n ≤ 255 := by simpa [Lit.wf, IntKind.min, IntKind.max, IntKind.signed, IntKind.bits] using h
  omega
theorem gr_getD (G : List S39) (i : Nat) : gr G (i + 1) = G.getD i z39 := by
  unfold gr rd_T39
  rw [show (((i + 1 : Nat) : Int) - 1).toNat = i by omega]
/-- A grant within the one above it. -/
def In1 (x u : S39) : Prop := x.f2 = u.f2 ∧ bits .and .i64 x.f4 u.f4 = x.f4 ∧ bits .and .i64 x.f5 u.f5 = x.f5 ∧ x.f6 ≤ u.f6 ∧ bits .and .i64 u.f5 2 ≠ 0 ∧ (0 ≤ u.f7 → 0 ≤ x.f7)
def Nar (G : List S39) : Prop := Inv G ∧ ∀ n, 1 ≤ n → n ≤ G.length → ((gr G n).f1 = 0 → (gr G n).f2 = n) ∧ ((gr G n).f1 ≠ 0 → In1 (gr G n) (gr G (gr G n).f1.toNat))
theorem nil_nar : Nar [] := ⟨nil_inv, fun n h1 h2 => by simp at h2; omega⟩
theorem nar_app {G : List S39} (h : Nar G) (x : S39) (hI : Inv (G ++ [x])) (h1 : 0 ≤ x.f1) (h2 : x.f1 ≤ G.length) (hr : x.f1 = 0 → x.f2 = (G.length : Int) + 1) (hi : x.f1 ≠ 0 → In1 x (gr G x.f1.toNat)) : Nar (G ++ [x]) := by
  refine ⟨hI, fun n q1 q2 => ?_⟩
  by_cases c : n ≤ G.length
  · rw [gr_app_old G x n q1 c]
    refine ⟨(h.2 n q1 c).1, fun e => ?_⟩
    have ht := (h.1.1.2 n q1 c).2
    rw [gr_app_old G x _ (by omega) (by omega)]
    exact (h.2 n q1 c).2 e
  · have : n = G.length + 1 := by simp at q2; omega
    subst this
    rw [gr_app_new]
    refine ⟨fun e => by rw [hr e]; simp, fun e => ?_⟩
    rw [gr_app_old G x _ (by omega) (by omega)]
    exact hi e
theorem nar_root {G : List S39} (h : Nar G) {h_ v r u s : Int} (hc : grantC G h_ v r u s = 0) : Nar (rootG G h_ v r u s) :=
  nar_app h _ (inv_root h.1 hc) (Int.le_refl _) (by show (0 : Int) ≤ _; omega) (fun _ => rfl) (fun e => absurd rfl e)
theorem rightB_in {day : Int} {G : List S39} {n : Nat} {by_ v r u s : Int} (h : rightB day G n by_ v r u s = true) : by_ = (gr G n).f3 ∧ stB day G n = true ∧ bits .and .i64 (gr G n).f5 2 ≠ 0 ∧ bits .andNot .i64 v (gr G n).f4 = 0 ∧ bits .andNot .i64 r (gr G n).f5 = 0 ∧ u ≤ (gr G n).f6 ∧ ((gr G n).f7 = -1 ∨ (s ≠ -1 ∧ s ≤ (gr G n).f7)) := by
  unfold rightB at h
  simp only [Bool.and_eq_true, Bool.or_eq_true, Bool.not_eq_true', decide_eq_true_eq, decide_eq_false_iff_not, beq_iff_eq, bne_iff_ne] at h
  obtain ⟨⟨⟨⟨h1, h2⟩, h3⟩, ⟨h4, h5⟩, h6⟩, h7⟩ := h
  exact ⟨h1, h2, h3, h4, h5, h6, h7⟩
theorem nar_pass {day : Int} {G : List S39} (h : Nar G) {n by_ h_ v r u s : Int} (hc : passC day G n by_ h_ v r u s = 0) : Nar (passG G n h_ v r u s) := by
  obtain ⟨c1, c2, c3, c4, c5⟩ := passC_zero hc
  obtain ⟨m1, m2, m3, m4, m5, m6, m7, m8, m9⟩ := mayB_iff.1 c2
  obtain ⟨r1, r2, r3, r4, r5, r6, r7⟩ := rightB_in c4
  obtain ⟨o1, o2, o3, o4, o5, o6, o7, o8, o9⟩ := h.1.2 n.toNat (by omega) (by omega)
  have hne : n ≠ 0 := by omega
  refine nar_app h _ (inv_pass h.1 hc) (by show 0 ≤ n; omega) c1.2 (fun e => absurd e hne) (fun _ => ?_)
  refine ⟨if_neg hne, within (by omega : (0 : Int) ≤ v) m4 (by omega : 0 ≤ (gr G n.toNat).f4) o4 r4, within (by omega : (0 : Int) ≤ r) (by omega : r < 65536) (by omega : 0 ≤ (gr G n.toNat).f5) (by omega : (gr G n.toNat).f5 < 65536) r5, r6, r3, fun q => ?_⟩
  show 0 ≤ s
  have q' : 0 ≤ (gr G n.toNat).f7 := q
  omega
theorem nar_same {G H : List S39} (h : Nar G) (hI : Inv H) (hl : H.length = G.length) (hg : ∀ n, 1 ≤ n → n ≤ G.length → (gr H n).f1 = (gr G n).f1 ∧ (gr H n).f2 = (gr G n).f2 ∧ (gr H n).f4 = (gr G n).f4 ∧ (gr H n).f5 = (gr G n).f5 ∧ (gr H n).f6 = (gr G n).f6 ∧ (0 ≤ (gr H n).f7 ↔ 0 ≤ (gr G n).f7)) : Nar H := by
  refine ⟨hI, fun n q1 q2 => ?_⟩
  rw [hl] at q2
  obtain ⟨a1, a2, a4, a5, a6, a7⟩ := hg n q1 q2
  obtain ⟨k1, k2⟩ := h.2 n q1 q2
  have ht := (h.1.1.2 n q1 q2).2
  refine ⟨fun e => by rw [a2]; exact k1 (by rw [← a1]; exact e), fun e => ?_⟩
  rw [a1] at e ⊢
  obtain ⟨i1, i2, i3, i4, i5, i6⟩ := k2 e
  obtain ⟨b1, b2, b4, b5, b6, b7⟩ := hg (gr G n).f1.toNat (by omega) (by omega)
  unfold In1
  rw [a2, a4, a5, a6, b2, b4, b5, b6]
  exact ⟨i1, i2, i3, i4, i5, fun q => a7.2 (i6 (b7.1 q))⟩
theorem nar_put8 {G : List S39} (h : Nar G) {m : Nat} (h1 : 1 ≤ m) (h2 : m ≤ G.length) (u : Bool) : Nar (put8 G m u) :=
  nar_same h (inv_put8 h.1 h1 h2 u) (put8_len _ _ _) (fun n q1 q2 => by
    rw [gr_put8 G m n u h1 h2 q1]
    split
    · rename_i e; subst e; exact ⟨rfl, rfl, rfl, rfl, rfl, Iff.rfl⟩
    · exact ⟨rfl, rfl, rfl, rfl, rfl, Iff.rfl⟩)
theorem nar_use1 {G : List S39} (h : Nar G) {m : Nat} (h1 : 1 ≤ m) (h2 : m ≤ G.length) : Nar (use1 G m) :=
  nar_same h (inv_use1 h.1 h1 h2) (use1_len _ _) (fun n q1 q2 => by
    rw [gr_use1 G m n h1 h2 q1]
    refine ⟨rfl, rfl, rfl, rfl, rfl, ?_⟩
    show 0 ≤ (if n = m ∧ 0 < (gr G m).f7 then (gr G n).f7 - 1 else (gr G n).f7) ↔ _
    split
    · rename_i c; obtain ⟨rfl, c⟩ := c; omega
    · exact Iff.rfl)
theorem nar_uses {G : List S39} (h : Nar G) (ms : List Nat) (hm : ∀ m ∈ ms, 1 ≤ m ∧ m ≤ G.length) : Nar (ms.foldl use1 G) := by
  induction ms generalizing G with
  | nil => exact h
  | cons m ms ih =>
    rw [List.foldl_cons]
    exact ih (nar_use1 h (hm m (by simp)).1 (hm m (by simp)).2) (fun q hq => by rw [use1_len]; exact hm q (by simp [hq]))
/-- What a step keeps, shown act by act. -/
theorem step_cases {P : St → Prop} {s : St} (a : S37) (h : P s) (hr : ∀ h_ v r u t, grantC s.G h_ v r u t = 0 → P ⟨s.day, rootG s.G h_ v r u t, s.E⟩) (hp : ∀ n by_ h_ v r u t, passC s.day s.G n by_ h_ v r u t = 0 → P ⟨s.day, passG s.G n h_ v r u t, s.E⟩)
    (hv : ∀ n by_, revC s.G n by_ = 0 → P ⟨s.day, put8 s.G n.toNat true, s.E⟩) (hn : ∀ d, nextC s.day d = 0 → P ⟨d, s.G, s.E⟩) (ho : ∀ v n nb m mb, openC s.day s.G s.E v n nb m mb = 0 → P ⟨s.day, openG s.G n m, s.E ++ [⟨s.day, v, n, m⟩]⟩) : P (stepS s a) := by
  unfold stepS
  by_cases hc : actC s a = 0
  · rw [if_pos hc]
    unfold actC at hc
    by_cases k0 : kd a = 0
    · rw [if_pos k0] at hc ⊢; exact hr _ _ _ _ _ hc
    · rw [if_neg k0] at hc ⊢
      by_cases k1 : kd a = 1 ∨ kd a = 2
      · rw [if_pos k1] at hc ⊢; exact hp _ _ _ _ _ _ _ hc
      · rw [if_neg k1] at hc ⊢
        by_cases k3 : kd a = 3
        · rw [if_pos k3] at hc ⊢; exact hv _ _ hc
        · rw [if_neg k3] at hc ⊢
          by_cases k7 : kd a = 7
          · rw [if_pos k7] at hc ⊢; exact hn _ hc
          · rw [if_neg k7] at hc ⊢; exact ho _ _ _ _ _ hc
  · rw [if_neg hc]; exact h
theorem step_nar {s : St} (h : Nar s.G) (a : S37) : Nar (stepS s a).G :=
  step_cases (P := fun s => Nar s.G) a h (fun _ _ _ _ _ hc => nar_root h hc) (fun _ _ _ _ _ _ _ hc => nar_pass h hc) (fun n _ hc => nar_put8 h (by have := (revC_zero hc).1; omega) (by have := (revC_zero hc).1; omega) true) (fun _ _ => h) (fun _ _ _ _ _ hc => nar_uses h _ (open_rng h.1.1 hc).2.2)
theorem run_nar {s : St} (h : Nar s.G) (l : List S37) : Nar (runS s l).G := by
  unfold runS
  induction l generalizing s with
  | nil => exact h
  | cons a l ih => rw [List.foldl_cons]; exact ih (step_nar h a)
theorem stB_in {day : Int} {G : List S39} (h : Nar G) {n : Nat} (h1 : 1 ≤ n) (h2 : n ≤ G.length) (hs : stB day G n = true) : (gr G n).f8 = false ∧ ¬ day > (gr G n).f6 ∧ ((gr G n).f1 ≠ 0 → stB day G (gr G n).f1.toNat = true) := by
  unfold stB at hs
  simp only [Bool.and_eq_true, decide_eq_true_eq, Bool.not_eq_true'] at hs
  obtain ⟨hd, hr⟩ := hs
  unfold revB at hr
  rw [up_succ h.1.1 h1 h2, List.any_cons, Bool.or_eq_false_iff] at hr
  refine ⟨hr.1, by omega, fun e => ?_⟩
  obtain ⟨i1, i2, i3, i4, i5, i6⟩ := (h.2 n h1 h2).2 e
  unfold stB revB
  rw [hr.2, decide_eq_true (by omega)]; rfl
end Go.Proofs.Ytfnlghjkjmppdaa.PC
