/-
  What a revocation takes, and that it stays taken.
-/
import Derived.Test.YtfnlghjkjmppdaaCTw
namespace Go.Proofs.Ytfnlghjkjmppdaa.PC
open Go.RowKit Go.Proofs.YtfnlghjkjmppdaaW.PrintWords Go.Proofs.YtfnlghjkjmppdaaW.PrintLast Go.Proofs.YtfnlghjkjmppdaaW.PrintMore
set_option linter.unusedVariables false
set_option linter.unusedSimpArgs false
/-- Which grants are gone once grant no is taken back. -/
def goneB (G : List S39) (no i : Nat) : Bool := (up G i).contains no
theorem up_put8 {G : List S39} (hI : Inv G) {m : Nat} (h1 : 1 ≤ m) (h2 : m ≤ G.length) (u : Bool) {n : Nat} (hn : n ≤ G.length) : up (put8 G m u) n = up G n :=
  up_same hI.1 (inv_put8 hI h1 h2 u).1 (put8_len _ _ _) (fun k q1 q2 => by
    rw [gr_put8 G m k u h1 h2 q1]
    split
    · rename_i e; subst e; rfl
    · rfl) n n (Nat.le_refl _) hn
theorem revB_put8 {G : List S39} (hI : Inv G) {m : Nat} (h1 : 1 ≤ m) (h2 : m ≤ G.length) {n : Nat} (hn : n ≤ G.length) : revB (put8 G m true) n = (revB G n || goneB G m n) := by
  unfold revB goneB
  rw [up_put8 hI h1 h2 true hn]
  have hm := up_rng hI.1 hn
  generalize up G n = l at hm
  induction l with
  | nil => rfl
  | cons a l ih =>
    rw [List.any_cons, List.any_cons, List.contains_cons, ih (fun q hq => hm q (by simp [hq])), gr_put8 G m a true h1 h2 (hm a (by simp)).1]
    by_cases c : a = m
    · subst c; simp
    · rw [if_neg c, show (m == a) = false from beq_eq_false_iff_ne.2 (fun e => c e.symm)]
      cases (gr G a).f8 <;> simp
theorem stB_put8 {day : Int} {G : List S39} (hI : Inv G) {m : Nat} (h1 : 1 ≤ m) (h2 : m ≤ G.length) {n : Nat} (hn1 : 1 ≤ n) (hn : n ≤ G.length) : stB day (put8 G m true) n = (stB day G n && !goneB G m n) := by
  unfold stB
  have e : (gr (put8 G m true) n).f6 = (gr G n).f6 := by
    rw [gr_put8 G m n true h1 h2 hn1]
    split
    · rename_i e; subst e; rfl
    · rfl
  rw [revB_put8 hI h1 h2 hn, e]
  cases decide (day ≤ (gr G n).f6) <;> cases revB G n <;> cases goneB G m n <;> rfl
theorem belL_same {G H : List S39} (hu : ∀ i, i ≤ G.length → up H i = up G i) (n : Nat) : ∀ k, n + k ≤ G.length → belL H n k = belL G n k
  | 0, _ => rfl
  | k + 1, h => by
    unfold belL
    rw [hu _ (by omega), belL_same hu n k (by omega)]
theorem belowL_put8 {G : List S39} (hI : Inv G) {m : Nat} (h1 : 1 ≤ m) (h2 : m ≤ G.length) (u : Bool) : belowL (put8 G m u) m = belowL G m := by
  unfold belowL
  rw [put8_len]
  exact belL_same (fun i hi => up_put8 hI h1 h2 u hi) m _ (by omega)
theorem belL_rng (G : List S39) (n : Nat) : ∀ k, ∀ x ∈ belL G n k, (n : Int) + 1 ≤ x ∧ x ≤ n + k
  | 0, x, hx => by simp [belL] at hx
  | k + 1, x, hx => by
    unfold belL at hx
    split at hx
    · rcases List.mem_append.1 hx with q | q
      · have := belL_rng G n k x q; omega
      · have : x = ((n + k + 1 : Nat) : Int) := by simpa using q
        omega
    · have := belL_rng G n k x hx; omega
theorem belowL_rng {G : List S39} {n : Nat} (h : n ≤ G.length) (x : Int) (hx : x ∈ belowL G n) : 1 ≤ x ∧ x ≤ G.length := by
  have := belL_rng G n _ x hx; omega
def setsL (l : List Bool) (xs : List Int) : List Bool := xs.foldl (fun l x => l.set x.toNat true) l
theorem setsL_len (l : List Bool) (xs : List Int) : (setsL l xs).length = l.length := by
  unfold setsL
  induction xs generalizing l with
  | nil => rfl
  | cons a xs ih => rw [List.foldl_cons, ih, List.length_set]
theorem setsL_take (l : List Bool) (xs : List Int) (k : Nat) (h : k < xs.length) : setsL l (xs.take (k + 1)) = (setsL l (xs.take k)).set (xs[k]).toNat true := by
  unfold setsL
  rw [List.take_succ_eq_append_getElem h, List.foldl_append]; rfl
theorem gone_end {G : List S39} (hT : Tree G) {n : Nat} (h1 : 1 ≤ n) (h2 : n ≤ G.length) : setsL ((List.replicate (G.length + 1) false).set n true) (belowL G n) = inL G n (G.length - n) := by
  have key : ∀ k, n + k ≤ G.length → setsL ((List.replicate (G.length + 1) false).set n true) (belL G n k) = inL G n k := by
    intro k
    induction k with
    | zero => intro _; rw [← inL_zero hT h1 h2]; rfl
    | succ k ih =>
      intro hk
      have i2 := ih (by omega)
      unfold belL
      by_cases c : (up G (n + k + 1)).contains n = true
      · rw [if_pos c, ← inL_yes c (by omega), ← i2]
        unfold setsL
        rw [List.foldl_append]; rfl
      · rw [if_neg c, ← inL_no (Bool.eq_false_iff.2 c), i2]
  exact key _ (by omega)
theorem gone_get (G : List S39) {n : Nat} (h2 : n ≤ G.length) {i : Nat} (hi : i ≤ G.length) : (inL G n (G.length - n)).getD i false = goneB G n i := by
  rw [inL_getD G n _ i (by omega)]
  unfold inB goneB
  rw [decide_eq_true (by omega), Bool.true_and]
def wasL (day : Int) (G : List S39) : Nat → List Bool
  | 0 => List.replicate (G.length + 1) false
  | k + 1 => (wasL day G k).set (k + 1) (stB day G (k + 1))
theorem wasL_len (day : Int) (G : List S39) : ∀ k, (wasL day G k).length = G.length + 1
  | 0 => by simp [wasL]
  | k + 1 => by rw [wasL, List.length_set, wasL_len day G k]
theorem wasL_get (day : Int) (G : List S39) : ∀ k i, 1 ≤ i → i ≤ k → k ≤ G.length → (wasL day G k).getD i false = stB day G i
  | 0, i, h1, h2, _ => by omega
  | k + 1, i, h1, h2, h3 => by
    rw [wasL, List.getD_eq_getElem?_getD]
    by_cases c : k + 1 = i
    · subst c
      rw [List.getElem?_set_self (by rw [wasL_len]; omega)]; rfl
    · rw [List.getElem?_set_ne c, ← List.getD_eq_getElem?_getD, wasL_get day G k i h1 (by omega) (by omega)]
def cntG (day : Int) (G : List S39) (n : Nat) : Nat → Nat
  | 0 => 0
  | k + 1 => if (stB day G (k + 1) && goneB G n (k + 1)) = true then cntG day G n k + 1 else cntG day G n k
theorem cntG_le (day : Int) (G : List S39) (n : Nat) : ∀ k, cntG day G n k ≤ k
  | 0 => Nat.le_refl _
  | k + 1 => by
    have := cntG_le day G n k
    unfold cntG
    split <;> omega
theorem cntG_lo {day : Int} {G : List S39} (hT : Tree G) {n : Nat} : ∀ k, k < n → k ≤ G.length → cntG day G n k = 0
  | 0, _, _ => rfl
  | k + 1, h1, h2 => by
    have hg : goneB G n (k + 1) = false := by
      unfold goneB
      rw [Bool.eq_false_iff]
      intro hc
      have := up_mem hT (k + 1) (k + 1) (Nat.le_refl _) h2 n (by simpa using hc)
      omega
    unfold cntG
    rw [hg, Bool.and_false, if_neg (by decide), cntG_lo hT k (by omega) (by omega)]
theorem cntS_app (day : Int) (G : List S39) (l k : List Int) : cntS day G (l ++ k) = cntS day G l + cntS day G k := by
  unfold cntS; rw [List.filter_append, List.length_append]
theorem cntS_one (day : Int) (G : List S39) (n : Nat) : cntS day G [(n : Int)] = if stB day G n = true then 1 else 0 := by
  unfold cntS
  cases h : stB day G n <;> simp [h]
theorem cntG_belL {day : Int} {G : List S39} (hT : Tree G) {n : Nat} (h1 : 1 ≤ n) (h2 : n ≤ G.length) : ∀ k, n + k ≤ G.length → cntG day G n (n + k) = cntS day G (belL G n k ++ [(n : Int)])
  | 0, _ => by
    obtain ⟨m, rfl⟩ : ∃ m, n = m + 1 := ⟨n - 1, by omega⟩
    have hg : goneB G (m + 1) (m + 1) = true := by
      unfold goneB
      rw [up_succ hT h1 h2]; simp
    show cntG day G (m + 1) (m + 1) = cntS day G [((m + 1 : Nat) : Int)]
    rw [cntS_one]
    unfold cntG
    rw [hg, Bool.and_true, cntG_lo hT m (by omega) (by omega)]
  | k + 1, h => by
    have ih := cntG_belL (day := day) hT h1 h2 k (by omega)
    rw [cntS_app] at ih
    show cntG day G n (n + k + 1) = _
    unfold cntG belL
    unfold goneB
    rw [cntS_app]
    by_cases c : (up G (n + k + 1)).contains n = true
    · rw [if_pos c, c, Bool.and_true, cntS_app, cntS_one day G (n + k + 1), ih]
      split <;> omega
    · rw [if_neg c, Bool.eq_false_iff.2 c, Bool.and_false, if_neg (by decide), ih]
theorem cnt_end {day : Int} {G : List S39} (hT : Tree G) {n : Nat} (h1 : 1 ≤ n) (h2 : n ≤ G.length) : revN day G (n : Int) = (cntG day G n G.length : Nat) := by
  have := cntG_belL (day := day) hT h1 h2 (G.length - n) (by omega)
  rw [show n + (G.length - n) = G.length by omega] at this
  rw [this]
  unfold revN belowL
  rw [Int.toNat_natCast]
theorem revB_same {G H : List S39} (hT : Tree G) (hT2 : Tree H) (hl : H.length = G.length) (h : ∀ n, 1 ≤ n → n ≤ G.length → (gr H n).f1 = (gr G n).f1 ∧ (gr H n).f8 = (gr G n).f8) {n : Nat} (hn : n ≤ G.length) : revB H n = revB G n := by
  unfold revB
  rw [up_same hT hT2 hl (fun n a b => (h n a b).1) n n (Nat.le_refl _) hn]
  have hm := up_rng hT hn
  generalize up G n = l at hm
  induction l with
  | nil => rfl
  | cons a l ih =>
    rw [List.any_cons, List.any_cons, ih (fun q hq => hm q (by simp [hq])), (h a (hm a (by simp)).1 (hm a (by simp)).2).2]
theorem uses_f (ms : List Nat) : ∀ (G : List S39), (∀ m ∈ ms, 1 ≤ m ∧ m ≤ G.length) → ∀ n, 1 ≤ n → (gr (ms.foldl use1 G) n).f1 = (gr G n).f1 ∧ (gr (ms.foldl use1 G) n).f8 = (gr G n).f8 := by
  induction ms with
  | nil => intro G _ n _; exact ⟨rfl, rfl⟩
  | cons m ms ih =>
    intro G hm n hn
    rw [List.foldl_cons]
    have := ih (use1 G m) (fun q hq => by rw [use1_len]; exact hm q (by simp [hq])) n hn
    rw [gr_use1 G m n (hm m (by simp)).1 (hm m (by simp)).2 hn] at this
    exact this
/-- What is gone stays gone, and no entry behind the first k names it. -/
def Kept (n k : Nat) (gone : Nat → Bool) (s : St) : Prop := Inv s.G ∧ n ≤ s.G.length ∧ k ≤ s.E.length ∧ (∀ i, 1 ≤ i → i ≤ n → gone i = true → revB s.G i = true) ∧ ∀ e ∈ s.E.drop k, (1 ≤ e.f2 ∧ 1 ≤ e.f3) ∧ (e.f2 ≤ n → gone e.f2.toNat = false) ∧ (e.f3 ≤ n → gone e.f3.toNat = false)
theorem kept_app {n k : Nat} {gone : Nat → Bool} {s : St} (h : Kept n k gone s) (x : S39) (hI : Inv (s.G ++ [x])) : Kept n k gone ⟨s.day, s.G ++ [x], s.E⟩ := by
  obtain ⟨h1, h2, h3, h4, h5⟩ := h
  refine ⟨hI, by show n ≤ (s.G ++ [x]).length; simp; omega, h3, fun i a b c => ?_, h5⟩
  show revB (s.G ++ [x]) i = true
  unfold revB
  rw [any_app h1.1 hI.1 (by omega) (fun y => y.f8)]
  exact h4 i a b c
theorem kept_step {n k : Nat} {gone : Nat → Bool} {s : St} (h : Kept n k gone s) (a : S37) : Kept n k gone (stepS s a) := by
  have h0 := h
  obtain ⟨h1, h2, h3, h4, h5⟩ := h
  refine step_cases (P := Kept n k gone) a h0 (fun _ _ _ _ _ hc => kept_app h0 _ (inv_root h1 hc)) (fun _ _ _ _ _ _ _ hc => kept_app h0 _ (inv_pass h1 hc)) (fun m by_ hc => ?_) (fun d hc => h0) (fun v p pb q qb hc => ?_)
  · have hr := (revC_zero hc).1
    refine ⟨inv_put8 h1 (by omega) (by omega) true, by show n ≤ (put8 s.G _ true).length; rw [put8_len]; exact h2, h3, fun i a b c => ?_, h5⟩
    show revB (put8 s.G _ true) i = true
    rw [revB_put8 h1 (by omega) (by omega) (by omega), h4 i a b c]; rfl
  · obtain ⟨r1, r2, r3⟩ := open_rng h1.1 hc
    have hI := inv_open h1 hc
    obtain ⟨_, _, k1, k2, _⟩ := openC_zero hc
    have s1 := (key_in k1).2.1
    have s2 := (key_in k2).2.1
    have no : ∀ z : Int, 1 ≤ z → z ≤ s.G.length → stB s.day s.G z.toNat = true → z ≤ n → gone z.toNat = false := fun z z1 z2 z3 z4 => by
      rw [Bool.eq_false_iff]
      intro c
      have := h4 z.toNat (by omega) (by omega) c
      unfold stB at z3
      rw [this] at z3
      simp at z3
    have hl : (openG s.G p q).length = s.G.length := uses_len _ _
    refine ⟨hI, by show n ≤ (openG s.G p q).length; rw [hl]; exact h2, by show k ≤ (s.E ++ [_]).length; simp; omega, fun i a b c => ?_, fun e he => ?_⟩
    · show revB (openG s.G p q) i = true
      rw [revB_same h1.1 hI.1 hl (fun n a b => uses_f _ _ r3 n a) (by omega)]
      exact h4 i a b c
    · have he' : e ∈ (s.E ++ ([⟨s.day, v, p, q⟩] : List S44)).drop k := he
      rw [List.drop_append_of_le_length h3] at he'
      rcases List.mem_append.1 he' with z | z
      · exact h5 e z
      · have : e = ⟨s.day, v, p, q⟩ := by simpa using z
        subst this
        exact ⟨⟨r1.1, r2.1⟩, no p r1.1 r1.2 s1, no q r2.1 r2.2 s2⟩
theorem kept_run {n k : Nat} {gone : Nat → Bool} {s : St} (h : Kept n k gone s) (l : List S37) : Kept n k gone (runS s l) := by
  unfold runS
  induction l generalizing s with
  | nil => exact h
  | cons a l ih => rw [List.foldl_cons]; exact ih (kept_step h a)
theorem kept_new {s : St} (hI : Inv s.G) {m : Nat} (h1 : 1 ≤ m) (h2 : m ≤ s.G.length) : Kept s.G.length s.E.length (goneB s.G m) ⟨s.day, put8 s.G m true, s.E⟩ := by
  refine ⟨inv_put8 hI h1 h2 true, by show s.G.length ≤ (put8 s.G m true).length; rw [put8_len]; exact Nat.le_refl _, Nat.le_refl _, fun i a b c => ?_, fun e he => ?_⟩
  · show revB (put8 s.G m true) i = true
    rw [revB_put8 hI h1 h2 b, c]; simp
  · exfalso
    have he' : e ∈ s.E.drop s.E.length := he
    rw [List.drop_length] at he'
    cases he'
end Go.Proofs.Ytfnlghjkjmppdaa.PC
