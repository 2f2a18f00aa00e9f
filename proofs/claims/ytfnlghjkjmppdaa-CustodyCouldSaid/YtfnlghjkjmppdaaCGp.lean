/-
  Could is monotone in the group; a root for another person does not change it.
-/
import Derived.Test.YtfnlghjkjmppdaaCCh
import Derived.Test.YtfnlghjkjmppdaaPCx20
namespace Go.Proofs.Ytfnlghjkjmppdaa.PC
open Go.RowKit Go.Proofs.YtfnlghjkjmppdaaW.PrintWords Go.Proofs.YtfnlghjkjmppdaaW.PrintLast Go.Proofs.YtfnlghjkjmppdaaW.PrintMore
set_option linter.unusedVariables false
set_option linter.unusedSimpArgs false
theorem sm_lo {x : Int} (h : Sm x) : 0 ≤ x := h.1
theorem sm_hi {x : Int} (h : Sm x) : x < 65536 := h.2
theorem servB_iff {day : Int} {G : List S39} {p : Int} (hI : Inv G) (hp : Sm p) {n : Nat} (h1 : 1 ≤ n) (h2 : n ≤ G.length) : servB day G p n = true ↔ tb p (gr G n).f3.toNat = true ∧ tb (gr G n).f5 0 = true ∧ stB day G n = true ∧ spB G n = false := by
  obtain ⟨o1, o2, o3, o4, o5, o6, _⟩ := hI.2 n h1 h2
  unfold servB
  rw [serv_bit hp o1 o2, one_bit (by omega) o6]
  simp only [Bool.and_eq_true, Bool.not_eq_true']
theorem could_mono {day : Int} {G : List S39} (hI : Inv G) {p q : Int} (hp : Sm p) (hq : Sm q) (h : ∀ i, tb p i = true → tb q i = true) (v : Nat) (hv : tb (couldS day G p) v = true) : tb (couldS day G q) v = true := by
  obtain ⟨a, b, q1, q2, q3, q4, q5, q6, q7, q8⟩ := ((could_tb hI).2 v).1 hv
  have sa := (servB_iff hI hp (by omega) q3).1 q4
  have sb := (servB_iff hI hp q1 (by omega)).1 q5
  have tw := (pair_two hp (hI.2 a (by omega) q3) (hI.2 b q1 (by omega))).1 q6
  refine ((could_tb hI).2 v).2 ⟨a, b, q1, q2, q3, (servB_iff hI hq (by omega) q3).2 ⟨h _ sa.1, sa.2⟩, (servB_iff hI hq q1 (by omega)).2 ⟨h _ sb.1, sb.2⟩, (pair_two hq (hI.2 a (by omega) q3) (hI.2 b q1 (by omega))).2 ⟨tw.1, ?_⟩, q7, q8⟩
  rcases tw.2 with t | ⟨t, i, hi, hb⟩
  · exact Or.inl t
  · exact Or.inr ⟨t, i, hi, h i hb⟩
theorem could_within {day : Int} {G : List S39} (hI : Inv G) {p q : Int} (hp : Sm p) (hq : Sm q) : bits .and .i64 (couldS day G p) (couldS day G (bits .or .i64 p q)) = couldS day G p := by
  have s1 := (could_tb (day := day) (p := p) hI).1
  have s2 := (could_tb (day := day) (p := bits .or .i64 p q) hI).1
  refine tb_ext (sm_and s1 s2) s1 (fun v => ?_)
  rw [tb_and s1 s2]
  cases c : tb (couldS day G p) v
  · rfl
  · rw [could_mono hI hp (sm_or hp hq) (fun i hi => by rw [tb_or hp hq, hi]; rfl) v c]; rfl
/-- A grant more leaves what is above the old ones. -/
theorem up_app {G : List S39} {x : S39} (hT : Tree G) (hT2 : Tree (G ++ [x])) : ∀ (b n : Nat), n ≤ b → n ≤ G.length → up (G ++ [x]) n = up G n
  | 0, n, hb, hn => by
    have : n = 0 := by omega
    subst this; rw [up_zero, up_zero]
  | b + 1, n, hb, hn => by
    by_cases c : n = 0
    · subst c; rw [up_zero, up_zero]
    · have ht := (hT.2 n (by omega) hn).2
      rw [up_succ hT2 (by omega) (by simp; omega), up_succ hT (by omega) hn, gr_app_old G x n (by omega) hn, up_app hT hT2 b _ (by omega) (by omega)]
theorem any_app {G : List S39} {x : S39} (hT : Tree G) (hT2 : Tree (G ++ [x])) {n : Nat} (hn : n ≤ G.length) (f : S39 → Bool) : (up (G ++ [x]) n).any (fun m => f (gr (G ++ [x]) m)) = (up G n).any (fun m => f (gr G m)) := by
  rw [up_app hT hT2 n n (Nat.le_refl _) hn]
  have hm := up_rng hT hn
  generalize up G n = l at hm
  induction l with
  | nil => rfl
  | cons a l ih =>
    rw [List.any_cons, List.any_cons, gr_app_old G x a (hm a (by simp)).1 (hm a (by simp)).2, ih (fun m q => hm m (by simp [q]))]
theorem stB_app {day : Int} {G : List S39} {x : S39} (hT : Tree G) (hT2 : Tree (G ++ [x])) {n : Nat} (h1 : 1 ≤ n) (hn : n ≤ G.length) : stB day (G ++ [x]) n = stB day G n := by
  unfold stB revB
  rw [any_app hT hT2 hn (fun y => y.f8), gr_app_old G x n h1 hn]
theorem spB_app {G : List S39} {x : S39} (hT : Tree G) (hT2 : Tree (G ++ [x])) {n : Nat} (hn : n ≤ G.length) : spB (G ++ [x]) n = spB G n := by
  unfold spB
  rw [any_app hT hT2 hn (fun y => y.f7 == 0)]
theorem could_app {day : Int} {G : List S39} {x : S39} (hI : Inv G) (hI2 : Inv (G ++ [x])) {p : Int} (hp : Sm p) (hx : tb p x.f3.toNat = false) : couldS day (G ++ [x]) p = couldS day G p := by
  have key : ∀ n, 1 ≤ n → n ≤ G.length → (servB day (G ++ [x]) p n = true ↔ servB day G p n = true) := fun n h1 h2 => by
    rw [servB_iff hI2 hp h1 (by simp; omega), servB_iff hI hp h1 h2, gr_app_old G x n h1 h2, stB_app hI.1 hI2.1 h1 h2, spB_app hI.1 hI2.1 h2]
  have new : servB day (G ++ [x]) p (G.length + 1) = true → False := fun h => by
    have := ((servB_iff hI2 hp (by omega) (by simp)).1 h).1
    rw [gr_app_new, hx] at this; cases this
  refine tb_ext (could_tb hI2).1 (could_tb hI).1 (fun v => Bool.eq_iff_iff.2 ?_)
  rw [(could_tb hI2).2 v, (could_tb hI).2 v]
  constructor
  · rintro ⟨a, b, q1, q2, q3, q4, q5, q6, q7, q8⟩
    have ha : a ≤ G.length := Classical.byContradiction fun c => by
      have : a = G.length + 1 := by simp at q3; omega
      subst this; exact new q4
    rw [gr_app_old G x a (by omega) ha] at q6 q7
    rw [gr_app_old G x b q1 (by omega)] at q6 q8
    exact ⟨a, b, q1, q2, ha, (key a (by omega) ha).1 q4, (key b q1 (by omega)).1 q5, q6, q7, q8⟩
  · rintro ⟨a, b, q1, q2, q3, q4, q5, q6, q7, q8⟩
    refine ⟨a, b, q1, q2, by simp; omega, (key a (by omega) q3).2 q4, (key b q1 (by omega)).2 q5, ?_⟩
    rw [gr_app_old G x a (by omega) q3, gr_app_old G x b q1 (by omega)]
    exact ⟨q6, q7, q8⟩
theorem could_root {day : Int} {G : List S39} (hI : Inv G) {p h_ v r u s : Int} (hp : Sm p) (hx : ¬ (0 ≤ h_ ∧ h_ ≤ 15 ∧ tb p h_.toNat = true)) : couldS day (if grantC G h_ v r u s = 0 then rootG G h_ v r u s else G) p = couldS day G p := by
  by_cases c : grantC G h_ v r u s = 0
  · rw [if_pos c]
    have hm : mayB h_ v r u s = true := by
      unfold grantC at c
      exact Classical.byContradiction fun q => by rw [if_neg q] at c; omega
    obtain ⟨m1, m2, _⟩ := mayB_iff.1 hm
    exact could_app hI (inv_root hI c) hp (Bool.eq_false_iff.2 fun q => hx ⟨m1, m2, q⟩)
  · rw [if_neg c]
theorem shr_bit {p n : Int} (hp : Sm p) (h0 : 0 ≤ n) (h1 : n ≤ 15) : ((shr .i64 p n).tmod 2 == 1) = tb p n.toNat := by
  obtain ⟨m, rfl⟩ := Int.eq_ofNat_of_zero_le h0
  obtain ⟨A, rfl⟩ := Int.eq_ofNat_of_zero_le hp.1
  have e : shr .i64 (A : Int) (m : Int) = ((A / 2 ^ m : Nat) : Int) := by
    unfold shr
    rw [Int.toNat_natCast, Nat.min_eq_left (show m ≤ IntKind.bits .i64 by show m ≤ 64; omega), show ((2 : Int) ^ m) = ((2 ^ m : Nat) : Int) by simp]
    exact (Int.natCast_ediv A _).symm
  rw [e]
  unfold tb
  rw [Int.toNat_natCast, Int.toNat_natCast, Nat.testBit_eq_decide_div_mod_eq, Int.tmod_eq_emod_of_nonneg (Int.natCast_nonneg _)]
  generalize A / 2 ^ m = M
  by_cases c : M % 2 = 1
  · rw [decide_eq_true c]; exact beq_iff_eq.2 (by omega)
  · rw [decide_eq_false c]; exact beq_eq_false_iff_ne.2 (by omega)
def inB2 (p n : Int) : Bool := decide (0 ≤ n) && (decide (n ≤ 15) && tb p n.toNat)
theorem in_f {p : Int} (hp : Sm p) (n : Int) : kimberlitelaw06_in.f p n = some (inB2 p n) := by
  unfold kimberlitelaw06_in.f inB2
  by_cases c0 : 0 ≤ n
  · by_cases c1 : n ≤ 15
    · rw [if_pos c0, if_pos c1, if_pos c0, decide_eq_true c0, decide_eq_true c1, Bool.true_and, Bool.true_and, shr_bit hp c0 c1]
    · rw [if_pos c0, if_neg c1, decide_eq_false c1, decide_eq_true c0]; rfl
  · rw [if_neg c0, decide_eq_false c0]; rfl
end Go.Proofs.Ytfnlghjkjmppdaa.PC
