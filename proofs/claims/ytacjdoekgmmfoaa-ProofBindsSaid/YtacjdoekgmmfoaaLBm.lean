/-
  Blame: who is accused when two entries are accepted at one place under one root.
-/
import Derived.Test.YtacjdoekgmmfoaaLAc
namespace Go.Proofs.Ytacjdoekgmmfoaa.PL
open Go.RowKit Go.Proofs.YtacjdoekgmmfoaaW.PrintWords Go.Proofs.YtacjdoekgmmfoaaW.PrintLast Go.Proofs.YtacjdoekgmmfoaaW.PrintMore
set_option linter.unusedVariables false
set_option linter.unusedSimpArgs false
theorem incl_parts {e : List Int} {i n root : Int} {ss : List S54} (h : (inclS e i n root ss).1 = true) : (1 ≤ n ∧ n ≤ 4096 ∧ 0 ≤ i ∧ i < n) ∧ ¬ e.length > 256 ∧ fitsS i.toNat n.toNat ss = true ∧ followS e ss = root ∧ (inclS e i n root ss).2 = 0 := by
  unfold inclS at h ⊢
  by_cases c : 1 ≤ n ∧ n ≤ 4096 ∧ 0 ≤ i ∧ i < n
  · rw [if_pos c] at h ⊢
    by_cases d : e.length > 256
    · rw [if_pos d] at h; cases h
    · rw [if_neg d] at h ⊢
      simp only [Bool.and_eq_true, beq_iff_eq] at h
      exact ⟨c, d, h.1, h.2, rfl⟩
  · rw [if_neg c] at h; cases h
theorem incl_make {e : List Int} {i n root : Int} {ss : List S54} (c : 1 ≤ n ∧ n ≤ 4096 ∧ 0 ≤ i ∧ i < n) (d : ¬ e.length > 256) (f : fitsS i.toNat n.toNat ss = true) (g : followS e ss = root) : inclS e i n root ss = (true, 0) := by
  unfold inclS; rw [if_pos c, if_neg d, f, g]; simp
/-- Two entries that are accepted at one place under one root. -/
theorem blame_yes {i n root : Int} {one two : List Int} {s1 s2 : List S54} (h1 : (inclS one i n root s1).1 = true) (h2 : (inclS two i n root s2).1 = true) (hne : one ≠ two) (o1 : ∀ s ∈ s1, okH s.f0) (o2 : ∀ s ∈ s2, okH s.f0) :
    ∃ r1 r2, accS i n one s1 two s2 = (r1, r2, 0) ∧ r1 ≠ r2 ∧ mixS r1 = mixS r2 ∧ r1 ∈ lv (0 :: one) s1 ∧ r2 ∈ lv (0 :: two) s2 := by
  obtain ⟨c, d1, f1, g1, _⟩ := incl_parts h1
  obtain ⟨_, d2, f2, g2, _⟩ := incl_parts h2
  have hf : followS one s1 = followS two s2 := g1.trans g2.symm
  obtain ⟨r, q1, q2, q3, q4, q5⟩ := acc_some s1 s2 (0 :: one) (0 :: two) (acc_fits f1 f2) o1 o2 (fun q => hne (by injection q)) hf
  refine ⟨r.1, r.2, ?_, q2, q3, q4, q5⟩
  unfold accS
  rw [if_pos c, if_neg (by omega), if_neg (by simp [hne, f1, f2, hf]), q1]
/-- No accusation otherwise. -/
theorem blame_no {i n : Int} {one two : List Int} {s1 s2 : List S54} (d1 : ¬ one.length > 256) (d2 : ¬ two.length > 256) (h : ¬ ((inclS one i n (followS one s1) s1).1 = true ∧ (inclS two i n (followS one s1) s2).1 = true ∧ one ≠ two)) :
    ∃ c, accS i n one s1 two s2 = ([], [], c) ∧ c ≠ 0 := by
  unfold accS
  by_cases c : 1 ≤ n ∧ n ≤ 4096 ∧ 0 ≤ i ∧ i < n
  · rw [if_pos c, if_neg (by omega)]
    by_cases e : one = two ∨ fitsS i.toNat n.toNat s1 = false ∨ fitsS i.toNat n.toNat s2 = false ∨ followS one s1 ≠ followS two s2
    · rw [if_pos e]; exact ⟨11, rfl, by decide⟩
    · exfalso
      apply h
      have f1 : fitsS i.toNat n.toNat s1 = true := by cases q : fitsS i.toNat n.toNat s1 <;> simp_all
      have f2 : fitsS i.toNat n.toNat s2 = true := by cases q : fitsS i.toNat n.toNat s2 <;> simp_all
      have g : followS one s1 = followS two s2 := by
        rcases Decidable.em (followS one s1 = followS two s2) with q | q
        · exact q
        · exact absurd (Or.inr (Or.inr (Or.inr q))) e
      rw [incl_make c d1 f1 rfl, incl_make c d2 f2 g.symm]
      exact ⟨rfl, rfl, fun q => e (Or.inl q)⟩
  · rw [if_neg c]; exact ⟨2, rfl, by decide⟩
end Go.Proofs.Ytacjdoekgmmfoaa.PL
