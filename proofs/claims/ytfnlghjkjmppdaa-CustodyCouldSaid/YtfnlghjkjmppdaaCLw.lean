/-
  The book's calls as functions of its state, and what every call keeps. And more of the book's walks (merged texts).
-/
import Derived.Test.YtfnlghjkjmppdaaCPa
import Derived.Test.YtfnlghjkjmppdaaCOp
import Derived.Test.YtfnlghjkjmppdaaCBb
namespace Go.Proofs.Ytfnlghjkjmppdaa.PC
open Go.RowKit Go.Proofs.YtfnlghjkjmppdaaW.PrintWords Go.Proofs.YtfnlghjkjmppdaaW.PrintLast Go.Proofs.YtfnlghjkjmppdaaW.PrintMore
set_option linter.unusedVariables false
set_option linter.unusedSimpArgs false
/-- A book's state. -/
structure St where
  day : Int
  G : List S39
  E : List S44
def rootG (G : List S39) (h v r u s : Int) : List S39 := G ++ [newG G ⟨0, 0, 0, h, v, r, u, s, false⟩]
def passG (G : List S39) (n h v r u s : Int) : List S39 := G ++ [newG G ⟨0, n, (gr G n.toNat).f2, h, v, r, u, s, false⟩]
def grantC (G : List S39) (h v r u s : Int) : Int := if mayB h v r u s = true then (if 128 ≤ G.length then 8 else 0) else 2
def passC (day : Int) (G : List S39) (n by_ h v r u s : Int) : Int :=
  if ¬ (1 ≤ n ∧ n ≤ G.length) then 6 else if mayB h v r u s = false then 2 else if perB by_ = false then 2 else if rightB day G n.toNat by_ v r u s = false then 12 else if 128 ≤ G.length then 8 else 0
def revC (G : List S39) (n by_ : Int) : Int := if ¬ (1 ≤ n ∧ n ≤ G.length) then 6 else if perB by_ = false then 2 else if heldB G n.toNat by_ = false then 12 else if revB G n.toNat = true then 9 else 0
def revN (day : Int) (G : List S39) (n : Int) : Int := (cntS day G (belowL G n.toNat ++ [n]) : Nat)
def nextC (day d : Int) : Int := if dayB d = false then 2 else if d < day then 9 else 0
def openG (G : List S39) (a s : Int) : List S39 := (up G a.toNat ++ up G s.toNat).foldl use1 G
theorem gr_app_old (G : List S39) (x : S39) (n : Nat) (h1 : 1 ≤ n) (h2 : n ≤ G.length) : gr (G ++ [x]) n = gr G n := by
  unfold gr rd_T39
  rw [List.getD_eq_getElem?_getD, List.getD_eq_getElem?_getD, List.getElem?_append_left (by omega)]
theorem gr_app_new (G : List S39) (x : S39) : gr (G ++ [x]) (G.length + 1) = x := by
  unfold gr rd_T39
  rw [show (((G.length + 1 : Nat) : Int) - 1).toNat = G.length by omega, List.getD_eq_getElem?_getD, List.getElem?_append_right (Nat.le_refl _)]; simp
/-- What a new grant may be. -/
theorem inv_app {G : List S39} (h : Inv G) (hl : G.length < 128) (x : S39) (h0 : x.f0 = (G.length : Int) + 1) (h1 : 0 ≤ x.f1) (h2 : x.f1 ≤ G.length) (hx : Ok1 x) : Inv (G ++ [x]) := by
  refine ⟨⟨by simp; omega, fun n q1 q2 => ?_⟩, fun n q1 q2 => ?_⟩
  · by_cases c : n ≤ G.length
    · rw [gr_app_old G x n q1 c]; exact h.1.2 n q1 c
    · have : n = G.length + 1 := by simp at q2; omega
      subst this
      rw [gr_app_new]; exact ⟨by rw [h0]; simp, h1, by omega⟩
  · by_cases c : n ≤ G.length
    · rw [gr_app_old G x n q1 c]; exact h.2 n q1 c
    · have : n = G.length + 1 := by simp at q2; omega
      subst this
      rw [gr_app_new]; exact hx
theorem ok1_of_may {h v r u s : Int} (hm : mayB h v r u s = true) (a b c : Int) : Ok1 ⟨a, b, c, h, v, r, u, s, false⟩ := by
  obtain ⟨m1, m2, m3, m4, m5, m6, m7, m8, m9⟩ := mayB_iff.1 hm
  exact ⟨m1, m2, m3, m4, m5, m6, m7, by show -1 ≤ s; omega, by show s ≤ 1048576; omega⟩
theorem inv_root {G : List S39} (h : Inv G) {h_ v r u s : Int} (hc : grantC G h_ v r u s = 0) : Inv (rootG G h_ v r u s) := by
  unfold grantC at hc
  by_cases hm : mayB h_ v r u s = true
  · by_cases hl : 128 ≤ G.length
    · rw [if_pos hm, if_pos hl] at hc; omega
    · exact inv_app h (by omega) _ rfl (Int.le_refl _) (by show (0 : Int) ≤ _; omega) (ok1_of_may hm _ _ _)
  · rw [if_neg hm] at hc; omega
theorem passC_zero {day : Int} {G : List S39} {n by_ h_ v r u s : Int} (hc : passC day G n by_ h_ v r u s = 0) : (1 ≤ n ∧ n ≤ G.length) ∧ mayB h_ v r u s = true ∧ perB by_ = true ∧ rightB day G n.toNat by_ v r u s = true ∧ G.length < 128 := by
  unfold passC at hc
  by_cases c1 : 1 ≤ n ∧ n ≤ G.length
  · rw [if_neg (fun q => q c1)] at hc
    cases c2 : mayB h_ v r u s
    · rw [c2, if_pos rfl] at hc; omega
    · rw [c2, if_neg (by decide)] at hc
      cases c3 : perB by_
      · rw [c3, if_pos rfl] at hc; omega
      · rw [c3, if_neg (by decide)] at hc
        cases c4 : rightB day G n.toNat by_ v r u s
        · rw [c4, if_pos rfl] at hc; omega
        · rw [c4, if_neg (by decide)] at hc
          by_cases c5 : 128 ≤ G.length
          · rw [if_pos c5] at hc; omega
          · exact ⟨c1, rfl, rfl, rfl, by omega⟩
  · rw [if_pos c1] at hc; omega
theorem inv_pass {day : Int} {G : List S39} (h : Inv G) {n by_ h_ v r u s : Int} (hc : passC day G n by_ h_ v r u s = 0) : Inv (passG G n h_ v r u s) := by
  obtain ⟨c1, c2, c3, c4, c5⟩ := passC_zero hc
  exact inv_app h c5 _ rfl (by show 0 ≤ n; omega) c1.2 (ok1_of_may c2 _ _ _)
theorem inv_put8 {G : List S39} (h : Inv G) {m : Nat} (h1 : 1 ≤ m) (h2 : m ≤ G.length) (u : Bool) : Inv (put8 G m u) := by
  refine ⟨⟨by rw [put8_len]; exact h.1.1, fun n q1 q2 => ?_⟩, fun n q1 q2 => ?_⟩
  · rw [put8_len] at q2
    rw [gr_put8 G m n u h1 h2 q1]
    split
    · rename_i e; subst e; exact h.1.2 n q1 q2
    · exact h.1.2 n q1 q2
  · rw [put8_len] at q2
    rw [gr_put8 G m n u h1 h2 q1]
    split
    · rename_i e; subst e; exact h.2 n q1 q2
    · exact h.2 n q1 q2
/-- A use: nothing but the uses change. -/
theorem gr_use1 (G : List S39) (m n : Nat) (h1 : 1 ≤ m) (h2 : m ≤ G.length) (hn : 1 ≤ n) : gr (use1 G m) n = { gr G n with f7 := if n = m ∧ 0 < (gr G m).f7 then (gr G n).f7 - 1 else (gr G n).f7 } := by
  unfold use1
  by_cases c : 0 < (gr G m).f7
  · rw [if_pos c, gr_put7 G m n _ h1 h2 hn]
    by_cases e : n = m
    · subst e; simp [c]
    · simp [e]
  · rw [if_neg c]
    rw [if_neg (fun q => c q.2)]
theorem inv_use1 {G : List S39} (h : Inv G) {m : Nat} (h1 : 1 ≤ m) (h2 : m ≤ G.length) : Inv (use1 G m) := by
  refine ⟨⟨by rw [use1_len]; exact h.1.1, fun n q1 q2 => ?_⟩, fun n q1 q2 => ?_⟩
  · rw [use1_len] at q2
    rw [gr_use1 G m n h1 h2 q1]
    exact h.1.2 n q1 q2
  · rw [use1_len] at q2
    rw [gr_use1 G m n h1 h2 q1]
    obtain ⟨a1, a2, a3, a4, a5, a6, a7, a8, a9⟩ := h.2 n q1 q2
    refine ⟨a1, a2, a3, a4, a5, a6, a7, ?_, ?_⟩
    · show -1 ≤ (if n = m ∧ 0 < (gr G m).f7 then (gr G n).f7 - 1 else (gr G n).f7)
      split
      · rename_i c; obtain ⟨rfl, c⟩ := c; omega
      · exact a8
    · show (if n = m ∧ 0 < (gr G m).f7 then (gr G n).f7 - 1 else (gr G n).f7) ≤ 1048576
      split <;> omega
theorem inv_uses {G : List S39} (h : Inv G) (ms : List Nat) (hm : ∀ m ∈ ms, 1 ≤ m ∧ m ≤ G.length) : Inv (ms.foldl use1 G) := by
  induction ms generalizing G with
  | nil => exact h
  | cons m ms ih =>
    rw [List.foldl_cons]
    exact ih (inv_use1 h (hm m (by simp)).1 (hm m (by simp)).2) (fun q hq => by rw [use1_len]; exact hm q (by simp [hq]))
theorem Inv.us {G : List S39} (h : Inv G) : Us G := fun n q1 q2 => (h.2 n q1 q2).2.2.2.2.2.2.2.2
theorem openC_zero {day : Int} {G : List S39} {E : List S44} {v a ab s sb : Int} (hc : openC day G E v a ab s sb = 0) : 0 ≤ v ∧ v ≤ 15 ∧ keyC day G v a ab = 0 ∧ keyC day G v s sb = 0 ∧ ab ≠ sb ∧ (gr G a.toNat).f2 ≠ (gr G s.toNat).f2 ∧ E.length < 4096 := by
  unfold openC at hc
  by_cases c1 : 0 ≤ v ∧ v ≤ 15
  · rw [if_neg (fun q => q c1)] at hc
    by_cases c2 : keyC day G v a ab = 0
    · rw [if_neg (fun q => q c2)] at hc
      by_cases c3 : keyC day G v s sb = 0
      · rw [if_neg (fun q => q c3)] at hc
        by_cases c4 : ab = sb ∨ (gr G a.toNat).f2 = (gr G s.toNat).f2
        · rw [if_pos c4] at hc; omega
        · rw [if_neg c4] at hc
          by_cases c5 : 4096 ≤ E.length
          · rw [if_pos c5] at hc; omega
          · exact ⟨c1.1, c1.2, c2, c3, fun q => c4 (Or.inl q), fun q => c4 (Or.inr q), by omega⟩
      · rw [if_pos c3] at hc; exact absurd hc c3
    · rw [if_pos c2] at hc; exact absurd hc c2
  · rw [if_pos c1] at hc; omega
theorem up_rng {G : List S39} (hT : Tree G) {n : Nat} (h : n ≤ G.length) : ∀ m ∈ up G n, 1 ≤ m ∧ m ≤ G.length := fun m hm => by
  have := up_mem hT n n (Nat.le_refl _) h m hm; omega
theorem open_rng {day : Int} {G : List S39} {E : List S44} {v a ab s sb : Int} (hT : Tree G) (hc : openC day G E v a ab s sb = 0) : (1 ≤ a ∧ a ≤ G.length) ∧ (1 ≤ s ∧ s ≤ G.length) ∧ ∀ m ∈ up G a.toNat ++ up G s.toNat, 1 ≤ m ∧ m ≤ G.length := by
  obtain ⟨_, _, k1, k2, _⟩ := openC_zero hc
  have r1 := keyC_in k1
  have r2 := keyC_in k2
  refine ⟨r1, r2, fun m hm => ?_⟩
  rcases List.mem_append.1 hm with hm | hm
  · exact up_rng hT (by omega) m hm
  · exact up_rng hT (by omega) m hm
theorem inv_open {day : Int} {G : List S39} (h : Inv G) {E : List S44} {v a ab s sb : Int} (hc : openC day G E v a ab s sb = 0) : Inv (openG G a s) := inv_uses h _ (open_rng h.1 hc).2.2
theorem revC_zero {G : List S39} {n by_ : Int} (hc : revC G n by_ = 0) : (1 ≤ n ∧ n ≤ G.length) ∧ perB by_ = true ∧ heldB G n.toNat by_ = true ∧ revB G n.toNat = false := by
  unfold revC at hc
  by_cases c1 : 1 ≤ n ∧ n ≤ G.length
  · rw [if_neg (fun q => q c1)] at hc
    cases c2 : perB by_
    · rw [c2, if_pos rfl] at hc; omega
    · rw [c2, if_neg (by decide)] at hc
      cases c3 : heldB G n.toNat by_
      · rw [c3, if_pos rfl] at hc; omega
      · rw [c3, if_neg (by decide)] at hc
        cases c4 : revB G n.toNat
        · exact ⟨c1, rfl, rfl, rfl⟩
        · rw [c4, if_pos rfl] at hc; omega
  · rw [if_pos c1] at hc; omega
/-- The acts: their errors, and the state behind them. -/
def kd (a : S37) : Int := a.f0 % 8
def actC (s : St) (a : S37) : Int :=
  if kd a = 0 then grantC s.G a.f3 a.f6 a.f7 a.f8 a.f9
  else if kd a = 1 ∨ kd a = 2 then passC s.day s.G a.f1 a.f3 a.f4 a.f6 a.f7 a.f8 a.f9
  else if kd a = 3 then revC s.G a.f1 a.f3
  else if kd a = 7 then nextC s.day a.f10
  else openC s.day s.G s.E a.f10 a.f1 a.f3 a.f2 a.f4
def stepS (s : St) (a : S37) : St :=
  if actC s a = 0 then
    if kd a = 0 then ⟨s.day, rootG s.G a.f3 a.f6 a.f7 a.f8 a.f9, s.E⟩
    else if kd a = 1 ∨ kd a = 2 then ⟨s.day, passG s.G a.f1 a.f4 a.f6 a.f7 a.f8 a.f9, s.E⟩
    else if kd a = 3 then ⟨s.day, put8 s.G a.f1.toNat true, s.E⟩
    else if kd a = 7 then ⟨a.f10, s.G, s.E⟩
    else ⟨s.day, openG s.G a.f1 a.f2, s.E ++ [⟨s.day, a.f10, a.f1, a.f2⟩]⟩
  else s
theorem step_inv {s : St} (h : Inv s.G) (a : S37) : Inv (stepS s a).G := by
  unfold stepS
  by_cases hc : actC s a = 0
  · rw [if_pos hc]
    unfold actC at hc
    by_cases k0 : kd a = 0
    · rw [if_pos k0] at hc ⊢; exact inv_root h hc
    · rw [if_neg k0] at hc ⊢
      by_cases k1 : kd a = 1 ∨ kd a = 2
      · rw [if_pos k1] at hc ⊢; exact inv_pass h hc
      · rw [if_neg k1] at hc ⊢
        by_cases k3 : kd a = 3
        · rw [if_pos k3] at hc ⊢; obtain ⟨c1, _⟩ := revC_zero hc; exact inv_put8 h (by omega) (by omega) true
        · rw [if_neg k3] at hc ⊢
          by_cases k7 : kd a = 7
          · rw [if_pos k7]; exact h
          · rw [if_neg k7] at hc ⊢; exact inv_open h hc
  · rw [if_neg hc]; exact h
section
variable (base g : Nat) (F : Nat → Prop) (w : World) (day : Int) (G : List S39) (E : List S44)
theorem Grant_calls (h_ v r u s : Int) (h : BK base F w g day G E) : Calls Try.prog 15 #[.pointer (some ⟨g, 0, none⟩), .int .i64 h_, .int .i64 v, .int .i64 r, .int .i64 u, .int .i64 s] w fun e w' =>
    e = .returned (.tuple #[.int .i64 (if grantC G h_ v r u s = 0 then (G.length : Int) + 1 else 0), .int .i64 (grantC G h_ v r u s)]) ∧ Got base F w w' g day (if grantC G h_ v r u s = 0 then rootG G h_ v r u s else G) E := by
  unfold grantC
  by_cases hm : mayB h_ v r u s = true
  · rw [if_pos hm]
    by_cases hl : 128 ≤ G.length
    · rw [if_pos hl]
      refine (grant_full base g F w day G E h_ v r u s h (by rw [may_f, hm]) hl).mono ?_
      rintro e w' ⟨rfl, hb⟩; exact ⟨rfl, Got.of_below h hb⟩
    · rw [if_neg hl]
      refine (grant_ok base g F w day G E h_ v r u s h (by rw [may_f, hm]) (by omega)).mono ?_
      rintro e w' ⟨rfl, hb⟩; exact ⟨rfl, hb⟩
  · rw [if_neg hm]
    refine (grant_arg base g F w day G E h_ v r u s h (by rw [may_f, Bool.eq_false_iff.mpr hm])).mono ?_
    rintro e w' ⟨rfl, hb⟩; exact ⟨rfl, Got.of_below h hb⟩
theorem Pass_calls (n by_ h_ v r u s : Int) (h : BK base F w g day G E) (hT : Tree G) : Calls Try.prog 16 #[.pointer (some ⟨g, 0, none⟩), .int .i64 n, .int .i64 by_, .int .i64 h_, .int .i64 v, .int .i64 r, .int .i64 u, .int .i64 s] w fun e w' =>
    e = .returned (.tuple #[.int .i64 (if passC day G n by_ h_ v r u s = 0 then (G.length : Int) + 1 else 0), .int .i64 (passC day G n by_ h_ v r u s)]) ∧ Got base F w w' g day (if passC day G n by_ h_ v r u s = 0 then passG G n h_ v r u s else G) E := by
  by_cases c1 : 1 ≤ n ∧ n ≤ G.length
  · cases c2 : mayB h_ v r u s
    · have hc : passC day G n by_ h_ v r u s = 2 := by unfold passC; rw [if_neg (fun q => q c1), c2, if_pos rfl]
      rw [hc]
      refine (Pass_may base g F w day G E n by_ h_ v r u s h hT c1.1 c1.2 c2).mono ?_
      rintro e w' ⟨rfl, hb⟩; exact ⟨rfl, Got.of_below h hb⟩
    · cases c3 : perB by_
      · have hc : passC day G n by_ h_ v r u s = 2 := by unfold passC; rw [if_neg (fun q => q c1), c2, if_neg (by decide), c3, if_pos rfl]
        rw [hc]
        refine (Pass_per base g F w day G E n by_ h_ v r u s h hT c1.1 c1.2 c2 c3).mono ?_
        rintro e w' ⟨rfl, hb⟩; exact ⟨rfl, Got.of_below h hb⟩
      · cases c4 : rightB day G n.toNat by_ v r u s
        · have hc : passC day G n by_ h_ v r u s = 12 := by unfold passC; rw [if_neg (fun q => q c1), c2, if_neg (by decide), c3, if_neg (by decide), c4, if_pos rfl]
          rw [hc]
          refine (Pass_right base g F w day G E n by_ h_ v r u s h hT c1.1 c1.2 c2 c3 c4).mono ?_
          rintro e w' ⟨rfl, hb⟩; exact ⟨rfl, Got.of_below h hb⟩
        · by_cases c5 : 128 ≤ G.length
          · have hc : passC day G n by_ h_ v r u s = 8 := by unfold passC; rw [if_neg (fun q => q c1), c2, if_neg (by decide), c3, if_neg (by decide), c4, if_neg (by decide), if_pos c5]
            rw [hc]
            refine (Pass_full base g F w day G E n by_ h_ v r u s h hT c1.1 c1.2 c2 c3 c4 c5).mono ?_
            rintro e w' ⟨rfl, hb⟩; exact ⟨rfl, Got.of_below h hb⟩
          · have hc : passC day G n by_ h_ v r u s = 0 := by unfold passC; rw [if_neg (fun q => q c1), c2, if_neg (by decide), c3, if_neg (by decide), c4, if_neg (by decide), if_neg c5]
            rw [hc]
            refine (Pass_ok base g F w day G E n by_ h_ v r u s h hT c1.1 c1.2 c2 c3 c4 (by omega)).mono ?_
            rintro e w' ⟨rfl, hb⟩; exact ⟨rfl, hb⟩
  · have hc : passC day G n by_ h_ v r u s = 6 := by unfold passC; rw [if_pos c1]
    rw [hc]
    refine (Pass_none base g F w day G E n by_ h_ v r u s h c1).mono ?_
    rintro e w' ⟨rfl, hb⟩; exact ⟨rfl, Got.of_below h hb⟩
theorem Revoke_calls (n by_ : Int) (h : BK base F w g day G E) (hT : Tree G) : Calls Try.prog 31 #[.pointer (some ⟨g, 0, none⟩), .int .i64 n, .int .i64 by_] w fun e w' =>
    e = .returned (.tuple #[.int .i64 (if revC G n by_ = 0 then revN day G n else 0), .int .i64 (revC G n by_)]) ∧ Got base F w w' g day (if revC G n by_ = 0 then put8 G n.toNat true else G) E := by
  by_cases c1 : 1 ≤ n ∧ n ≤ G.length
  · cases c2 : perB by_
    · have hc : revC G n by_ = 2 := by unfold revC; rw [if_neg (fun q => q c1), c2, if_pos rfl]
      rw [hc]
      refine (Revoke_per base g F w day G E n by_ h hT c1.1 c1.2 c2).mono ?_
      rintro e w' ⟨rfl, hb⟩; exact ⟨rfl, Got.of_below h hb⟩
    · cases c3 : heldB G n.toNat by_
      · have hc : revC G n by_ = 12 := by unfold revC; rw [if_neg (fun q => q c1), c2, if_neg (by decide), c3, if_pos rfl]
        rw [hc]
        refine (Revoke_held base g F w day G E n by_ h hT c1.1 c1.2 c2 c3).mono ?_
        rintro e w' ⟨rfl, hb⟩; exact ⟨rfl, Got.of_below h hb⟩
      · cases c4 : revB G n.toNat
        · have hc : revC G n by_ = 0 := by unfold revC; rw [if_neg (fun q => q c1), c2, if_neg (by decide), c3, if_neg (by decide), c4, if_neg (by decide)]
          rw [hc]
          refine (Revoke_ok base g F w day G E n by_ h hT c1.1 c1.2 c2 c3 c4).mono ?_
          rintro e w' ⟨rfl, hb⟩; exact ⟨rfl, hb⟩
        · have hc : revC G n by_ = 9 := by unfold revC; rw [if_neg (fun q => q c1), c2, if_neg (by decide), c3, if_neg (by decide), c4, if_pos rfl]
          rw [hc]
          refine (Revoke_state base g F w day G E n by_ h hT c1.1 c1.2 c2 c3 c4).mono ?_
          rintro e w' ⟨rfl, hb⟩; exact ⟨rfl, Got.of_below h hb⟩
  · have hc : revC G n by_ = 6 := by unfold revC; rw [if_pos c1]
    rw [hc]
    refine (Revoke_none base g F w day G E n by_ h c1).mono ?_
    rintro e w' ⟨rfl, hb⟩; exact ⟨rfl, Got.of_below h hb⟩
theorem Next_calls (d : Int) (h : BK base F w g day G E) : Calls Try.prog 39 #[.pointer (some ⟨g, 0, none⟩), .int .i64 d] w fun e w' =>
    e = .returned (.int .i64 (nextC day d)) ∧ Got base F w w' g (if nextC day d = 0 then d else day) G E := by
  cases c1 : dayB d
  · have hc : nextC day d = 2 := by unfold nextC; rw [c1, if_pos rfl]
    rw [hc]
    refine (Next_arg base g F w day G E d h c1).mono ?_
    rintro e w' ⟨rfl, hb⟩; exact ⟨rfl, Got.of_below h hb⟩
  · by_cases c2 : d < day
    · have hc : nextC day d = 9 := by unfold nextC; rw [c1, if_neg (by decide), if_pos c2]
      rw [hc]
      refine (Next_state base g F w day G E d h c1 c2).mono ?_
      rintro e w' ⟨rfl, hb⟩; exact ⟨rfl, Got.of_below h hb⟩
    · have hc : nextC day d = 0 := by unfold nextC; rw [c1, if_neg (by decide), if_neg c2]
      rw [hc]
      refine (Next_ok base g F w day G E d h c1 c2).mono ?_
      rintro e w' ⟨rfl, hb⟩; exact ⟨rfl, hb⟩
theorem Open_calls (v a ab s sb : Int) (h : BK base F w g day G E) (hI : Inv G) : Calls Try.prog 38 #[.pointer (some ⟨g, 0, none⟩), .int .i64 v, .int .i64 a, .int .i64 ab, .int .i64 s, .int .i64 sb] w fun e w' =>
    e = .returned (.int .i64 (openC day G E v a ab s sb)) ∧ Got base F w w' g day (if openC day G E v a ab s sb = 0 then openG G a s else G) (if openC day G E v a ab s sb = 0 then E ++ [⟨day, v, a, s⟩] else E) := by
  by_cases c1 : 0 ≤ v ∧ v ≤ 15
  · by_cases c2 : keyC day G v a ab = 0
    · by_cases c3 : keyC day G v s sb = 0
      · by_cases c4 : ab = sb ∨ (gr G a.toNat).f2 = (gr G s.toNat).f2
        · have hc : openC day G E v a ab s sb = 13 := by unfold openC; rw [if_neg (fun q => q c1), if_neg (fun q => q c2), if_neg (fun q => q c3), if_pos c4]
          rw [hc]
          by_cases c5 : ab = sb
          · refine (open_same base g F w day G E v a ab s sb h hI.1 c1.1 c1.2 c2 c3 c5).mono ?_
            rintro e w' ⟨rfl, hb⟩; exact ⟨rfl, Got.of_below h hb⟩
          · refine (open_root base g F w day G E v a ab s sb h hI.1 c1.1 c1.2 c2 c3 c5 (c4.resolve_left c5)).mono ?_
            rintro e w' ⟨rfl, hb⟩; exact ⟨rfl, Got.of_below h hb⟩
        · by_cases c5 : 4096 ≤ E.length
          · have hc : openC day G E v a ab s sb = 8 := by unfold openC; rw [if_neg (fun q => q c1), if_neg (fun q => q c2), if_neg (fun q => q c3), if_neg c4, if_pos c5]
            rw [hc]
            refine (open_full base g F w day G E v a ab s sb h hI.1 c1.1 c1.2 c2 c3 (fun q => c4 (Or.inl q)) (fun q => c4 (Or.inr q)) c5).mono ?_
            rintro e w' ⟨rfl, hb⟩; exact ⟨rfl, Got.of_below h hb⟩
          · have hc : openC day G E v a ab s sb = 0 := by unfold openC; rw [if_neg (fun q => q c1), if_neg (fun q => q c2), if_neg (fun q => q c3), if_neg c4, if_neg c5]
            rw [hc]
            refine (open_ok base g F w day G E v a ab s sb h hI.1 c1.1 c1.2 c2 c3 (fun q => c4 (Or.inl q)) (fun q => c4 (Or.inr q)) (by omega) hI.us).mono ?_
            rintro e w' ⟨rfl, hb⟩; exact ⟨rfl, hb⟩
      · have hc : openC day G E v a ab s sb = keyC day G v s sb := by unfold openC; rw [if_neg (fun q => q c1), if_neg (fun q => q c2), if_pos c3]
        rw [hc, if_neg c3, if_neg c3]
        refine (open_key2 base g F w day G E v a ab s sb h hI.1 c1.1 c1.2 c2 _ rfl c3).mono ?_
        rintro e w' ⟨rfl, hb⟩; exact ⟨rfl, Got.of_below h hb⟩
    · have hc : openC day G E v a ab s sb = keyC day G v a ab := by unfold openC; rw [if_neg (fun q => q c1), if_pos c2]
      rw [hc, if_neg c2, if_neg c2]
      refine (open_key1 base g F w day G E v a ab s sb h hI.1 c1.1 c1.2 _ rfl c2).mono ?_
      rintro e w' ⟨rfl, hb⟩; exact ⟨rfl, Got.of_below h hb⟩
  · have hc : openC day G E v a ab s sb = 2 := by unfold openC; rw [if_pos c1]
    rw [hc]
    refine (open_arg base g F w day G E v a ab s sb h hI.1 c1).mono ?_
    rintro e w' ⟨rfl, hb⟩; exact ⟨rfl, Got.of_below h hb⟩
end
end Go.Proofs.Ytfnlghjkjmppdaa.PC
namespace Go.Proofs.Ytfnlghjkjmppdaa.PC
open Go.RowKit Go.Proofs.YtfnlghjkjmppdaaW.PrintWords Go.Proofs.YtfnlghjkjmppdaaW.PrintLast Go.Proofs.YtfnlghjkjmppdaaW.PrintMore
set_option linter.unusedVariables false
set_option linter.unusedSimpArgs false
theorem act_root {s : St} {a : S37} (k : kd a = 0) : actC s a = grantC s.G a.f3 a.f6 a.f7 a.f8 a.f9 ∧ stepS s a = ⟨s.day, if grantC s.G a.f3 a.f6 a.f7 a.f8 a.f9 = 0 then rootG s.G a.f3 a.f6 a.f7 a.f8 a.f9 else s.G, s.E⟩ := by
  have h : actC s a = grantC s.G a.f3 a.f6 a.f7 a.f8 a.f9 := by unfold actC; rw [if_pos k]
  refine ⟨h, ?_⟩
  unfold stepS
  rw [h]
  by_cases c : grantC s.G a.f3 a.f6 a.f7 a.f8 a.f9 = 0
  · rw [if_pos c, if_pos c, if_pos k]
  · rw [if_neg c, if_neg c]
theorem act_pass {s : St} {a : S37} (k0 : kd a ≠ 0) (k : kd a = 1 ∨ kd a = 2) : actC s a = passC s.day s.G a.f1 a.f3 a.f4 a.f6 a.f7 a.f8 a.f9 ∧ stepS s a = ⟨s.day, if passC s.day s.G a.f1 a.f3 a.f4 a.f6 a.f7 a.f8 a.f9 = 0 then passG s.G a.f1 a.f4 a.f6 a.f7 a.f8 a.f9 else s.G, s.E⟩ := by
  have h : actC s a = passC s.day s.G a.f1 a.f3 a.f4 a.f6 a.f7 a.f8 a.f9 := by unfold actC; rw [if_neg k0, if_pos k]
  refine ⟨h, ?_⟩
  unfold stepS
  rw [h]
  by_cases c : passC s.day s.G a.f1 a.f3 a.f4 a.f6 a.f7 a.f8 a.f9 = 0
  · rw [if_pos c, if_pos c, if_neg k0, if_pos k]
  · rw [if_neg c, if_neg c]
theorem act_revoke {s : St} {a : S37} (k : kd a = 3) : actC s a = revC s.G a.f1 a.f3 ∧ stepS s a = ⟨s.day, if revC s.G a.f1 a.f3 = 0 then put8 s.G a.f1.toNat true else s.G, s.E⟩ := by
  have k0 : kd a ≠ 0 := by omega
  have k1 : ¬ (kd a = 1 ∨ kd a = 2) := by omega
  have h : actC s a = revC s.G a.f1 a.f3 := by unfold actC; rw [if_neg k0, if_neg k1, if_pos k]
  refine ⟨h, ?_⟩
  unfold stepS
  rw [h]
  by_cases c : revC s.G a.f1 a.f3 = 0
  · rw [if_pos c, if_pos c, if_neg k0, if_neg k1, if_pos k]
  · rw [if_neg c, if_neg c]
theorem act_next {s : St} {a : S37} (k : kd a = 7) : actC s a = nextC s.day a.f10 ∧ stepS s a = ⟨if nextC s.day a.f10 = 0 then a.f10 else s.day, s.G, s.E⟩ := by
  have k0 : kd a ≠ 0 := by omega
  have k1 : ¬ (kd a = 1 ∨ kd a = 2) := by omega
  have k3 : kd a ≠ 3 := by omega
  have h : actC s a = nextC s.day a.f10 := by unfold actC; rw [if_neg k0, if_neg k1, if_neg k3, if_pos k]
  refine ⟨h, ?_⟩
  unfold stepS
  rw [h]
  by_cases c : nextC s.day a.f10 = 0
  · rw [if_pos c, if_pos c, if_neg k0, if_neg k1, if_neg k3, if_pos k]
  · rw [if_neg c, if_neg c]
theorem act_open {s : St} {a : S37} (k0 : kd a ≠ 0) (k1 : ¬ (kd a = 1 ∨ kd a = 2)) (k3 : kd a ≠ 3) (k7 : kd a ≠ 7) : actC s a = openC s.day s.G s.E a.f10 a.f1 a.f3 a.f2 a.f4 ∧
    stepS s a = ⟨s.day, if openC s.day s.G s.E a.f10 a.f1 a.f3 a.f2 a.f4 = 0 then openG s.G a.f1 a.f2 else s.G, if openC s.day s.G s.E a.f10 a.f1 a.f3 a.f2 a.f4 = 0 then s.E ++ [⟨s.day, a.f10, a.f1, a.f2⟩] else s.E⟩ := by
  have h : actC s a = openC s.day s.G s.E a.f10 a.f1 a.f3 a.f2 a.f4 := by unfold actC; rw [if_neg k0, if_neg k1, if_neg k3, if_neg k7]
  refine ⟨h, ?_⟩
  unfold stepS
  rw [h]
  by_cases c : openC s.day s.G s.E a.f10 a.f1 a.f3 a.f2 a.f4 = 0
  · rw [if_pos c, if_pos c, if_pos c, if_neg k0, if_neg k1, if_neg k3, if_neg k7]
  · rw [if_neg c, if_neg c, if_neg c]
theorem cells11 {W : World} {b : Nat} {v0 v1 v2 v3 v4 v5 v6 v7 v8 v9 v10 : Value} {ty : Nat} (h : W.heap[b]? = some (.cells #[v0, v1, v2, v3, v4, v5, v6, v7, v8, v9, v10] ty)) : W.cell? ⟨b, 0, none⟩ = some v0 ∧ W.cell? ⟨b, 1, none⟩ = some v1 ∧ W.cell? ⟨b, 2, none⟩ = some v2 ∧ W.cell? ⟨b, 3, none⟩ = some v3 ∧ W.cell? ⟨b, 4, none⟩ = some v4 ∧ W.cell? ⟨b, 5, none⟩ = some v5 ∧ W.cell? ⟨b, 6, none⟩ = some v6 ∧ W.cell? ⟨b, 7, none⟩ = some v7 ∧ W.cell? ⟨b, 8, none⟩ = some v8 ∧ W.cell? ⟨b, 9, none⟩ = some v9 ∧ W.cell? ⟨b, 10, none⟩ = some v10 :=
  ⟨by rw [blk_cell h 0]; rfl, by rw [blk_cell h 1]; rfl, by rw [blk_cell h 2]; rfl, by rw [blk_cell h 3]; rfl, by rw [blk_cell h 4]; rfl, by rw [blk_cell h 5]; rfl, by rw [blk_cell h 6]; rfl, by rw [blk_cell h 7]; rfl, by rw [blk_cell h 8]; rfl, by rw [blk_cell h 9]; rfl, by rw [blk_cell h 10]; rfl⟩
theorem tup_any {e : Ending} {a b : Int} (h : e = .returned (.tuple #[.int .i64 a, .int .i64 b])) : ∃ x y : Int, x = a ∧ y = b ∧ e = .returned (.tuple #[.int .i64 x, .int .i64 y]) := ⟨a, b, rfl, rfl, h⟩
theorem one_any {e : Ending} {b : Int} (h : e = .returned (.int .i64 b)) : ∃ y : Int, y = b ∧ e = .returned (.int .i64 y) := ⟨b, rfl, h⟩
/-- A state in memory. -/
def Bk (base : Nat) (F : Nat → Prop) (w : World) (g : Nat) (s : St) : Prop := BK base F w g s.day s.G s.E
def Gt (base : Nat) (F : Nat → Prop) (w w' : World) (g : Nat) (s : St) : Prop := Got base F w w' g s.day s.G s.E
theorem act_calls (base g : Nat) (F : Nat → Prop) (w : World) (s : St) (a : S37) (h : Bk base F w g s) (hI : Inv s.G) (hk : 0 ≤ a.f0 ∧ a.f0 < 256) : Calls Try.prog 20 #[.pointer (some ⟨g, 0, none⟩), .agg #[.int .u8 a.f0, .int .i64 a.f1, .int .i64 a.f2, .int .i64 a.f3, .int .i64 a.f4, .int .i64 a.f5, .int .i64 a.f6, .int .i64 a.f7, .int .i64 a.f8, .int .i64 a.f9, .int .i64 a.f10]] w fun e w' => e = .returned (.int .i64 (actC s a)) ∧ Gt base F w w' g (stepS s a) := by
  have hu70 := Try.underlying70
  have hu37 := Try.underlying37
  have HBK := lhid (show BK base F w g s.day s.G s.E from h)
  have HI := lhid hI
  have HT := lhid hI.1
  have hk0 : 0 ≤ a.f0 := hk.1
  have hk1 : a.f0 < 256 := hk.2
  obtain ⟨k, hkk⟩ : ∃ k, k = a.f0 % 8 := ⟨_, rfl⟩
  have HK := lhid (show kd a = k from hkk.symm)
  clear h hI hk
  have HB_1 := lhid (Below.refl w.heap.size w)
  go_enter Try.func20, Try.ntmps20
  go_upto_region 1 with (fail)
  have hb := below_alloc (Below.refl w.heap.size w) (.cells #[.int .u8 a.f0, .int .i64 a.f1, .int .i64 a.f2, .int .i64 a.f3, .int .i64 a.f4, .int .i64 a.f5, .int .i64 a.f6, .int .i64 a.f7, .int .i64 a.f8, .int .i64 a.f9, .int .i64 a.f10] 37)
  have hn := blk_new w (.cells #[.int .u8 a.f0, .int .i64 a.f1, .int .i64 a.f2, .int .i64 a.f3, .int .i64 a.f4, .int .i64 a.f5, .int .i64 a.f6, .int .i64 a.f7, .int .i64 a.f8, .int .i64 a.f9, .int .i64 a.f10] 37)
  have HZ1 := lhid (show (World.alloc w (.cells #[.int .u8 a.f0, .int .i64 a.f1, .int .i64 a.f2, .int .i64 a.f3, .int .i64 a.f4, .int .i64 a.f5, .int .i64 a.f6, .int .i64 a.f7, .int .i64 a.f8, .int .i64 a.f9, .int .i64 a.f10] 37)).heap.size = w.heap.size + 1 from by simp)
  generalize hq : World.alloc w (.cells #[.int .u8 a.f0, .int .i64 a.f1, .int .i64 a.f2, .int .i64 a.f3, .int .i64 a.f4, .int .i64 a.f5, .int .i64 a.f6, .int .i64 a.f7, .int .i64 a.f8, .int .i64 a.f9, .int .i64 a.f10] 37) = w1 at hb hn HZ1 ⊢
  clear hq
  have HBK_2 := lhid (HBK.out.next hb)
  have HB_3 := lhid (below_then HB_1.out HB_1.out.size hb)
  clear HBK HB_1 hb
  have XB_4 := lhid (hn)
  clear hn
  obtain ⟨xb, hxb⟩ : ∃ q, q = w.heap.size := ⟨_, rfl⟩
  rw [← hxb] at XB_4 ⊢
  clear hxb
  obtain ⟨y0, y1, y2, y3, y4, y5, y6, y7, y8, y9, y10⟩ := cells11 XB_4.out
  go_upto_region 4 with (fail)
  rw [← hkk]
  have hkb : 0 ≤ k ∧ k < 8 := by omega
  clear hkk
  by_cases k0 : k = 0
  · have d0 : (k == 0) = true := beq_iff_eq.mpr k0
    go_wp2_with fail
    with_reducible refine (Grant_calls base g F w1 s.day s.G s.E a.f3 a.f6 a.f7 a.f8 a.f9 HBK_2.out).mono ?_
    rintro e w9 ⟨he, hg⟩
    obtain ⟨x, y, hx, hy, rfl⟩ := tup_any he
    clear hx he
    have HY := lhid hy
    clear hy
    have HG := lhid (Got.pre HB_3.out hg)
    clear hg
    go_wp2_with fail
    go_ret
    obtain ⟨q1, q2⟩ := act_root (s := s) (HK.out.trans k0)
    exact ⟨by rw [q1, ← HY.out]; rfl, by rw [q2]; exact HG.out⟩
  · have d0 : (k == 0) = false := beq_eq_false_iff_ne.mpr k0
    by_cases k1 : k = 1
    · have d1 : (k == 1) = true := beq_iff_eq.mpr k1
      go_wp2_with fail
      with_reducible refine (Pass_calls base g F w1 s.day s.G s.E a.f1 a.f3 a.f4 a.f6 a.f7 a.f8 a.f9 HBK_2.out HT.out).mono ?_
      rintro e w9 ⟨he, hg⟩
      obtain ⟨x, y, hx, hy, rfl⟩ := tup_any he
      clear hx he
      have HY := lhid hy
      clear hy
      have HG := lhid (Got.pre HB_3.out hg)
      clear hg
      go_wp2_with fail
      go_ret
      obtain ⟨q1, q2⟩ := act_pass (s := s) (by rw [HK.out]; exact k0) (Or.inl (HK.out.trans k1))
      exact ⟨by rw [q1, ← HY.out]; rfl, by rw [q2]; exact HG.out⟩
    · have d1 : (k == 1) = false := beq_eq_false_iff_ne.mpr k1
      by_cases k2 : k = 2
      · have d2 : (k == 2) = true := beq_iff_eq.mpr k2
        go_wp2_with fail
        with_reducible refine (Pass_calls base g F w1 s.day s.G s.E a.f1 a.f3 a.f4 a.f6 a.f7 a.f8 a.f9 HBK_2.out HT.out).mono ?_
        rintro e w9 ⟨he, hg⟩
        obtain ⟨x, y, hx, hy, rfl⟩ := tup_any he
        clear hx he
        have HY := lhid hy
        clear hy
        have HG := lhid (Got.pre HB_3.out hg)
        clear hg
        go_wp2_with fail
        go_ret
        obtain ⟨q1, q2⟩ := act_pass (s := s) (by rw [HK.out]; exact k0) (Or.inr (HK.out.trans k2))
        exact ⟨by rw [q1, ← HY.out]; rfl, by rw [q2]; exact HG.out⟩
      · have d2 : (k == 2) = false := beq_eq_false_iff_ne.mpr k2
        by_cases k3 : k = 3
        · have d3 : (k == 3) = true := beq_iff_eq.mpr k3
          go_wp2_with fail
          with_reducible refine (Revoke_calls base g F w1 s.day s.G s.E a.f1 a.f3 HBK_2.out HT.out).mono ?_
          rintro e w9 ⟨he, hg⟩
          obtain ⟨x, y, hx, hy, rfl⟩ := tup_any he
          clear hx he
          have HY := lhid hy
          clear hy
          have HG := lhid (Got.pre HB_3.out hg)
          clear hg
          go_wp2_with fail
          go_ret
          obtain ⟨q1, q2⟩ := act_revoke (s := s) (HK.out.trans k3)
          exact ⟨by rw [q1, ← HY.out]; rfl, by rw [q2]; exact HG.out⟩
        · have d3 : (k == 3) = false := beq_eq_false_iff_ne.mpr k3
          by_cases k7 : k = 7
          · have d7 : (k == 7) = true := beq_iff_eq.mpr k7
            go_wp2_with fail
            with_reducible refine (Next_calls base g F w1 s.day s.G s.E a.f10 HBK_2.out).mono ?_
            rintro e w9 ⟨he, hg⟩
            obtain ⟨y, hy, rfl⟩ := one_any he
            clear he
            have HY := lhid hy
            clear hy
            have HG := lhid (Got.pre HB_3.out hg)
            clear hg
            go_wp2_with fail
            go_ret
            obtain ⟨q1, q2⟩ := act_next (s := s) (HK.out.trans k7)
            exact ⟨by rw [q1, ← HY.out]; rfl, by rw [q2]; exact HG.out⟩
          · have d7 : (k == 7) = false := beq_eq_false_iff_ne.mpr k7
            go_wp2_with fail
            with_reducible refine (Open_calls base g F w1 s.day s.G s.E a.f10 a.f1 a.f3 a.f2 a.f4 HBK_2.out HI.out).mono ?_
            rintro e w9 ⟨he, hg⟩
            obtain ⟨y, hy, rfl⟩ := one_any he
            clear he
            have HY := lhid hy
            clear hy
            have HG := lhid (Got.pre HB_3.out hg)
            clear hg
            go_wp2_with fail
            go_ret
            obtain ⟨q1, q2⟩ := act_open (s := s) (by rw [HK.out]; exact k0) (by rw [HK.out]; omega) (by rw [HK.out]; exact k3) (by rw [HK.out]; exact k7)
            exact ⟨by rw [q1, ← HY.out]; rfl, by rw [q2]; exact HG.out⟩
end Go.Proofs.Ytfnlghjkjmppdaa.PC
namespace Go.Proofs.Ytfnlghjkjmppdaa.PC
open Go.RowKit Go.Proofs.YtfnlghjkjmppdaaW.PrintWords Go.Proofs.YtfnlghjkjmppdaaW.PrintLast Go.Proofs.YtfnlghjkjmppdaaW.PrintMore
set_option linter.unusedVariables false
set_option linter.unusedSimpArgs false
/-- A book in memory of one's own (from base on); what is below base is as it was. -/
def Has (base : Nat) (w0 w : World) (g : Nat) (s : St) : Prop := (∃ F, BK base F w g s.day s.G s.E) ∧ Below base w0 w ∧ base ≤ w0.heap.size
theorem Has.next {base : Nat} {w0 w w' : World} {g : Nat} {s : St} (h : Has base w0 w g s) (hb : Below w.heap.size w w') : Has base w0 w' g s := by
  obtain ⟨⟨F, h1⟩, h2, h3⟩ := h
  exact ⟨⟨F, h1.next hb⟩, below_then h2 h1.size hb, h3⟩
theorem Has.got {base : Nat} {F : Nat → Prop} {w0 w w' : World} {g : Nat} {day : Int} {G : List S39} {E : List S44} (h1 : BK base F w g day G E) (h2 : Below base w0 w) (h3 : base ≤ w0.heap.size) {day' : Int} {G' : List S39} {E' : List S44} (hg : Got base F w w' g day' G' E') : Has base w0 w' g ⟨day', G', E'⟩ := by
  obtain ⟨F', m1, m2, m3⟩ := hg
  exact ⟨⟨F', m1⟩, h2.trans (m3.below h1.size (fun k q => (h1.fb k q).1)), h3⟩
theorem new_has (w : World) : Calls Try.prog 14 #[] w fun e w' => ∃ g, e = .returned (.pointer (some ⟨g, 0, none⟩)) ∧ Has w.heap.size w w' g ⟨0, [], []⟩ := by
  refine (new_calls w).mono ?_
  rintro e w' ⟨g, rfl, hg, hb, hw⟩
  exact ⟨g, rfl, ⟨_, hb⟩, hw, Nat.le_refl _⟩
theorem nil_inv : Inv [] := ⟨⟨by simp, fun n h1 h2 => by simp at h2; omega⟩, fun n h1 h2 => by simp at h2; omega⟩
def G1 : List S39 := [⟨1, 0, 1, 0, 1, 3, 9, 2, false⟩]
def G2 : List S39 := [⟨1, 0, 1, 0, 1, 3, 9, 2, false⟩, ⟨2, 0, 2, 1, 1, 1, 9, -1, false⟩]
def G3 : List S39 := [⟨1, 0, 1, 0, 1, 3, 9, 1, false⟩, ⟨2, 0, 2, 1, 1, 1, 9, -1, false⟩]
theorem g1_c : grantC [] 0 1 3 9 2 = 0 := by decide
theorem g1_g : rootG [] 0 1 3 9 2 = G1 := rfl
theorem g2_c : grantC G1 1 1 1 9 (-1) = 0 := by decide
theorem g2_g : rootG G1 1 1 1 9 (-1) = G2 := rfl
theorem inv1 : Inv G1 := by have := inv_root nil_inv g1_c; rwa [g1_g] at this
theorem inv2 : Inv G2 := by have := inv_root inv1 g2_c; rwa [g2_g] at this
theorem up_root {G : List S39} (hT : Tree G) {n : Nat} (h1 : 1 ≤ n) (h2 : n ≤ G.length) (h : (gr G n).f1 = 0) : up G n = [n] := by
  rw [up_succ hT h1 h2, h]; show n :: up G 0 = _; rw [up_zero]
theorem up21 : up G2 1 = [1] := up_root inv2.1 (by decide) (by decide) rfl
theorem up22 : up G2 2 = [2] := up_root inv2.1 (by decide) (by decide) rfl
theorem o3_c : openC 0 G2 [] 0 1 0 2 1 = 0 := by
  have k1 : keyC 0 G2 0 1 0 = 0 := by unfold keyC badB stB revB spB; rw [show ((1 : Int)).toNat = 1 from rfl, up21]; decide +kernel
  have k2 : keyC 0 G2 0 2 1 = 0 := by unfold keyC badB stB revB spB; rw [show ((2 : Int)).toNat = 2 from rfl, up22]; decide +kernel
  unfold openC; rw [k1, k2]; decide +kernel
theorem o3_g : openG G2 1 2 = G3 := by
  unfold openG; rw [show ((1 : Int)).toNat = 1 from rfl, show ((2 : Int)).toNat = 2 from rfl, up21, up22]; rfl
theorem inv3 : Inv G3 := by have := inv_open inv2 o3_c; rwa [o3_g] at this
theorem up31 : up G3 1 = [1] := up_root inv3.1 (by decide) (by decide) rfl
theorem o4_c (E : List S44) : openC 0 G3 E 0 1 0 1 0 = 13 := by
  have k1 : keyC 0 G3 0 1 0 = 0 := by unfold keyC badB stB revB spB; rw [show ((1 : Int)).toNat = 1 from rfl, up31]; decide +kernel
  unfold openC; rw [k1]; simp
theorem c2_s : couldS 0 G2 3 = 1 := by
  have s1 : servB 0 G2 3 1 = true := by unfold servB stB revB spB; rw [up21]; decide +kernel
  have s2 : servB 0 G2 3 2 = true := by unfold servB stB revB spB; rw [up22]; decide +kernel
  unfold couldS
  rw [show G2.length = 1 + 1 from rfl, keysS_yes s2, show (1 : Nat) = 0 + 1 from rfl, keysS_yes s1]
  decide +kernel
theorem alive_calls (w : World) : Calls Try.prog 17 #[] w fun e w' => e = .returned (.bool true) ∧ Below w.heap.size w w' := by
  have HB_1 := lhid (Below.refl w.heap.size w)
  go_enter Try.func17, Try.ntmps17
  go_wp2_with fail
  with_reducible refine (new_has w).mono ?_
  rintro e w1 ⟨g, rfl, h1⟩
  have HS0 := lhid h1
  clear h1
  go_wp2_with fail
  obtain ⟨⟨F, hk⟩, hb, hz⟩ := HS0.out
  with_reducible refine (Grant_calls w.heap.size g F w1 _ _ _ 0 1 3 9 2 hk).mono ?_
  rintro e w2 ⟨rfl, hg⟩
  rw [g1_c, if_pos rfl, g1_g] at hg
  rw [g1_c, if_pos rfl]
  have HS_2 := lhid (Has.got hk hb hz hg)
  clear hk hb hz hg HS0
  go_wp2_with fail
  obtain ⟨⟨F, hk⟩, hb, hz⟩ := HS_2.out
  with_reducible refine (Grant_calls w.heap.size g F w2 _ _ _ 1 1 1 9 (-1) hk).mono ?_
  rintro e w3 ⟨rfl, hg⟩
  rw [g2_c, if_pos rfl, g2_g] at hg
  rw [g2_c, if_pos rfl]
  have HS_3 := lhid (Has.got hk hb hz hg)
  clear hk hb hz hg HS_2
  simp only [show ((G1.length : Nat) : Int) + 1 = 2 from rfl]
  go_wp2_with fail
  obtain ⟨⟨F, hk⟩, hb, hz⟩ := HS_3.out
  with_reducible refine (could_ok w.heap.size g F w3 0 G2 [] 3 hk inv2 (by decide) (by decide)).mono ?_
  rintro e w4 ⟨rfl, hb9⟩
  rw [c2_s]
  have HS_4 := lhid (HS_3.out.next hb9)
  clear hk hb hz hb9 HS_3
  go_wp2_with fail
  obtain ⟨⟨F, hk⟩, hb, hz⟩ := HS_4.out
  have hGet := Get_ok w.heap.size g F w4 0 G2 [] 1 hk (by decide) (by decide) (by decide)
  rw [show ((1 : Nat) : Int) = 1 from rfl] at hGet
  with_reducible refine hGet.mono ?_
  clear hGet
  rintro e w5 ⟨rfl, hb9⟩
  have HS_5 := lhid (HS_4.out.next hb9)
  clear hk hb hz hb9 HS_4
  simp only [show gr G2 1 = ⟨1, 0, 1, 0, 1, 3, 9, 2, false⟩ from rfl]
  go_upto_region 8 with (fail)
  have hb := below_alloc (Below.refl w5.heap.size w5) (.cells #[.int .i64 1, .int .i64 0, .int .i64 1, .int .i64 0, .int .i64 1, .int .i64 3, .int .i64 9, .int .i64 2, .bool false] 39)
  have hn := blk_new w5 (.cells #[.int .i64 1, .int .i64 0, .int .i64 1, .int .i64 0, .int .i64 1, .int .i64 3, .int .i64 9, .int .i64 2, .bool false] 39)
  have HZ6 := lhid (show (World.alloc w5 (.cells #[.int .i64 1, .int .i64 0, .int .i64 1, .int .i64 0, .int .i64 1, .int .i64 3, .int .i64 9, .int .i64 2, .bool false] 39)).heap.size = w5.heap.size + 1 from by simp)
  generalize hq : World.alloc w5 (.cells #[.int .i64 1, .int .i64 0, .int .i64 1, .int .i64 0, .int .i64 1, .int .i64 3, .int .i64 9, .int .i64 2, .bool false] 39) = w6 at hb hn HZ6 ⊢
  clear hq
  have HS_6 := lhid (HS_5.out.next hb)
  clear HS_5 hb
  have XB_7 := lhid (hn)
  clear hn
  obtain ⟨xb, hxb⟩ : ∃ q, q = w5.heap.size := ⟨_, rfl⟩
  rw [← hxb] at XB_7 ⊢
  clear hxb
  obtain ⟨hx0, hx1, hx2, hx3, hx4, hx5, hx6, hx7, hx8⟩ := nine XB_7.out
  go_wp2_with fail
  obtain ⟨⟨F, hk⟩, hb, hz⟩ := HS_6.out
  with_reducible refine (Open_calls w.heap.size g F w6 0 G2 [] 0 1 0 2 1 hk inv2).mono ?_
  rintro e w7 ⟨rfl, hg⟩
  rw [o3_c, if_pos rfl, if_pos rfl, o3_g] at hg
  rw [o3_c]
  have HS_8 := lhid (Has.got hk hb hz hg)
  clear hk hb hz hg HS_6
  clear hx0 hx1 hx2 hx3 hx4 hx5 hx6 hx7 hx8
  go_wp2_with fail
  obtain ⟨⟨F, hk⟩, hb, hz⟩ := HS_8.out
  with_reducible refine (Open_calls w.heap.size g F w7 0 G3 ([] ++ [⟨0, 0, 1, 2⟩]) 0 1 0 1 0 hk inv3).mono ?_
  rintro e w8 ⟨rfl, hg⟩
  rw [o4_c, if_neg (by decide), if_neg (by decide)] at hg
  rw [o4_c]
  have HS_9 := lhid (Has.got hk hb hz hg)
  clear hk hb hz hg HS_8
  go_wp2_with fail
  obtain ⟨⟨F, hk⟩, hb, hz⟩ := HS_9.out
  with_reducible refine (entries_calls w.heap.size g F w8 0 G3 ([] ++ [⟨0, 0, 1, 2⟩]) hk (by decide)).mono ?_
  rintro e w9 ⟨vE, rfl, hR, hb9⟩
  obtain ⟨AE, cE, rfl⟩ := Kd.R_slice hR
  have HS9 := lhid (HS_9.out.next hb9)
  clear hk hb hz hb9 hR
  simp only [show ([] ++ [(⟨0, 0, 1, 2⟩ : S44)]).length = 1 from rfl]
  go_wp2_with fail
  go_ret
  exact ⟨rfl, HS9.out.2.1⟩
end Go.Proofs.Ytfnlghjkjmppdaa.PC
namespace Go.Proofs.Ytfnlghjkjmppdaa.PC
open Go.RowKit Go.Proofs.YtfnlghjkjmppdaaW.PrintWords Go.Proofs.YtfnlghjkjmppdaaW.PrintLast Go.Proofs.YtfnlghjkjmppdaaW.PrintMore
set_option linter.unusedVariables false
set_option linter.unusedSimpArgs false
def s0 : St := ⟨0, [], []⟩
def runS (s : St) (l : List S37) : St := l.foldl stepS s
theorem runS_take (s : St) (l : List S37) (i : Nat) (h : i < l.length) : runS s (l.take (i + 1)) = stepS (runS s (l.take i)) (l.getD i z37) := by
  unfold runS
  rw [List.take_succ_eq_append_getElem h, List.foldl_append, List.getD_eq_getElem?_getD, List.getElem?_eq_getElem h]; rfl
theorem run_inv {s : St} (h : Inv s.G) (l : List S37) : Inv (runS s l).G := by
  unfold runS
  induction l generalizing s with
  | nil => exact h
  | cons a l ih => rw [List.foldl_cons]; exact ih (step_inv h a)
theorem foldl_use_len (ms : List Nat) (G : List S39) : (ms.foldl use1 G).length = G.length := uses_len ms G
theorem step_len (s : St) (a : S37) : (stepS s a).G.length ≤ s.G.length + 1 ∧ s.G.length ≤ (stepS s a).G.length ∧ (stepS s a).E.length ≤ s.E.length + 1 ∧ s.E.length ≤ (stepS s a).E.length := by
  unfold stepS
  by_cases c : actC s a = 0
  · rw [if_pos c]
    by_cases k0 : kd a = 0
    · rw [if_pos k0]; simp [rootG]
    · rw [if_neg k0]
      by_cases k1 : kd a = 1 ∨ kd a = 2
      · rw [if_pos k1]; simp [passG]
      · rw [if_neg k1]
        by_cases k3 : kd a = 3
        · rw [if_pos k3]; simp [put8_len]
        · rw [if_neg k3]
          by_cases k7 : kd a = 7
          · rw [if_pos k7]; simp
          · rw [if_neg k7]; simp [openG, uses_len]
  · rw [if_neg c]; simp
theorem run_len (l : List S37) : ∀ s : St, (runS s l).G.length ≤ s.G.length + l.length ∧ (runS s l).E.length ≤ s.E.length + l.length := by
  unfold runS
  induction l with
  | nil => intro s; simp
  | cons a l ih =>
    intro s
    rw [List.foldl_cons]
    have h1 := ih (stepS s a)
    have h2 := step_len s a
    simp only [List.length_cons]
    omega
theorem mem_getD {l : List S37} {i : Nat} (h : i < l.length) : l.getD i z37 ∈ l := by
  rw [List.getD_eq_getElem?_getD, List.getElem?_eq_getElem h]; exact List.getElem_mem h
set_option maxHeartbeats 3200000 in
set_option maxRecDepth 100000 in
theorem book_calls (w : World) (A : Option Addr) (c : Nat) (l : List S37) (hC : Kd.C k37 w A l.length l) (hc : l.length ≤ c) (hl : l.length ≤ 40) (hk : ∀ x ∈ l, 0 ≤ x.f0 ∧ x.f0 < 256) : Calls Try.prog 23 #[.slice A l.length c] w fun e w' => ∃ g, e = .returned (.pointer (some ⟨g, 0, none⟩)) ∧ Has w.heap.size w w' g (runS s0 l) := by
  have hu30 := Try.underlying30
  have hu37 := Try.underlying37
  have HC := lhid hC
  have HK := lhid hk
  clear hC hk
  go_enter Try.func23, Try.ntmps23
  go_wp2_with fail
  with_reducible refine (new_has w).mono ?_
  rintro e w1 ⟨g, rfl, h1⟩
  have HS0 := lhid (show Has w.heap.size w w1 g (runS s0 (l.take 0)) from h1)
  clear h1
  go_upto_region 3 with (fail)
  go_loopw [4] (fun t wr => ∃ i : Nat, i ≤ l.length ∧ t = .int .i64 i ∧ Hid (Has w.heap.size w wr g (runS s0 (l.take i)))) (fun t _ => l.length - (intOf t).toNat)
  case atStart => exact ⟨0, Nat.zero_le _, rfl, HS0⟩
  case round =>
    obtain ⟨i, hi, rfl, HSr⟩ := hrel
    clear HS0
    by_cases hlt : i < l.length
    · have hlt2 : (i : Int) < (l.length : Int) := by omega
      obtain ⟨⟨F, hk⟩, hb, hz⟩ := HSr.out
      have hs := mem_getD hlt
      obtain ⟨ad, eA, x0, x1, x2, x3, x4, x5, x6, x7, x8, x9, x10⟩ := at_T37 (Kd.C_below HC.out hb) (i : Int) (by omega) (by omega)
      subst eA
      simp only [rd_T37, Int.toNat_natCast] at x0 x1 x2 x3 x4 x5 x6 x7 x8 x9 x10
      obtain ⟨x, hx⟩ : ∃ x, x = l.getD i z37 := ⟨_, rfl⟩
      rw [← hx] at x0 x1 x2 x3 x4 x5 x6 x7 x8 x9 x10 hs
      have HX := lhid hx
      have HBX := lhid (And.intro (show Bk w.heap.size F wr g (runS s0 (l.take i)) from hk) hb)
      have HKX := lhid (HK.out x hs)
      have hzz := hz
      clear hx hk hb hs hz
      go_wp2_with fail
      with_reducible refine (act_calls w.heap.size g F wr (runS s0 (l.take i)) x HBX.out.1 (run_inv nil_inv _) HKX.out).mono ?_
      rintro e w3 ⟨he, hg⟩
      obtain ⟨y, hy, rfl⟩ := one_any he
      clear hy he
      have HS3 := lhid (show Has w.heap.size w w3 g (runS s0 (l.take (i + 1))) from by rw [runS_take s0 l i hlt, ← HX.out]; exact Has.got HBX.out.1 HBX.out.2 hzz hg)
      clear hg
      go_wp2_with fail
      go_roundw
      case rel => exact ⟨i + 1, by omega, by simp, HS3⟩
      case measure => simp [intOf]; omega
    · have hie : i = l.length := by omega
      subst hie
      have hlt2 : ¬ (l.length : Int) < (l.length : Int) := by omega
      rw [List.take_length] at HSr
      go_wp2_with fail
      go_ret
      exact ⟨g, rfl, HSr.out⟩
theorem take_gr (G : List S39) (i : Nat) (h : i < G.length) : G.take (i + 1) = G.take i ++ [gr G (i + 1)] := by
  have e := gr_get G (i + 1) (by omega) (by omega)
  rw [show i + 1 - 1 = i by omega, List.getElem?_eq_getElem h] at e
  rw [List.take_succ_eq_append_getElem h, Option.some.inj e]
set_option maxHeartbeats 3200000 in
set_option maxRecDepth 100000 in
theorem grants_calls (base g : Nat) (F : Nat → Prop) (w : World) (day : Int) (G : List S39) (E : List S44) (h : BK base F w g day G E) (hT : Tree G) : Calls Try.prog 19 #[.pointer (some ⟨g, 0, none⟩)] w fun e w' => ∃ v, e = .returned v ∧ Kd.R k39 39 w' w.heap.size (fun _ => True) v G ∧ Below w.heap.size w w' := by
  have hu39 := Try.underlying39
  have HBK := lhid h
  have hT1 := hT.1
  have HB0 := lhid (Below.refl w.heap.size w)
  have HR0 := lhid (show Kd.R k39 39 w w.heap.size (fun _ => True) (.slice none 0 0) (G.take 0) from Kd.R_nil k39 39 w w.heap.size (fun _ => True))
  clear h hT
  go_enter Try.func19, Try.ntmps19
  go_upto_region 3 with (fail)
  go_loopw [3, 4] (fun v t wr => ∃ i : Nat, i ≤ G.length ∧ t = .int .i64 ((i : Int) + 1) ∧ Hid (Kd.R k39 39 wr w.heap.size (fun _ => True) v (G.take i)) ∧ Hid (Below w.heap.size w wr)) (fun _ t _ => G.length + 1 - (intOf t).toNat)
  case atStart => exact ⟨0, Nat.zero_le _, rfl, HR0, HB0⟩
  case round =>
    obtain ⟨i, hi, rfl, HRr, HBr⟩ := hrel
    clear HR0 HB0
    obtain ⟨A, c, rfl⟩ := Kd.R_slice HRr.out
    have htl : (G.take i).length = i := by rw [List.length_take]; omega
    rw [htl] at HRr ⊢
    clear htl
    by_cases hlt : i < G.length
    · have hd : decide ((i : Int) + 1 ≤ 128) = true := decide_eq_true (by omega)
      have hlt2 : (i : Int) < (G.length : Int) := by omega
      have hGet := Get_ok base g F wr day G E (i + 1) (HBK.out.next HBr.out) (by omega) (by omega) (by omega)
      rw [show ((i + 1 : Nat) : Int) = (i : Int) + 1 by omega] at hGet
      have HGet := lhid hGet
      clear hGet
      obtain ⟨x, hx⟩ : ∃ x, x = gr G (i + 1) := ⟨_, rfl⟩
      rw [← hx] at HGet
      have HX := lhid hx
      clear hx
      go_wp2_with fail
      with_reducible refine (HGet.out).mono ?_
      rintro e w11 ⟨rfl, hb⟩
      have HR_1 := lhid (Kd.R_below HRr.out hb)
      have HB_2 := lhid (below_then HBr.out HBr.out.size hb)
      clear HRr HBr hb
      clear HGet
      go_upto_region 6 with (fail)
      try any_goals (exfalso; omega)
      have hb := below_alloc (Below.refl w11.heap.size w11) (.cells #[.int .i64 x.f0, .int .i64 x.f1, .int .i64 x.f2, .int .i64 x.f3, .int .i64 x.f4, .int .i64 x.f5, .int .i64 x.f6, .int .i64 x.f7, .bool x.f8] 39)
      have hn := blk_new w11 (.cells #[.int .i64 x.f0, .int .i64 x.f1, .int .i64 x.f2, .int .i64 x.f3, .int .i64 x.f4, .int .i64 x.f5, .int .i64 x.f6, .int .i64 x.f7, .bool x.f8] 39)
      have HZ12 := lhid (show (World.alloc w11 (.cells #[.int .i64 x.f0, .int .i64 x.f1, .int .i64 x.f2, .int .i64 x.f3, .int .i64 x.f4, .int .i64 x.f5, .int .i64 x.f6, .int .i64 x.f7, .bool x.f8] 39)).heap.size = w11.heap.size + 1 from by simp)
      generalize hq : World.alloc w11 (.cells #[.int .i64 x.f0, .int .i64 x.f1, .int .i64 x.f2, .int .i64 x.f3, .int .i64 x.f4, .int .i64 x.f5, .int .i64 x.f6, .int .i64 x.f7, .bool x.f8] 39) = w12 at hb hn HZ12 ⊢
      clear hq
      have HR_3 := lhid (Kd.R_below HR_1.out hb)
      have HB_4 := lhid (below_then HB_2.out HB_2.out.size hb)
      clear HR_1 HB_2 hb
      have XB_5 := lhid (hn)
      clear hn
      obtain ⟨xb, hxb⟩ : ∃ q, q = w11.heap.size := ⟨_, rfl⟩
      rw [← hxb] at XB_5 ⊢
      clear hxb
      obtain ⟨hx0, hx1, hx2, hx3, hx4, hx5, hx6, hx7, hx8⟩ := nine XB_5.out
      go_wp2_with (first | ((with_reducible refine gate_builtin (b := .append) (xs := #[.tmp 19, .tmp 21]) rfl ?_); at_builtin; refine Kd.R_append k39 (w0 := w) w.heap.size rfl (.tmp 19) (.tmp 21) 33 39 (.agg #[(.int .i64 0), (.int .i64 0), (.int .i64 0), (.int .i64 0), (.int .i64 0), (.int .i64 0), (.int .i64 0), (.int .i64 0), (.bool false)]) 72 rfl Try.underlying33 info39 rfl (by decide) (by omega) (.slice A i c) (G.take i) x [.int .i64 x.f0, .int .i64 x.f1, .int .i64 x.f2, .int .i64 x.f3, .int .i64 x.f4, .int .i64 x.f5, .int .i64 x.f6, .int .i64 x.f7, .bool x.f8] (fun _ => True) (fun _ => False) rfl rfl ?aP (fun _ hk => hk.elim) ?aF ?aO ?aB ?aS ?aL ?_; (case aP => exact k39_mkM _ _ _ x); (case aF => exact fun _ _ => trivial); (case aO => exact HR_3.out); (case aB => exact HB_4.out); (case aS => exact HB_4.out.size); (case aL => rw [List.length_take]; omega); intro v8 w8 ho8 hb8 hg8 hat8; rw [HX.out, ← take_gr G i hlt] at ho8; obtain ⟨A8, c8, rfl⟩ := Kd.R_slice ho8; have HP8 := lhid ho8; have HB8 := lhid hb8; clear ho8 hb8 hg8 hat8))
      go_roundw
      case rel => exact ⟨i + 1, by omega, by simp, by have q := HP8.out; rw [List.length_take] at q; exact lhid q, HB8⟩
      case measure => simp [intOf]; omega
    · have hie : i = G.length := by omega
      subst hie
      rw [List.take_length] at HRr
      by_cases h128 : G.length < 128
      · have hd : decide ((G.length : Int) + 1 ≤ 128) = true := decide_eq_true (by omega)
        go_wp2_with fail
        with_reducible refine (Get_none base g F wr day G E ((G.length : Int) + 1) (HBK.out.next HBr.out) (by omega)).mono ?_
        rintro e w11 ⟨rfl, hb⟩
        have HR_6 := lhid (Kd.R_below HRr.out hb)
        have HB_7 := lhid (below_then HBr.out HBr.out.size hb)
        clear HRr HBr hb
        go_wp2_with fail
        try any_goals (exfalso; omega)
        go_ret
        exact ⟨_, rfl, Kd.R_alloc HR_6.out _, below_alloc HB_7.out _⟩
      · have hd : decide ((G.length : Int) + 1 ≤ 128) = false := decide_eq_false (by omega)
        go_wp2_with fail
        try any_goals (exfalso; omega)
        go_ret
        exact ⟨_, rfl, HRr.out, HBr.out⟩
end Go.Proofs.Ytfnlghjkjmppdaa.PC
