/-
  A book of one's own beside a row of numbers; the walk's words for CustodyUses.
-/
import Derived.Test.YtfnlghjkjmppdaaCUs
namespace Go.Proofs.Ytfnlghjkjmppdaa.PC
open Go.RowKit Go.Proofs.YtfnlghjkjmppdaaW.PrintWords Go.Proofs.YtfnlghjkjmppdaaW.PrintLast Go.Proofs.YtfnlghjkjmppdaaW.PrintMore
set_option linter.unusedVariables false
set_option linter.unusedSimpArgs false
/-- A book of one's own, and a row of numbers in blocks that are not the book's. -/
def HasM (base : Nat) (w0 w : World) (g : Nat) (s : St) (v : Value) (M : List Int) : Prop := ∃ F, Bk base F w g s ∧ Below base w0 w ∧ base ≤ w0.heap.size ∧ Kd.R (Kd.int .i64) 3 w base (fun k => ¬ F k) v M
theorem HasM.has {base : Nat} {w0 w : World} {g : Nat} {s : St} {v : Value} {M : List Int} (h : HasM base w0 w g s v M) : Has base w0 w g s := by
  obtain ⟨F, h1, h2, h3, h4⟩ := h
  exact ⟨⟨F, h1⟩, h2, h3⟩
theorem Bk.sz {base : Nat} {F : Nat → Prop} {w : World} {g : Nat} {s : St} (h : Bk base F w g s) : base ≤ w.heap.size := BK.size h
theorem HasM.below {base : Nat} {w0 w : World} {g : Nat} {s : St} {v : Value} {M : List Int} (h : HasM base w0 w g s v M) : Below base w0 w := h.has.2.1
theorem HasM.next {base : Nat} {w0 w w' : World} {g : Nat} {s : St} {v : Value} {M : List Int} (h : HasM base w0 w g s v M) (hb : Below w.heap.size w w') : HasM base w0 w' g s v M := by
  obtain ⟨F, h1, h2, h3, h4⟩ := h
  exact ⟨F, BK.next h1 hb, below_then h2 h1.sz hb, h3, Kd.R_below h4 hb⟩
theorem R_got {α : Type} {d : Kd α} {e base : Nat} {F : Nat → Prop} {w w' : World} {g : Nat} {day : Int} {G : List S39} {E : List S44} {v : Value} {xs : List α} (h : d.R e w base (fun k => ¬ F k) v xs) (hg : Got base F w w' g day G E) : ∃ F', BK base F' w' g day G E ∧ d.R e w' base (fun k => ¬ F' k) v xs := by
  obtain ⟨F', h1, h2, h3⟩ := hg
  refine ⟨F', h1, ?_⟩
  refine Kd.R_mono (Kd.R_step (Kd.R_bound h) (fun k hk hl => h3.block k hl hk.1)) (fun k hk q => ?_)
  rcases h2 k q with r | r
  · exact hk.1 r
  · have := hk.2.2.1; omega
theorem HasM.got {base : Nat} {F : Nat → Prop} {w0 w w' : World} {g : Nat} {s t : St} {v : Value} {M : List Int} (h1 : Bk base F w g s) (h2 : Below base w0 w) (h3 : base ≤ w0.heap.size) (h4 : Kd.R (Kd.int .i64) 3 w base (fun k => ¬ F k) v M) (hg : Gt base F w w' g t) : HasM base w0 w' g t v M := by
  obtain ⟨F', k1, k2⟩ := R_got h4 hg
  obtain ⟨_, m1, m2, m3⟩ := hg
  exact ⟨F', k1, h2.trans (m3.below h1.sz (fun k q => (BK.fb h1 k q).1)), h3, k2⟩
/-- The row is appended to. -/
theorem HasM.app {base : Nat} {F : Nat → Prop} {w0 w w' : World} {g : Nat} {s : St} {v v' : Value} {M M' : List Int} (h1 : Bk base F w g s) (h3 : base ≤ w0.heap.size) (h4 : Kd.R (Kd.int .i64) 3 w base (fun k => ¬ F k) v M)
    (hR : Kd.R (Kd.int .i64) 3 w' base (fun k => ¬ F k) v' M') (hb : Below base w0 w') (hg : w.grownBy w' v.ownBlock) : HasM base w0 w' g s v' M' :=
  ⟨F, BK.far (F2 := fun k => some k = v.ownBlock) h1 ((Chg.refl _ w).grown hg (fun k hk => Or.inr hk.symm)) (fun k q r => h4.1 k r.symm q), hb, h3, hR⟩
/-- The numbers that were made, behind the first acts. -/
def madeL (l : List S37) : Nat → List Int
  | 0 => []
  | i + 1 => madeS (runS s0 (l.take i)) (madeL l i) (l.getD i z37)
theorem usi_run (l : List S37) : ∀ i, i ≤ l.length → UsI (runS s0 (l.take i)) (madeL l i)
  | 0, _ => show UsI ⟨0, [], []⟩ [] from ⟨nil_nar, (show EIn [] [] from fun e he => absurd he (by simp)), rfl, fun n h1 h2 => by have : n ≤ 0 := h2; omega⟩
  | i + 1, h => by
    rw [runS_take s0 l i (by omega)]
    exact usi_step (usi_run l i (by omega)) _
/-- What is gathered of the grants n to k. -/
def gat (M : List Int) (G : List S39) (n k : Nat) : List Int := M ++ ((G.take k).drop n).map (·.f7)
theorem gat_start (M : List Int) (G : List S39) (n : Nat) : gat M G n n = M := by
  unfold gat
  rw [List.drop_eq_nil_of_le (by rw [List.length_take]; omega)]; simp
theorem gat_snoc (M : List Int) (G : List S39) (n k : Nat) (h1 : n ≤ k) (h2 : k < G.length) : gat M G n (k + 1) = gat M G n k ++ [(G.getD k z39).f7] := by
  unfold gat
  rw [List.take_succ_eq_append_getElem h2, List.drop_append_of_le_length (by rw [List.length_take]; omega), List.map_append, ← List.append_assoc, List.getD_eq_getElem?_getD, List.getElem?_eq_getElem h2]; rfl
theorem gat_end (M : List Int) (G : List S39) (n : Nat) : gat M G n G.length = M ++ (G.drop n).map (·.f7) := by
  unfold gat; rw [List.take_length]
theorem gat_len (M : List Int) (G : List S39) (n k : Nat) : (gat M G n k).length ≤ M.length + G.length := by
  unfold gat
  rw [List.length_append, List.length_map, List.length_drop, List.length_take]; omega
theorem used_le (G : List S39) (E : List S44) (n : Nat) : usedN G E n ≤ 2 * E.length := by
  unfold usedN
  induction E with
  | nil => simp
  | cons e E ih =>
    rw [List.map_cons, List.sum_cons, List.length_cons]
    have : use2 G n e ≤ 2 := by unfold use2; split <;> split <;> omega
    omega
theorem used_snoc (G : List S39) (E : List S44) (n k : Nat) (h : k < E.length) : usedN G (E.take (k + 1)) n = usedN G (E.take k) n + use2 G n (E[k]) := by
  unfold usedN
  rw [List.take_succ_eq_append_getElem h, List.map_append, List.sum_append]; simp
theorem any_eq (l : List Nat) (n : Nat) : (l.any fun m => (m : Int) == ((n : Int) + 1)) = decide (n + 1 ∈ l) := by
  rw [Bool.eq_iff_iff, List.any_eq_true, decide_eq_true_eq]
  constructor
  · rintro ⟨m, h1, h2⟩
    have := beq_iff_eq.1 h2
    have : m = n + 1 := by omega
    subst this; exact h1
  · intro h
    exact ⟨n + 1, h, beq_iff_eq.2 (by omega)⟩
theorem ent_ad {w : World} {base : Nat} {F : Nat → Prop} {A : Option Addr} {n c : Nat} {K : List S44} (h : Kd.R k44 44 w base F (.slice A n c) K) (hK : 0 < K.length) : ∃ b, A = some ⟨b, 0, none⟩ := by
  obtain ⟨inner, ho⟩ := Kd.R_own h
  rcases ho.2 with ⟨hv, h0⟩ | ⟨b, cap, cur, hv, _⟩
  · injection hv with h1 h2
    omega
  · injection hv with h1 h2 h3
    exact ⟨b, h1⟩
theorem ent_cells {w : World} {base : Nat} {F : Nat → Prop} {b c : Nat} {K : List S44} (h : Kd.R k44 44 w base F (.slice (some ⟨b, 0, none⟩) K.length c) K) (m : Nat) (h2 : m < K.length) :
    w.cell? ⟨b, m * 4, none⟩ = some (.int .i64 (K[m]).f0) ∧ w.cell? ⟨b, m * 4 + 1, none⟩ = some (.int .i64 (K[m]).f1) ∧ w.cell? ⟨b, m * 4 + 2, none⟩ = some (.int .i64 (K[m]).f2) ∧ w.cell? ⟨b, m * 4 + 3, none⟩ = some (.int .i64 (K[m]).f3) := by
  obtain ⟨ad, e, q⟩ := at_T44 (Kd.R_reads' h).2.2 (m : Int) (by omega) (by omega)
  cases e
  unfold rd_T44 at q
  rw [Int.toNat_natCast, add_plain, List.getD_eq_getElem?_getD, List.getElem?_eq_getElem h2] at q
  exact q
theorem int_ad {w : World} {base : Nat} {F : Nat → Prop} {A : Option Addr} {n c : Nat} {K : List Int} (h : Kd.R (Kd.int .i64) 3 w base F (.slice A n c) K) (hK : 0 < K.length) : ∃ b, A = some ⟨b, 0, none⟩ := by
  obtain ⟨inner, ho⟩ := Kd.R_own h
  rcases ho.2 with ⟨hv, h0⟩ | ⟨b, cap, cur, hv, _⟩
  · injection hv with h1 h2
    omega
  · injection hv with h1 h2 h3
    exact ⟨b, h1⟩
theorem int_cell {w : World} {base : Nat} {F : Nat → Prop} {b n c : Nat} {K : List Int} (h : Kd.R (Kd.int .i64) 3 w base F (.slice (some ⟨b, 0, none⟩) n c) K) (m : Nat) (hm : m < K.length) : w.cell? ⟨b, m, none⟩ = some (.int .i64 (K.getD m 0)) := by
  obtain ⟨ad, e, hc⟩ := int_at (Kd.R_reads' h).2.2 m hm
  cases e
  rw [add_plain] at hc
  rw [List.getD_eq_getElem?_getD, List.getElem?_eq_getElem hm]; exact hc
end Go.Proofs.Ytfnlghjkjmppdaa.PC
