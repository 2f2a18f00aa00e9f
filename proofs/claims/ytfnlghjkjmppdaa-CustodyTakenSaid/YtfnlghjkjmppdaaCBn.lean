/-
  Rows of truth values in blocks of their own, beside a book.
-/
import Derived.Test.YtfnlghjkjmppdaaCTk
import Derived.Test.YtfnlghjkjmppdaaCUm
namespace Go.Proofs.Ytfnlghjkjmppdaa.PC
open Go.RowKit Go.Proofs.YtfnlghjkjmppdaaW.PrintWords Go.Proofs.YtfnlghjkjmppdaaW.PrintLast Go.Proofs.YtfnlghjkjmppdaaW.PrintMore
set_option linter.unusedVariables false
set_option linter.unusedSimpArgs false
def BBw (w : World) (b : Nat) (bs : List Bool) : Prop := ∃ cs : Array Value, w.heap[b]? = some (.cells cs 4 (0, 0)) ∧ ∀ m, m < bs.length → cs[m]? = some (.bool (bs.getD m false))
section
variable {w w' : World} {b : Nat} {bs : List Bool}
theorem BBw.keep (h : BBw w b bs) (e : ∀ o, w.heap[b]? = some o → w'.heap[b]? = some o) : BBw w' b bs := by
  obtain ⟨cs, h1, h2⟩ := h
  exact ⟨cs, e _ h1, h2⟩
theorem BBw.next (h : BBw w b bs) (hb : Below w.heap.size w w') : BBw w' b bs := h.keep (fun o q => blk_below q hb)
theorem BBw.lt (h : BBw w b bs) : b < w.heap.size := by
  obtain ⟨cs, h1, h2⟩ := h
  exact blk_lt h1
theorem BBw.cell (h : BBw w b bs) (m : Nat) (hm : m < bs.length) : w.cell? ⟨b, m, none⟩ = some (.bool (bs.getD m false)) := by
  obtain ⟨cs, h1, h2⟩ := h
  rw [blk_cell h1 m]; exact h2 m hm
theorem BBw.frz (h : BBw w b bs) (i : Nat) : w.frozen? ⟨b, i, none⟩ = false := by
  obtain ⟨cs, h1, h2⟩ := h
  exact blk_frozen h1 i
theorem BBw.far (h : BBw w b bs) {p : Addr} (hp : b ≠ p.block) (u : Value) : BBw (w.setCell p u) b bs := by
  obtain ⟨cs, h1, h2⟩ := h
  exact ⟨cs, blk_far h1 hp u, h2⟩
theorem BBw.set (h : BBw w b bs) (m : Nat) (hm : m < bs.length) (v : Bool) : BBw (w.setCell ⟨b, m, none⟩ (.bool v)) b (bs.set m v) := by
  obtain ⟨cs, h1, h2⟩ := h
  refine ⟨cs.setIfInBounds m (.bool v), blk_put h1 m (.bool v) rfl, fun i hi => ?_⟩
  rw [List.length_set] at hi
  have hc := h2 i hi
  rw [List.getD_eq_getElem?_getD]
  by_cases c : m = i
  · subst c
    have hlt : m < cs.size := (Array.getElem?_eq_some_iff.1 hc).1
    rw [List.getElem?_set_self hi, Array.getElem?_setIfInBounds_self_of_lt hlt]; rfl
  · rw [List.getElem?_set_ne c, Array.getElem?_setIfInBounds_ne c, hc, List.getD_eq_getElem?_getD]
theorem BBw.of_R {base : Nat} {F : Nat → Prop} {n c : Nat} (h : Kd.R Kd.bool 4 w base F (.slice (some ⟨b, 0, none⟩) n c) bs) (hx : 0 < bs.length) : BBw w b bs := by
  obtain ⟨b', e, _, cs, hh⟩ := bool_ad h hx
  cases e
  exact ⟨cs, hh, fun m hm => by have := bool_at h m hm; rwa [blk_cell hh m] at this⟩
/-- A row of another type outlives a store. -/
theorem BBw.other {α : Type} {d : Kd α} {e base : Nat} {F : Nat → Prop} {v : Value} {xs : List α} (h : BBw w b bs) (hR : d.R e w base F v xs) (he : ∀ q, q ∈ e :: d.E → q ≠ 4) (m : Nat) (u : Value) : d.R e (w.setCell ⟨b, m, none⟩ u) base F v xs := by
  obtain ⟨cs, h1, h2⟩ := h
  exact Kd.R_set hR h1 he m u
end
theorem got_far {base : Nat} {F : Nat → Prop} {w w' : World} {g : Nat} {day : Int} {G : List S39} {E : List S44} (hg : Got base F w w' g day G E) {b : Nat} (hn : ¬ F b) (hl : b < w.heap.size) : ∃ F', BK base F' w' g day G E ∧ ¬ F' b ∧ ∀ o, w.heap[b]? = some o → w'.heap[b]? = some o := by
  obtain ⟨F', h1, h2, h3⟩ := hg
  refine ⟨F', h1, fun q => ?_, fun o q => h3.blk q hn⟩
  rcases h2 b q with r | r
  · exact hn r
  · omega
/-- A book of one's own beside such a row. -/
def HasG (base : Nat) (w0 w : World) (g : Nat) (s : St) (b : Nat) (bs : List Bool) : Prop := ∃ F, BK base F w g s.day s.G s.E ∧ Below base w0 w ∧ ¬ F b ∧ BBw w b bs
theorem HasG.got {base : Nat} {F : Nat → Prop} {w0 w w' : World} {g : Nat} {s : St} {b : Nat} {bs : List Bool} (h1 : BK base F w g s.day s.G s.E) (h2 : Below base w0 w) (h3 : base ≤ w0.heap.size) (h4 : ¬ F b) (h5 : BBw w b bs) {t : St} (hg : Gt base F w w' g t) : HasG base w0 w' g t b bs := by
  have hg' : Got base F w w' g t.day t.G t.E := hg
  obtain ⟨F', k1, k2, k3⟩ := got_far hg' h4 h5.lt
  exact ⟨F', k1, (Has.got h1 h2 h3 hg').2.1, k2, h5.keep k3⟩
theorem gone_getL (G : List S39) {n : Nat} (h2 : n ≤ G.length) {i : Nat} (hi : i ≤ G.length) {gl : List Bool} (hg : gl = inL G n (G.length - n)) : gl.getD i false = goneB G n i := by rw [hg]; exact gone_get G h2 hi
theorem kept_stB {n k : Nat} {gone : Nat → Bool} {s : St} (h : Kept n k gone s) {i : Nat} (h1 : 1 ≤ i) (h2 : i ≤ n) : (stB s.day s.G i && gone i) = false := by
  cases c : gone i
  · simp
  · have := h.2.2.2.1 i h1 h2 c
    unfold stB
    rw [this]; simp
theorem kept_mem {n k : Nat} {gone : Nat → Bool} {s : St} (h : Kept n k gone s) {i : Nat} (h1 : k ≤ i) (h2 : i < s.E.length) : (1 ≤ (s.E[i]).f2 ∧ 1 ≤ (s.E[i]).f3) ∧ ((s.E[i]).f2 ≤ n → gone (s.E[i]).f2.toNat = false) ∧ ((s.E[i]).f3 ≤ n → gone (s.E[i]).f3.toNat = false) :=
  h.2.2.2.2 _ (by rw [List.mem_iff_getElem]; exact ⟨i - k, by rw [List.length_drop]; omega, by rw [List.getElem_drop]; congr 1; omega⟩)
end Go.Proofs.Ytfnlghjkjmppdaa.PC
