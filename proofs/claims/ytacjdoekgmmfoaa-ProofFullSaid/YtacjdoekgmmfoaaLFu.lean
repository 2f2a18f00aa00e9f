/-
  A full log: its entries, the length of a way, what an entry's steps prove.
-/
import Derived.Test.YtacjdoekgmmfoaaLGr
namespace Go.Proofs.Ytacjdoekgmmfoaa.PL
open Go.RowKit Go.Proofs.YtacjdoekgmmfoaaW.PrintWords Go.Proofs.YtacjdoekgmmfoaaW.PrintLast Go.Proofs.YtacjdoekgmmfoaaW.PrintMore
set_option linter.unusedVariables false
set_option linter.unusedSimpArgs false
/-- Entry k of a full log. -/
def fullX (k : Nat) : List Int := [((k % 256 : Nat) : Int), ((k / 256 % 256 : Nat) : Int)]
def fullE (n : Nat) : List (List Int) := (List.range n).map fullX
theorem fullE_succ (n : Nat) : fullE (n + 1) = fullE n ++ [fullX n] := by simp [fullE, List.range_succ]
theorem fullE_len (n : Nat) : (fullE n).length = n := by simp [fullE]
def fullL (n : Nat) : List Int := (fullE n).map leafS
theorem fullL_succ (n : Nat) : fullL (n + 1) = fullL n ++ [leafS (fullX n)] := by simp [fullL, fullE_succ]
theorem fullL_len (n : Nat) : (fullL n).length = n := by simp [fullL, fullE_len]
theorem fullL_ok (n : Nat) : ∀ x ∈ fullL n, okH x := fun x hx => by
  obtain ⟨y, _, rfl⟩ := List.mem_map.1 hx
  exact mix_ok _
theorem fullL_at (n i : Nat) (h : i < n) : (fullL n)[i]'(by rw [fullL_len]; exact h) = leafS (fullX i) := by simp [fullL, fullE]
theorem half_two (d : Nat) : half (2 ^ (d + 1)) = 2 ^ d := by
  have h1 : 0 < 2 ^ d := Nat.pow_pos (by decide)
  have h2 : 2 ^ (d + 1) = 2 * 2 ^ d := by rw [Nat.pow_succ]; omega
  obtain ⟨⟨j, hj⟩, h3, h4⟩ := half_char (2 ^ (d + 1)) (by omega)
  rw [hj] at h3 h4 ⊢
  have h5 : j < d + 1 := (Nat.pow_lt_pow_iff_right (by decide : 1 < 2)).1 h3
  have h6 : d ≤ j := by
    have : 2 ^ d ≤ 2 ^ j := by omega
    exact (Nat.pow_le_pow_iff_right (by decide : 1 < 2)).1 this
  have : j = d := by omega
  rw [this]
theorem way_two : ∀ (d : Nat) (l : List Int) (i : Nat), l.length = 2 ^ d → i < l.length → (wayS l i).length = d
  | 0, l, i, h, hi => by rw [wayS, dif_pos (by rw [h]; decide)]; rfl
  | d + 1, l, i, h, hi => by
    have h1 : 0 < 2 ^ d := Nat.pow_pos (by decide)
    have h2 : 2 ^ (d + 1) = 2 * 2 ^ d := by rw [Nat.pow_succ]; omega
    have hh : half l.length = 2 ^ d := by rw [h, half_two]
    rw [wayS, dif_neg (by omega), hh]
    split
    · rw [List.length_append, way_two d _ i (by rw [List.length_take]; omega) (by rw [List.length_take]; omega)]; rfl
    · rw [List.length_append, way_two d _ _ (by rw [List.length_drop]; omega) (by rw [List.length_drop]; omega)]; rfl
/-- An entry's steps prove it. -/
theorem incl_val (ls : List Int) (hl : ls.length ≤ 4096) (hok : ∀ x ∈ ls, okH x) (e : List Int) (he : e.length ≤ 256) (i : Nat) (hi : i < ls.length) (h : leafS e = ls[i]) :
    Ev (fun k => proof_Included.f k e (i : Int) (ls.length : Int) (top ls) (wayS ls i)) (true, 0) := by
  have h1 := ev_Included e (i : Int) (ls.length : Int) (top ls) (wayS ls i) (by omega) (by have := way_small ls i (by omega); omega) (way_ok _ ls i (Nat.le_refl _) hok)
  have hf : fitsS i ls.length (wayS ls i) = true := by
    unfold fitsS; rw [way_fits _ ls i (Nat.le_refl _) hi]; exact beq_self_eq_true _
  have hw : followS e (wayS ls i) = top ls := by
    unfold followS; rw [h]; exact way_follow _ ls i (Nat.le_refl _) hi
  have hv : inclS e (i : Int) (ls.length : Int) (top ls) (wayS ls i) = (true, 0) := by
    unfold inclS
    rw [if_pos (by omega), if_neg (by omega), Int.toNat_natCast, Int.toNat_natCast, hf, hw]; simp
  rw [hv] at h1
  exact h1
/-- A literal of two bytes in memory. -/
theorem lit2_C (W : World) (b : Nat) (x y : Int) (fr : Nat × Nat) (h : W.heap[b]? = some (.cells #[.int .u8 x, .int .u8 y] 5 fr)) : Kd.C (Kd.int .u8) W (some ⟨b, 0, none⟩) [x, y].length [x, y] := by
  refine Kd.C_of_reads (enc := Value.int .u8) (d := (0 : Int)) (h1 := fun _ => rfl) ⟨rfl, by simp [maxLen], fun _ => ⟨⟨b, 0, none⟩, rfl, fun j hj => ?_⟩⟩
  have hj0 : j = 0 ∨ j = 1 := by simp at hj; omega
  rcases hj0 with rfl | rfl <;> simp [World.cell?, Addr.add, h]
/-- An entry of two bytes more. -/
theorem add2_calls (base : Nat) (w : World) (g n : Nat) (x y : Int) (h : LG base w g (fullE n) (fullL n)) (hn : n < 4096) (hx : [x, y] = fullX n) :
    Calls Try.prog 47 #[.pointer (some ⟨g, 0, none⟩), .slice (some ⟨w.heap.size, 0, none⟩) 2 2] (w.alloc (.cells #[.int .u8 x, .int .u8 y] 5)) fun e w' => e = .returned (.tuple #[.int .i64 n, .int .i64 0]) ∧ LG base w' g (fullE (n + 1)) (fullL (n + 1)) ∧ Below base w w' := by
  have hb0 : base ≤ w.heap.size := Nat.le_trans h.lo (Nat.le_of_lt h.lt)
  have hA := below_alloc (Below.refl w.heap.size w) (.cells #[.int .u8 x, .int .u8 y] 5)
  have hnew : (w.alloc (.cells #[.int .u8 x, .int .u8 y] 5)).heap[w.heap.size]? = some (.cells #[.int .u8 x, .int .u8 y] 5 (0, 0)) := heap_alloc_new w _
  obtain ⟨k, hk⟩ := Ev.rounds (ev_Leaf [x, y] (by simp))
  refine (add_calls k base _ g (fullE n) (fullL n) (some ⟨w.heap.size, 0, none⟩) 2 [x, y] (leafS [x, y]) (h.next hA) (fun W hW => lit2_C W w.heap.size x y (0, 0) ?_) (by simp) (by simp) (by rw [fullE_len]; exact hn) (by rw [fullL_len]; exact hn) hk).mono ?_
  · rw [hW w.heap.size (by simp) (Or.inr ⟨_, _, hnew⟩)]; exact hnew
  · rintro e w' ⟨he, h1, h2, _⟩
    rw [fullE_len] at he
    rw [hx, ← fullE_succ, ← fullL_succ] at h1
    exact ⟨he, h1, (below_then (Below.refl base w) hb0 hA).trans h2⟩
theorem fullX_eq (i : Nat) (h : i < 4096) : [(i : Int) % 256, (i : Int) / 256] = fullX i := by
  have e1 : (i : Int) % 256 = ((i % 256 : Nat) : Int) := by omega
  have e2 : (i : Int) / 256 = ((i / 256 % 256 : Nat) : Int) := by omega
  unfold fullX; rw [e1, e2]
theorem fullL_get (n i : Nat) (h : i < n) : (fullL n)[i]? = some (leafS (fullX i)) := by
  rw [List.getElem?_eq_getElem (by rw [fullL_len]; exact h), fullL_at n i h]
end Go.Proofs.Ytacjdoekgmmfoaa.PL
