/-
  A log that grows: an entry more, whatever it is; what extends what.
-/
import Derived.Test.YtacjdoekgmmfoaaLLg
import Derived.Test.YtacjdoekgmmfoaaLCv
namespace Go.Proofs.Ytacjdoekgmmfoaa.PL
open Go.RowKit Go.Proofs.YtacjdoekgmmfoaaW.PrintWords Go.Proofs.YtacjdoekgmmfoaaW.PrintLast Go.Proofs.YtacjdoekgmmfoaaW.PrintMore
set_option linter.unusedVariables false
set_option linter.unusedSimpArgs false
/-- What reads in a world reads in any that has the same blocks. -/
theorem c_keep {w0 W : World} {A : Option Addr} {n : Nat} {xs : List Int} {k : IntKind} (h : Kd.C (Kd.int k) w0 A n xs) (hk : ∀ i, i < w0.heap.size → W.heap[i]? = w0.heap[i]?) : Kd.C (Kd.int k) W A n xs := by
  have hz : w0.heap.size ≤ W.heap.size := by
    rcases Nat.lt_or_ge W.heap.size w0.heap.size with q | q
    · have h1 := hk _ q
      rw [Array.getElem?_eq_none (Nat.le_refl _), Array.getElem?_eq_getElem q] at h1
      cases h1
    · exact q
  have hb : Below w0.heap.size w0 { w0 with heap := W.heap } := ⟨rfl, rfl, rfl, hz, hk⟩
  have h2 := Kd.C_below (w1 := { w0 with heap := W.heap }) h hb
  exact h2
/-- What came in is kept by a log's calls. -/
theorem entry_keep {w0 w W : World} {A : Option Addr} {n : Nat} {xs : List Int} {k : IntKind} (h : Kd.C (Kd.int k) w0 A n xs) (hb : Below w0.heap.size w0 w) (hW : Keep5 w0.heap.size w W) : Kd.C (Kd.int k) W A n xs :=
  c_keep h (fun i hi => by rw [hW i (Nat.lt_of_lt_of_le hi hb.size) (Or.inl hi)]; exact hb.block i hi)
theorem LG.lower {base base' : Nat} {w : World} {g : Nat} {es : List (List Int)} {ls : List Int} (h : LG base w g es ls) (hb : base' ≤ base) : LG base' w g es ls := by
  obtain ⟨ve, vl, h1, h2, h3⟩ := h.row
  exact ⟨Nat.le_trans hb h.lo, h.lt, ve, vl, h1, Kd.R_lower h2 hb, Kd.R_lower h3 hb⟩
/-- A log with a leaf for each entry. -/
structure LGS (base : Nat) (w : World) (g : Nat) (es : List (List Int)) (ls : List Int) : Prop where
  lg : LG base w g es ls
  len : ls.length = es.length
  ok : ∀ x ∈ ls, okH x
theorem LGS.next {base : Nat} {w w' : World} {g : Nat} {es : List (List Int)} {ls : List Int} (h : LGS base w g es ls) (hb : Below w.heap.size w w') : LGS base w' g es ls := ⟨h.lg.next hb, h.len, h.ok⟩
theorem LGS.size {base : Nat} {w : World} {g : Nat} {es : List (List Int)} {ls : List Int} (h : LGS base w g es ls) : base ≤ w.heap.size := Nat.le_trans h.lg.lo (Nat.le_of_lt h.lg.lt)
/-- An entry more, or a refusal. -/
def Grown1 (base : Nat) (w' : World) (g : Nat) (ls : List Int) : Prop := ∃ es' ls', LGS base w' g es' ls' ∧ ls.length ≤ ls'.length ∧ ls'.length ≤ ls.length + 1 ∧ ls'.take ls.length = ls
def Some1 (e : Ending) : Prop := ∃ v, e = .returned v
theorem grow_calls (base : Nat) (w : World) (g : Nat) (es : List (List Int)) (ls : List Int) (A : Option Addr) (c : Nat) (xs : List Int) (h : LGS base w g es ls)
    (hX : ∀ W, Keep5 base w W → Kd.C (Kd.int .u8) W A xs.length xs) (hc : xs.length ≤ c) (hn : ls.length < 4096) (hl : xs.length < 1000000) :
    Calls Try.prog 47 #[.pointer (some ⟨g, 0, none⟩), .slice A xs.length c] w fun e w' => Some1 e ∧ Grown1 base w' g ls ∧ Below base w w' := by
  by_cases c256 : xs.length ≤ 256
  · obtain ⟨k, hk⟩ := Ev.rounds (ev_Leaf xs (by omega))
    refine (add_calls k base w g es ls A c xs (leafS xs) h.lg hX hc c256 (by have := h.len; omega) hn hk).mono ?_
    rintro e w' ⟨he, hG, hB, _⟩
    refine ⟨⟨_, he⟩, ⟨_, _, ⟨hG, by simp [h.len], ?_⟩, by simp, by simp, by simp⟩, hB⟩
    intro x hx
    rcases List.mem_append.1 hx with q | q
    · exact h.ok x q
    · rw [List.mem_singleton] at q; subst q; exact mix_ok _
  · refine (add_long base w g es ls A xs.length c h.lg (by omega)).mono ?_
    rintro e w' ⟨he, rfl⟩
    exact ⟨⟨_, he⟩, ⟨es, ls, h, Nat.le_refl _, by omega, List.take_length⟩, Below.refl _ _⟩
/-- What an extension's hashes prove. -/
theorem ext_val (ls : List Int) (hl : ls.length ≤ 4096) (hok : ∀ x ∈ ls, okH x) (m : Int) (h1 : 1 ≤ m) (h2 : m ≤ ls.length) (root : Int) (rest : List Int) :
    Ev (fun k => proof_Extended.f k m (ls.length : Int) (top (ls.take m.toNat)) root (extS ls m.toNat true ++ rest)) (rest.isEmpty && (top ls == root), 0) := by
  have h := ext_roots _ ls m.toNat true (top (ls.take m.toNat)) rest (Nat.le_refl _) (by omega) (by omega) (by omega) hok (fun _ => rfl)
  rw [show ((m.toNat : Nat) : Int) = m by omega] at h
  unfold proof_Extended.f
  simp only [if_neg (show ¬ ((ls.length : Int) < 1 ∨ (ls.length : Int) > 4096 ∨ m < 1 ∨ m > (ls.length : Int)) by omega)]
  refine Ev.bind h ?_
  simp only [beq_self_eq_true, Bool.not_false, Bool.true_and]
  exact Ev.now _
theorem ev_rootL (ls : List Int) (hl : ls.length ≤ 4096) (hok : ∀ x ∈ ls, okH x) : Ev (fun k => proof_root.f k ls) (top ls) := ev_root _ ls (Nat.le_refl _) (by omega) hok
theorem ev_extL (ls : List Int) (hl : ls.length ≤ 4096) (hok : ∀ x ∈ ls, okH x) (m : Int) (h1 : 1 ≤ m) (h2 : m ≤ ls.length) : Ev (fun k => proof_extend.f k ls m true) (extS ls m.toNat true) := by
  have h := ev_proof_extend _ ls m.toNat true (Nat.le_refl _) (by omega) (by omega) (by omega) hok
  rw [show ((m.toNat : Nat) : Int) = m by omega] at h
  exact h
theorem xor_ne (a b : Int) (ha : okH a) (hb : okH b) (h : b ≠ 0) : bits .xor .u64 a b ≠ a := by
  rw [u64_xor a b ha.1 ha.2 hb.1 hb.2]
  intro e
  have e2 : a.toNat ^^^ b.toNat = a.toNat := by have := ha.1; omega
  have e3 : a.toNat ^^^ (a.toNat ^^^ b.toNat) = a.toNat ^^^ a.toNat := by rw [e2]
  rw [← Nat.xor_assoc, Nat.xor_self, Nat.zero_xor] at e3
  have := hb.1
  omega
theorem wf_u8 {n : Int} (h : (Lit.int .u8 n).wf = true) : 0 ≤ n ∧ n < 256 := by
  have : 0 ≤ n ∧ n ≤ 255 := by simpa [Lit.wf, IntKind.min, IntKind.max, IntKind.signed, IntKind.bits] using h
  omega
/-- One bit. -/
theorem shl_flip (yk : IntKind) (a : Int) (h0 : 0 ≤ a) (h1 : a < 64) : ∃ fl, Op.shift .shl .u64 1 yk a = pure (.int .u64 fl) ∧ okH fl ∧ fl ≠ 0 := by
  obtain ⟨j, rfl⟩ := Int.eq_ofNat_of_zero_le h0
  have hj : 2 ^ j ≤ 2 ^ 63 := Nat.pow_le_pow_right (by decide) (by omega)
  have hp : 0 < 2 ^ j := Nat.pow_pos (by decide)
  refine ⟨((2 ^ j : Nat) : Int), ?_, ⟨by omega, by omega⟩, by omega⟩
  rw [shift_shl .u64 yk 1 (j : Int) (by omega) (by simp [IntKind.bits]; omega)]
  rw [IntKind.wrap_u64, Int.toNat_natCast, Int.one_mul, show ((2 : Int) ^ j) = ((2 ^ j : Nat) : Int) by push_cast; rfl]
  congr 2
  omega
theorem take_less {ls1 ls2 : List Int} (h : ls2.take ls1.length = ls1) {a : Nat} (ha : a ≤ ls1.length) : ls2.take a = ls1.take a := by
  have e : (ls2.take ls1.length).take a = ls2.take a := by rw [List.take_take, Nat.min_eq_left ha]
  rw [← e, h]
theorem take_less_all {ls : List Int} {n : Nat} (h : ls.length = n) : ls.take ((n : Int)).toNat = ls := by
  rw [Int.toNat_natCast, ← h]; exact List.take_length
theorem take_more {ls1 ls ls' : List Int} (h : ls1.length ≤ ls.length) (h1 : ls'.take ls.length = ls) (h2 : ls.take ls1.length = ls1) : ls'.take ls1.length = ls1 := by
  have e : ls'.take ls1.length = (ls'.take ls.length).take ls1.length := by rw [List.take_take, Nat.min_eq_left h]
  exact e.trans ((congrArg (List.take ls1.length) h1).trans h2)
end Go.Proofs.Ytacjdoekgmmfoaa.PL
