/-
  A step that stands on the other side proves nothing; one bit more in a root.
-/
import Derived.Test.YtacjdoekgmmfoaaLBd
import Derived.Test.YtacjdoekgmmfoaaLGr
namespace Go.Proofs.Ytacjdoekgmmfoaa.PL
open Go.RowKit Go.Proofs.YtacjdoekgmmfoaaW.PrintWords Go.Proofs.YtacjdoekgmmfoaaW.PrintLast Go.Proofs.YtacjdoekgmmfoaaW.PrintMore
set_option linter.unusedVariables false
set_option linter.unusedSimpArgs false
def flipS (ss : List S54) (q : Nat) : List S54 := ss.set q ⟨(ss.getD q z54).f0, !(ss.getD q z54).f1⟩
theorem flip_len (ss : List S54) (q : Nat) : (flipS ss q).length = ss.length := by simp [flipS]
theorem flip_ok {ss : List S54} (h : ∀ s ∈ ss, okH s.f0) {q : Nat} (hq : q < ss.length) : ∀ s ∈ flipS ss q, okH s.f0 := by
  intro s hs
  rcases List.mem_or_eq_of_mem_set hs with g | g
  · exact h s g
  · rw [g]
    show okH (ss.getD q z54).f0
    rw [List.getD_eq_getElem?_getD, List.getElem?_eq_getElem hq]
    exact h _ (List.getElem_mem hq)
theorem flip_fits {i n : Nat} {ss : List S54} {q : Nat} (hq : q < ss.length) (h : leftsS i n = ss.map S54.f1) : fitsS i n (flipS ss q) = false := by
  unfold fitsS
  rw [beq_eq_false_iff_ne, h]
  intro e
  have e2 := congrArg (fun l => l[q]?) e
  simp only [List.getElem?_map] at e2
  rw [List.getElem?_eq_getElem hq, List.getElem?_eq_getElem (by rw [flip_len]; exact hq)] at e2
  have e3 : (flipS ss q)[q]'(by rw [flip_len]; exact hq) = ⟨(ss.getD q z54).f0, !(ss.getD q z54).f1⟩ := by simp [flipS]
  rw [e3, List.getD_eq_getElem?_getD, List.getElem?_eq_getElem hq] at e2
  simp at e2
theorem incl_flip {e : List Int} {i n root : Int} {ss : List S54} {q : Nat} (c : 1 ≤ n ∧ n ≤ 4096 ∧ 0 ≤ i ∧ i < n) (d : ¬ e.length > 256) (hq : q < ss.length) (h : leftsS i.toNat n.toNat = ss.map S54.f1) : inclS e i n root (flipS ss q) = (false, 0) := by
  unfold inclS; rw [if_pos c, if_neg d, flip_fits hq h]; rfl
theorem incl_root {e : List Int} {i n root root' : Int} {ss : List S54} (h : inclS e i n root ss = (true, 0)) (hr : root' ≠ root) : inclS e i n root' ss = (false, 0) := by
  obtain ⟨c, d, f, g, _⟩ := incl_parts (show (inclS e i n root ss).1 = true by rw [h])
  unfold inclS
  rw [if_pos c, if_neg d, f, g, beq_eq_false_iff_ne.mpr (Ne.symm hr)]; rfl
theorem incl_code {e : List Int} {i n root : Int} {ss : List S54} (c : 1 ≤ n ∧ n ≤ 4096 ∧ 0 ≤ i ∧ i < n) (d : ¬ e.length > 256) : (inclS e i n root ss).2 = 0 := by
  unfold inclS; rw [if_pos c, if_neg d]
theorem incl_parts' {e : List Int} {i n root : Int} {ss : List S54} (h : inclS e i n root ss = (true, 0)) : leftsS i.toNat n.toNat = ss.map S54.f1 := by
  obtain ⟨_, _, f, _, _⟩ := incl_parts (show (inclS e i n root ss).1 = true by rw [h])
  unfold fitsS at f; exact beq_iff_eq.1 f
/-- A step's side in memory. -/
theorem R_flip {W : World} {base g n cap : Nat} {ss : List S54} {q : Nat} (h : Kd.R k54 54 W base (fun _ => True) (.slice (some ⟨g, 0, none⟩) n cap) ss) (hq : q < n) :
    Kd.R k54 54 (W.setCell ⟨g, q * 2 + 1, none⟩ (.bool (!(ss.getD q z54).f1))) base (fun _ => True) (.slice (some ⟨g, 0, none⟩) n cap) (flipS ss q) := by
  have hn := (Kd.R_reads' h).1
  obtain ⟨ad, e, h0, h1⟩ := at_T54 (Kd.R_reads' h).2.2 (q : Int) (by omega) (by omega)
  cases e
  rw [Int.toNat_natCast, add_plain] at h0 h1
  have e2 : rd_T54 ss (q : Int) = ss.getD q z54 := by unfold rd_T54; rw [Int.toNat_natCast]
  rw [e2] at h0 h1
  have hsz : k54.sz = 2 := rfl
  have hs := (Kd.R_seg h (q : Int) (by omega) (by omega) (c := [.int .u64 (ss.getD q z54).f0, .bool (ss.getD q z54).f1]) (seg := [.bool (!(ss.getD q z54).f1)]) (j := 1) (x' := ⟨(ss.getD q z54).f0, !(ss.getD q z54).f1⟩) (okp := fun _ => False) rfl (fun j u hu => by
    rw [Int.toNat_natCast, hsz]
    match j with
    | 0 => injection hu with hu; rw [← hu]; exact h0
    | 1 => injection hu with hu; rw [← hu]; exact h1
    | j + 2 => simp at hu) (by rw [hsz]; simp) (by simpa using k54_mkM W base (fun _ => False) ⟨(ss.getD q z54).f0, !(ss.getD q z54).f1⟩) (fun _ hk => hk.elim)).1
  rw [Int.toNat_natCast, hsz] at hs
  exact hs
theorem R_ad {w : World} {base n c : Nat} {A : Option Addr} {ok : Nat → Prop} {xs : List S54} (h : Kd.R k54 54 w base ok (.slice A n c) xs) (hn : 0 < n) : ∃ b, A = some ⟨b, 0, none⟩ ∧ base ≤ b ∧ ∀ o, w.frozen? ⟨b, o, none⟩ = false := by
  obtain ⟨inner, ho⟩ := Kd.R_own h
  rcases ho.2 with ⟨hv, h0⟩ | ⟨b, cap, cur, hv, hb, hh, _⟩
  · injection hv with h1 h2
    omega
  · injection hv with h1 h2 h3
    exact ⟨b, h1, hb, fun o => blk_frozen hh o⟩
end Go.Proofs.Ytacjdoekgmmfoaa.PL
