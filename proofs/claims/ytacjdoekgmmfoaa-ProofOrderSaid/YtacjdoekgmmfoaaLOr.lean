/-
  Two entries of a list that change their places.
-/
import Derived.Test.YtacjdoekgmmfoaaLBd
import Derived.Test.YtacjdoekgmmfoaaLCv
namespace Go.Proofs.Ytacjdoekgmmfoaa.PL
open Go.RowKit Go.Proofs.YtacjdoekgmmfoaaW.PrintWords Go.Proofs.YtacjdoekgmmfoaaW.PrintLast Go.Proofs.YtacjdoekgmmfoaaW.PrintMore
set_option linter.unusedVariables false
set_option linter.unusedSimpArgs false
def swapS (l : List (List Int)) (i k : Nat) : List (List Int) := (l.set i (l.getD k [])).set k (l.getD i [])
theorem swap_len (l : List (List Int)) (i k : Nat) : (swapS l i k).length = l.length := by simp [swapS]
theorem swap_at (l : List (List Int)) (i k : Nat) (hi : i < l.length) (hk : k < l.length) (h : l[i] ≠ l[k]) : (swapS l i k)[i]'(by rw [swap_len]; exact hi) = l[k] := by
  have hik : k ≠ i := fun e => by subst e; exact h rfl
  unfold swapS
  rw [List.getElem_set_ne hik, List.getElem_set_self, List.getD_eq_getElem?_getD, List.getElem?_eq_getElem hk]; rfl
theorem swap_same (l : List (List Int)) (i k : Nat) (hi : i < l.length) (hk : k < l.length) (h : l[i] = l[k]) : swapS l i k = l := by
  unfold swapS
  rw [List.getD_eq_getElem?_getD, List.getD_eq_getElem?_getD, List.getElem?_eq_getElem hk, List.getElem?_eq_getElem hi]
  show (l.set i l[k]).set k l[i] = l
  rw [← h, List.set_getElem_self hi, h, List.set_getElem_self hk]
theorem swap_mem (l : List (List Int)) (i k : Nat) (hi : i < l.length) (hk : k < l.length) : ∀ x, x ∈ swapS l i k ↔ x ∈ l := by
  have hg : ∀ j (hj : j < l.length), l.getD j [] = l[j] := fun j hj => by rw [List.getD_eq_getElem?_getD, List.getElem?_eq_getElem hj]; rfl
  intro x
  unfold swapS
  rw [hg k hk, hg i hi]
  constructor
  · intro h
    rcases List.mem_or_eq_of_mem_set h with h | h
    · rcases List.mem_or_eq_of_mem_set h with h | h
      · exact h
      · rw [h]; exact List.getElem_mem hk
    · rw [h]; exact List.getElem_mem hi
  · intro h
    obtain ⟨j, hj, rfl⟩ := List.mem_iff_getElem.1 h
    by_cases c1 : j = i
    · subst c1
      exact List.mem_iff_getElem.2 ⟨k, by simp; exact hk, by rw [List.getElem_set_self]⟩
    · by_cases c2 : j = k
      · subst c2
        refine List.mem_iff_getElem.2 ⟨i, by simp; exact hi, ?_⟩
        rw [List.getElem_set_ne (fun e => c1 e), List.getElem_set_self]
      · refine List.mem_iff_getElem.2 ⟨j, by simp; exact hj, ?_⟩
        rw [List.getElem_set_ne (fun e => c2 e.symm), List.getElem_set_ne (fun e => c1 e.symm)]
theorem swap_listE (l : List (List Int)) (i k : Nat) (hi : i < l.length) (hk : k < l.length) : listE (swapS l i k) = listE l := by
  have hm := swap_mem l i k hi hk
  have hb : (swapS l i k).all (fun x => decide (x.length ≤ 256)) = l.all (fun x => decide (x.length ≤ 256)) := by
    rw [Bool.eq_iff_iff, List.all_eq_true, List.all_eq_true]
    exact ⟨fun h x hx => h x ((hm x).2 hx), fun h x hx => h x ((hm x).1 hx)⟩
  unfold listE
  rw [swap_len, hb]
/-- Two headers change their places in memory. -/
theorem N_swap {W : World} {base g n cap : Nat} {xs : List (List Int)} {u v : Value} {i k : Nat} (h : Kd.N (Kd.slice 5 (Kd.int .u8)) 22 W base (fun _ => True) (.slice (some ⟨g, 0, none⟩) n cap) xs) (hi : i < n) (hk : k < n)
    (hu : W.cell? ⟨g, i, none⟩ = some u) (hv : W.cell? ⟨g, k, none⟩ = some v) :
    Kd.N (Kd.slice 5 (Kd.int .u8)) 22 ((W.setCell ⟨g, i, none⟩ v).setCell ⟨g, k, none⟩ u) base (fun _ => True) (.slice (some ⟨g, 0, none⟩) n cap) (swapS xs i k) := by
  have hsz : (Kd.slice 5 (Kd.int .u8)).sz = 1 := rfl
  have get : ∀ {W : World} {xs : List (List Int)} (j : Nat) (z : Value), Kd.N (Kd.slice 5 (Kd.int .u8)) 22 W base (fun _ => True) (.slice (some ⟨g, 0, none⟩) n cap) xs → j < n → W.cell? ⟨g, j, none⟩ = some z → Kd.FK (Kd.slice 5 (Kd.int .u8)) W (fun q => q ≠ g) (xs.getD j []) [z] := by
    intro W xs j z h hj hz
    obtain ⟨c, hcl, hF, hcc⟩ := Kd.N_get h [] (j : Int) (by omega) (by omega)
    rw [Int.toNat_natCast] at hF hcc
    rw [hsz] at hcl hcc
    have hc : c = [z] := by
      match c, hcl with
      | [y], _ =>
        have := hcc 0 y rfl
        rw [Nat.mul_one, Nat.add_zero, add_plain, hz] at this
        injection this with this
        rw [this]
    rw [hc] at hF
    exact Kd.FK_mono hF (fun q hq e => hq.2 (by rw [e]; rfl))
  have hFi := get i u h hi hu
  have hFk := get k v h hk hv
  obtain ⟨h1, g1⟩ := Kd.N_seg h (i : Int) (by omega) (by omega) (c := [u]) (seg := [v]) (j := 0) (x' := xs.getD k []) (okp := fun q => q ≠ g) rfl (fun j y hy => by
    cases j with
    | zero => injection hy with hy; subst hy; rw [Int.toNat_natCast, hsz, Nat.mul_one, Nat.add_zero]; exact hu
    | succ j => simp at hy) (by rw [hsz]; simp) (by simpa using hFk) (fun q hq => ⟨trivial, hq⟩)
  rw [Int.toNat_natCast, hsz, Nat.mul_one, Nat.add_zero] at h1 g1
  have e1 : W.setCells g i [v] = W.setCell ⟨g, i, none⟩ v := rfl
  rw [e1] at h1 g1
  have hFi2 : Kd.FK (Kd.slice 5 (Kd.int .u8)) (W.setCell ⟨g, i, none⟩ v) (fun q => q ≠ g) (xs.getD i []) [u] := Kd.FK_step hFi (fun q hq hlt => g1.block q hlt (fun e => hq (by injection e)))
  obtain ⟨z, hz⟩ : ∃ z, (W.setCell ⟨g, i, none⟩ v).cell? ⟨g, k, none⟩ = some z := by
    obtain ⟨c, hcl, _, hcc⟩ := Kd.N_get h1 [] (k : Int) (by omega) (by omega)
    rw [hsz] at hcl hcc
    match c, hcl with
    | [y], _ =>
      have := hcc 0 y rfl
      rw [Int.toNat_natCast, Nat.mul_one, Nat.add_zero, add_plain] at this
      exact ⟨y, this⟩
  obtain ⟨h2, _⟩ := Kd.N_seg h1 (k : Int) (by omega) (by omega) (c := [z]) (seg := [u]) (j := 0) (x' := xs.getD i []) (okp := fun q => q ≠ g) rfl (fun j y hy => by
    cases j with
    | zero => injection hy with hy; subst hy; rw [Int.toNat_natCast, hsz, Nat.mul_one, Nat.add_zero]; exact hz
    | succ j => simp at hy) (by rw [hsz]; simp) (by simpa using hFi2) (fun q hq => ⟨trivial, hq⟩)
  rw [Int.toNat_natCast, hsz, Nat.mul_one, Nat.add_zero] at h2
  exact h2
theorem N_ad {w : World} {base n c : Nat} {A : Option Addr} {ok : Nat → Prop} {xs : List (List Int)} (h : Kd.N (Kd.slice 5 (Kd.int .u8)) 22 w base ok (.slice A n c) xs) (hn : 0 < n) : ∃ b, A = some ⟨b, 0, none⟩ ∧ base ≤ b ∧ ∀ o, w.frozen? ⟨b, o, none⟩ = false := by
  obtain ⟨_, rows, hl, hR, _⟩ := h
  obtain ⟨inner, ho⟩ := Kd.R_own hR
  rcases ho.2 with ⟨hv, h0⟩ | ⟨b, cap, cur, hv, hb, hh, _⟩
  · injection hv with h1 h2
    omega
  · injection hv with h1 h2 h3
    exact ⟨b, h1, hb, fun o => blk_frozen hh o⟩
theorem frz_set {W : World} {p : Addr} {u : Value} {b o : Nat} (h : W.frozen? ⟨b, o, none⟩ = false) : (W.setCell p u).frozen? ⟨b, o, none⟩ = false := by
  rw [World.frozen?_setCell]; exact h
theorem set_some {W : World} {b i k : Nat} {u v x : Value} (hu : W.cell? ⟨b, i, none⟩ = some u) (hv : W.cell? ⟨b, k, none⟩ = some v) : ∃ z, (W.setCell ⟨b, i, none⟩ x).cell? ⟨b, k, none⟩ = some z := by
  by_cases c : i = k
  · subst c
    exact ⟨x, World.cell?_setCell_same _ _ _ hu⟩
  · exact ⟨v, by rw [World.cell?_setCell_other _ _ _ _ (by simp [c])]; exact hv⟩
end Go.Proofs.Ytacjdoekgmmfoaa.PL
