/-
  What an opened vault says of its two grants.
-/
import Derived.Test.YtfnlghjkjmppdaaCGp
import Derived.Test.YtfnlghjkjmppdaaCUs
namespace Go.Proofs.Ytfnlghjkjmppdaa.PC
open Go.RowKit Go.Proofs.YtfnlghjkjmppdaaW.PrintWords Go.Proofs.YtfnlghjkjmppdaaW.PrintLast Go.Proofs.YtfnlghjkjmppdaaW.PrintMore
set_option linter.unusedVariables false
set_option linter.unusedSimpArgs false
theorem key_in {day : Int} {G : List S39} {v n by_ : Int} (hc : keyC day G v n by_ = 0) : by_ = (gr G n.toNat).f3 ∧ stB day G n.toNat = true ∧ bits .and .i64 (gr G n.toNat).f5 1 ≠ 0 ∧ bits .and .i64 (gr G n.toNat).f4 (wrap64 ((2 : Int) ^ v.toNat)) ≠ 0 := by
  have hr := keyC_in hc
  unfold keyC at hc
  rw [if_neg (fun q => q hr)] at hc
  by_cases c1 : badB day G v n.toNat by_ = true
  · rw [if_pos c1] at hc; omega
  · have c2 := Bool.eq_false_iff.2 c1
    unfold badB at c2
    simp only [Bool.or_eq_false_iff, decide_eq_false_iff_not, Bool.not_eq_false', beq_eq_false_iff_ne] at c2
    obtain ⟨⟨⟨a1, a2⟩, a3⟩, a4⟩ := c2
    exact ⟨Classical.byContradiction a1, a2, a3, a4⟩
theorem key_tb {day : Int} {G : List S39} (hI : Inv G) {v n by_ : Int} (h0 : 0 ≤ v) (h1 : v ≤ 15) (hc : keyC day G v n by_ = 0) : tb (gr G n.toNat).f5 0 = true ∧ tb (gr G n.toNat).f4 v.toNat = true := by
  have hr := keyC_in hc
  obtain ⟨_, _, a3, a4⟩ := key_in hc
  obtain ⟨o1, o2, o3, o4, o5, o6, _⟩ := hI.2 n.toNat (by omega) (by omega)
  refine ⟨?_, ?_⟩
  · rw [← one_bit (by omega) o6]; exact bne_iff_ne.2 a3
  · rw [← serv_bit ⟨by omega, o4⟩ h0 h1]; exact bne_iff_ne.2 a4
theorem shr_ne {p n : Int} (hp : Sm p) (h0 : 0 ≤ n) (h1 : n ≤ 15) (h : tb p n.toNat = true) : ((shr .i64 p n).tmod 2 == 0) = false := by
  have := shr_bit hp h0 h1
  rw [h] at this
  have := beq_iff_eq.1 this
  rw [this]; rfl
theorem open_two {s : St} (h : Nar s.G) {v n nb m mb : Int} (hc : openC s.day s.G s.E v n nb m mb = 0) :
    (0 ≤ v ∧ v ≤ 15) ∧ (1 ≤ n ∧ n ≤ s.G.length) ∧ (1 ≤ m ∧ m ≤ s.G.length) ∧ (stB s.day s.G n.toNat = true ∧ stB s.day s.G m.toNat = true) ∧ (gr s.G n.toNat).f2 ≠ (gr s.G m.toNat).f2 ∧ (gr s.G n.toNat).f3 ≠ (gr s.G m.toNat).f3 ∧ (gr s.G n.toNat).f3 = nb ∧ (gr s.G m.toNat).f3 = mb ∧
      (bits .and .i64 (bits .and .i64 (gr s.G n.toNat).f5 (gr s.G m.toNat).f5) 1 == 0) = false ∧ ((shr .i64 (bits .and .i64 (gr s.G n.toNat).f4 (gr s.G m.toNat).f4) v).tmod 2 == 0) = false ∧ (gr s.G n.toNat).f7 ≠ 0 ∧ (gr s.G m.toNat).f7 ≠ 0 := by
  obtain ⟨v0, v1, k1, k2, hab, hroot, _⟩ := openC_zero hc
  have r1 := keyC_in k1
  have r2 := keyC_in k2
  obtain ⟨a1, a2, _, _⟩ := key_in k1
  obtain ⟨b1, b2, _, _⟩ := key_in k2
  obtain ⟨c1, c2⟩ := key_tb h.1 v0 v1 k1
  obtain ⟨d1, d2⟩ := key_tb h.1 v0 v1 k2
  obtain ⟨o1, o2, o3, o4, o5, o6, _⟩ := h.1.2 n.toNat (by omega) (by omega)
  obtain ⟨p1, p2, p3, p4, p5, p6, _⟩ := h.1.2 m.toNat (by omega) (by omega)
  have s1 : Sm (gr s.G n.toNat).f5 := ⟨by omega, by omega⟩
  have s2 : Sm (gr s.G m.toNat).f5 := ⟨by omega, by omega⟩
  have s3 : Sm (gr s.G n.toNat).f4 := ⟨by omega, by omega⟩
  have s4 : Sm (gr s.G m.toNat).f4 := ⟨by omega, by omega⟩
  refine ⟨⟨v0, v1⟩, r1, r2, ⟨a2, b2⟩, hroot, fun e => hab (by rw [a1, b1, e]), a1.symm, b1.symm, ?_, ?_, ?_, ?_⟩
  · have hs := sm_and s1 s2
    have hle : bits .and .i64 (gr s.G n.toNat).f5 (gr s.G m.toNat).f5 ≤ 3 := by
      rw [and_i s1.1 s1.2 s2.1 s2.2]
      have : (gr s.G n.toNat).f5.toNat &&& (gr s.G m.toNat).f5.toNat < 2 ^ 2 := Nat.and_lt_two_pow _ (by omega)
      omega
    have ht : tb (bits .and .i64 (gr s.G n.toNat).f5 (gr s.G m.toNat).f5) 0 = true := by rw [tb_and s1 s2, c1, d1]; rfl
    rw [← one_bit hs.1 hle] at ht
    exact beq_eq_false_iff_ne.2 (bne_iff_ne.1 ht)
  · exact shr_ne (sm_and s3 s4) v0 v1 (by rw [tb_and s3 s4, c2, d2]; rfl)
  · exact key_free k1 n.toNat (by rw [up_succ h.1.1 (by omega) (by omega)]; simp)
  · exact key_free k2 m.toNat (by rw [up_succ h.1.1 (by omega) (by omega)]; simp)
/-- An act that opens, and one that does not. -/
def opens (s : St) (a : S37) : Bool := decide (kd a ≥ 4) && (decide (kd a ≤ 6) && (actC s a == 0))
theorem opens_yes {s : St} {a : S37} (h : opens s a = true) : openC s.day s.G s.E a.f10 a.f1 a.f3 a.f2 a.f4 = 0 ∧ stepS s a = ⟨s.day, openG s.G a.f1 a.f2, s.E ++ [⟨s.day, a.f10, a.f1, a.f2⟩]⟩ := by
  unfold opens at h
  simp only [Bool.and_eq_true, decide_eq_true_eq, beq_iff_eq] at h
  obtain ⟨k4, k6, hc⟩ := h
  have k0 : kd a ≠ 0 := by omega
  have k1 : ¬ (kd a = 1 ∨ kd a = 2) := by omega
  have k3 : kd a ≠ 3 := by omega
  have k7 : kd a ≠ 7 := by omega
  unfold actC at hc
  rw [if_neg k0, if_neg k1, if_neg k3, if_neg k7] at hc
  refine ⟨hc, ?_⟩
  unfold stepS actC
  rw [if_neg k0, if_neg k1, if_neg k3, if_neg k7, if_pos hc, if_neg k0, if_neg k1, if_neg k3, if_neg k7]
theorem opens_no {s : St} {a : S37} (hk : 0 ≤ a.f0) (h : opens s a = false) : (stepS s a).E = s.E := by
  have hb : 0 ≤ kd a ∧ kd a < 8 := by unfold kd; omega
  unfold stepS
  by_cases hc : actC s a = 0
  · rw [if_pos hc]
    by_cases k0 : kd a = 0
    · rw [if_pos k0]
    · rw [if_neg k0]
      by_cases k1 : kd a = 1 ∨ kd a = 2
      · rw [if_pos k1]
      · rw [if_neg k1]
        by_cases k3 : kd a = 3
        · rw [if_pos k3]
        · rw [if_neg k3]
          by_cases k7 : kd a = 7
          · rw [if_pos k7]
          · exfalso
            unfold opens at h
            rw [decide_eq_true (by omega), decide_eq_true (by omega), hc] at h
            simp at h
  · rw [if_neg hc]
theorem two_new (W : World) {b1 b2 : Nat} (h : (b1 = W.heap.size ∧ b2 = W.heap.size + 1) ∨ (b1 = W.heap.size + 1 ∧ b2 = W.heap.size)) {o : Obj} : b1 ≠ b2 ∧ ((W.alloc o).alloc o).heap[b1]? = some o ∧ ((W.alloc o).alloc o).heap[b2]? = some o ∧ W.heap.size ≤ b1 ∧ W.heap.size ≤ b2 := by
  have h1 : ((W.alloc o).alloc o).heap[W.heap.size + 1]? = some o := by
    have := blk_new (W.alloc o) o
    rwa [show (W.alloc o).heap.size = W.heap.size + 1 by simp] at this
  have h0 : ((W.alloc o).alloc o).heap[W.heap.size]? = some o := by
    have q : (W.alloc o).heap[W.heap.size]? = some o := blk_new W o
    rw [(below_alloc (Below.refl (W.alloc o).heap.size (W.alloc o)) o).block _ (by simp)]
    exact q
  rcases h with ⟨rfl, rfl⟩ | ⟨rfl, rfl⟩
  · exact ⟨by omega, h0, h1, Nat.le_refl _, by omega⟩
  · exact ⟨by omega, h1, h0, by omega, Nat.le_refl _⟩
/-- Does grant n stand? No for one that there is not. -/
def standsV (day : Int) (G : List S39) (n : Int) : Bool := if 1 ≤ n ∧ n ≤ G.length then stB day G n.toNat else false
theorem Stands_any (base g : Nat) (F : Nat → Prop) (w : World) (day : Int) (G : List S39) (E : List S44) (n : Int) (h : BK base F w g day G E) (hT : Tree G) : Calls Try.prog 30 #[.pointer (some ⟨g, 0, none⟩), .int .i64 n] w fun e w' => (∃ c : Int, e = .returned (.tuple #[.bool (standsV day G n), .int .i64 c])) ∧ Below w.heap.size w w' := by
  unfold standsV
  by_cases c : 1 ≤ n ∧ n ≤ G.length
  · rw [if_pos c]
    refine (Stands_ok base g F w day G E n h hT c.1 c.2).mono ?_
    rintro e w' ⟨rfl, hb⟩; exact ⟨⟨0, rfl⟩, hb⟩
  · rw [if_neg c]
    refine (Stands_none base g F w day G E n h c).mono ?_
    rintro e w' ⟨rfl, hb⟩; exact ⟨⟨6, rfl⟩, hb⟩
end Go.Proofs.Ytfnlghjkjmppdaa.PC
