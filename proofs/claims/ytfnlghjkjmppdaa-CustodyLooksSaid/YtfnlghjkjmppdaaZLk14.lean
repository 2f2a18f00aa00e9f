/-
  The texts that the theorem in YtfnlghjkjmppdaaZRowLk rests on, merged (part 15); only what it reaches.
-/
import Derived.Test.YtfnlghjkjmppdaaZLk1
import Derived.Test.YtfnlghjkjmppdaaZLk10
import Derived.Test.YtfnlghjkjmppdaaZLk11
import Derived.Test.YtfnlghjkjmppdaaZLk12
import Derived.Test.YtfnlghjkjmppdaaZLk13
section
namespace Go.Proofs.Ytfnlghjkjmppdaa.PC
open Go.RowKit Go.Proofs.YtfnlghjkjmppdaaW.PrintWords Go.Proofs.YtfnlghjkjmppdaaW.PrintLast Go.Proofs.YtfnlghjkjmppdaaW.PrintMore
set_option linter.unusedVariables false
set_option linter.unusedSimpArgs false
def witR (day : Int) (G : List S39) (E : List S44) (p : Int) (v i k : Nat) : Bool := servR day G E p (v : Int) i && (servR day G E p (v : Int) k && (((gr G i).f2 != (gr G k).f2) && sharR p (gr G i) (gr G k)))
def kOr (day : Int) (G : List S39) (E : List S44) (p : Int) (v i : Nat) (a : Int) : Nat → Int
  | 0 => a
  | k + 1 => if witR day G E p v i (k + 1) then bits .or .i64 (kOr day G E p v i a k) (wrap64 ((2 : Int) ^ v)) else kOr day G E p v i a k
def iOr (day : Int) (G : List S39) (E : List S44) (p : Int) (v : Nat) (a : Int) : Nat → Int
  | 0 => a
  | i + 1 => kOr day G E p v (i + 1) (iOr day G E p v a i) i
def vOr (day : Int) (G : List S39) (E : List S44) (p : Int) : Nat → Int
  | 0 => 0
  | v + 1 => iOr day G E p v (vOr day G E p v) G.length
section
variable {day : Int} {G : List S39} {E : List S44} {p : Int}
theorem two_sm {v : Nat} (h : v ≤ 15) : Sm (wrap64 ((2 : Int) ^ v)) ∧ ∀ u, tb (wrap64 ((2 : Int) ^ v)) u = decide (u = v) := by
  obtain ⟨e, hlt⟩ := pw (f := (v : Int)) (by omega) (by omega)
  rw [Int.toNat_natCast] at e hlt
  rw [e]
  refine ⟨⟨Int.natCast_nonneg _, Int.ofNat_lt.2 hlt⟩, fun u => ?_⟩
  unfold tb
  rw [Int.toNat_natCast, Nat.testBit_two_pow]
  by_cases c : v = u
  · rw [decide_eq_true c, decide_eq_true c.symm]
  · rw [decide_eq_false c, decide_eq_false (fun q => c q.symm)]
theorem kOr_tb {v i : Nat} (h : v ≤ 15) {a : Int} (ha : Sm a) : ∀ k, Sm (kOr day G E p v i a k) ∧ ∀ u, tb (kOr day G E p v i a k) u = true ↔ tb a u = true ∨ (u = v ∧ ∃ m, 1 ≤ m ∧ m ≤ k ∧ witR day G E p v i m = true)
  | 0 => ⟨ha, fun u => ⟨Or.inl, fun q => q.elim id (fun z => by obtain ⟨_, m, h1, h2, _⟩ := z; omega)⟩⟩
  | k + 1 => by
    obtain ⟨k1, k2⟩ := kOr_tb h ha k
    unfold kOr
    by_cases c : witR day G E p v i (k + 1) = true
    · rw [if_pos c]
      refine ⟨sm_or k1 (two_sm h).1, fun u => ?_⟩
      rw [tb_or k1 (two_sm h).1, (two_sm h).2, Bool.or_eq_true, k2 u, decide_eq_true_eq]
      constructor
      · rintro ((z | ⟨z, m, h1, h2, h3⟩) | z)
        · exact Or.inl z
        · exact Or.inr ⟨z, m, h1, by omega, h3⟩
        · exact Or.inr ⟨z, k + 1, by omega, by omega, c⟩
      · rintro (z | ⟨z, _⟩)
        · exact Or.inl (Or.inl z)
        · exact Or.inr z
    · rw [if_neg c]
      refine ⟨k1, fun u => ?_⟩
      rw [k2 u]
      constructor
      · rintro (z | ⟨z, m, h1, h2, h3⟩)
        · exact Or.inl z
        · exact Or.inr ⟨z, m, h1, by omega, h3⟩
      · rintro (z | ⟨z, m, h1, h2, h3⟩)
        · exact Or.inl z
        · by_cases e : m = k + 1
          · subst e; exact absurd h3 c
          · exact Or.inr ⟨z, m, h1, by omega, h3⟩
theorem iOr_tb {v : Nat} (h : v ≤ 15) {a : Int} (ha : Sm a) : ∀ n, Sm (iOr day G E p v a n) ∧ ∀ u, tb (iOr day G E p v a n) u = true ↔ tb a u = true ∨ (u = v ∧ ∃ i k, 1 ≤ k ∧ k < i ∧ i ≤ n ∧ witR day G E p v i k = true)
  | 0 => ⟨ha, fun u => ⟨Or.inl, fun q => q.elim id (fun z => by obtain ⟨_, i, k, h1, h2, h3, _⟩ := z; omega)⟩⟩
  | n + 1 => by
    obtain ⟨k1, k2⟩ := iOr_tb h ha n
    obtain ⟨m1, m2⟩ := kOr_tb (day := day) (G := G) (E := E) (p := p) (i := n + 1) h k1 n
    refine ⟨m1, fun u => ?_⟩
    show tb (kOr day G E p v (n + 1) (iOr day G E p v a n) n) u = true ↔ _
    rw [m2 u, k2 u]
    constructor
    · rintro ((z | ⟨z, i, k, h1, h2, h3, h4⟩) | ⟨z, m, h1, h2, h3⟩)
      · exact Or.inl z
      · exact Or.inr ⟨z, i, k, h1, h2, by omega, h4⟩
      · exact Or.inr ⟨z, n + 1, m, h1, by omega, by omega, h3⟩
    · rintro (z | ⟨z, i, k, h1, h2, h3, h4⟩)
      · exact Or.inl (Or.inl z)
      · by_cases e : i = n + 1
        · subst e; exact Or.inr ⟨z, k, h1, by omega, h4⟩
        · exact Or.inl (Or.inr ⟨z, i, k, h1, h2, by omega, h4⟩)
theorem vOr_tb : ∀ m, m ≤ 16 → Sm (vOr day G E p m) ∧ ∀ u, tb (vOr day G E p m) u = true ↔ u < m ∧ ∃ i k, 1 ≤ k ∧ k < i ∧ i ≤ G.length ∧ witR day G E p u i k = true
  | 0, _ => ⟨⟨Int.le_refl _, by show (0 : Int) < 65536; omega⟩, fun u => ⟨fun q => by unfold vOr tb at q; simp at q, fun z => by omega⟩⟩
  | v + 1, h => by
    obtain ⟨k1, k2⟩ := vOr_tb v (by omega)
    obtain ⟨m1, m2⟩ := iOr_tb (day := day) (G := G) (E := E) (p := p) (v := v) (by omega) k1 G.length
    refine ⟨m1, fun u => ?_⟩
    show tb (iOr day G E p v (vOr day G E p v) G.length) u = true ↔ _
    rw [m2 u, k2 u]
    constructor
    · rintro (⟨h1, z⟩ | ⟨rfl, z⟩)
      · exact ⟨by omega, z⟩
      · exact ⟨by omega, z⟩
    · rintro ⟨h1, z⟩
      by_cases e : u = v
      · subst e; exact Or.inr ⟨rfl, z⟩
      · exact Or.inl ⟨by omega, z⟩
end
theorem shr_tb {x : Int} (h : Sm x) (v : Nat) (hv : v ≤ 15) : ((x / 2 ^ v).tmod 2 == 1) = tb x v := by
  obtain ⟨n, rfl⟩ := Int.eq_ofNat_of_zero_le h.1
  unfold tb
  rw [Int.toNat_natCast, Nat.testBit_eq_decide_div_mod_eq]
  have e : ((n : Int) / 2 ^ v).tmod 2 = ((n / 2 ^ v % 2 : Nat) : Int) := by
    rw [show ((n : Int) / 2 ^ v) = ((n / 2 ^ v : Nat) : Int) by simp, Int.tmod_eq_emod_of_nonneg (Int.natCast_nonneg _)]; simp
  rw [e, Bool.eq_iff_iff, beq_iff_eq, decide_eq_true_eq]
  omega
theorem else_of {p f : Int} (hp : Sm p) (h0 : 0 ≤ f) (h1 : f ≤ 15) (hf : tb p f.toNat = true) : (bits .andNot .i64 p (wrap64 ((2 : Int) ^ f.toNat)) != 0) = true ↔ p ≠ wrap64 ((2 : Int) ^ f.toNat) := by
  rw [else_bit hp h0 h1]
  have ht := two_sm (v := f.toNat) (by omega)
  constructor
  · rintro ⟨i, h2, h3⟩ e
    rw [e, ht.2, decide_eq_true_eq] at h3
    exact h2 h3
  · intro h
    refine Classical.byContradiction fun q => h (tb_ext hp ht.1 (fun u => ?_))
    rw [ht.2]
    by_cases c : u = f.toNat
    · rw [decide_eq_true c, c, hf]
    · rw [decide_eq_false c, Bool.eq_false_iff]
      exact fun z => q ⟨u, c, z⟩
theorem servR_iff {s : St} {M : List Int} (h : Same s M) {p : Int} (hp : Sm p) {v n : Nat} (hv : v ≤ 15) (h1 : 1 ≤ n) (h2 : n ≤ s.G.length) : servR s.day (refG s.G M) s.E p (v : Int) n = true ↔ servB s.day s.G p n = true ∧ tb (gr s.G n).f4 v = true := by
  have hI := h.inv
  obtain ⟨o1, o2, o3, o4, o5, o6, _⟩ := hI.2 n h1 h2
  have hg := gr_ref s.G M h1 h2
  rw [servB_iff hI hp h1 h2]
  unfold servR
  rw [h.key (by omega) (by omega), hg]
  show (((p / 2 ^ (gr s.G n).f3.toNat).tmod 2 == 1) && (keyC s.day s.G (v : Int) (n : Int) (gr s.G n).f3 == 0)) = true ↔ _
  rw [shr_tb hp _ (by omega), Bool.and_eq_true]
  rw [show (tb (gr s.G n).f5 0 = true) = ((bits .and .i64 (gr s.G n).f5 1 != 0) = true) by rw [one_bit (by omega) o6]]
  unfold keyC badB
  rw [if_neg (by omega), Int.toNat_natCast]
  have hb : (bits .and .i64 (gr s.G n).f4 (wrap64 ((2 : Int) ^ ((v : Nat) : Int).toNat)) != 0) = tb (gr s.G n).f4 v := serv_bit (p := (gr s.G n).f4) (f := (v : Int)) ⟨by omega, o4⟩ (by omega) (by omega)
  rw [← hb]
  generalize tb p (gr s.G n).f3.toNat = t1
  generalize stB s.day s.G n = t2
  generalize spB s.G n = t3
  cases t4 : (bits .and .i64 (gr s.G n).f5 1 == 0) <;> cases t5 : (bits .and .i64 (gr s.G n).f4 (wrap64 ((2 : Int) ^ ((v : Nat) : Int).toNat)) == 0) <;> cases t1 <;> cases t2 <;> cases t3 <;> simp_all [bne]
theorem witR_iff {s : St} {M : List Int} (h : Same s M) {p : Int} (hp : Sm p) {v i k : Nat} (hv : v ≤ 15) (h1 : 1 ≤ k) (h2 : k < i) (h3 : i ≤ s.G.length) : witR s.day (refG s.G M) s.E p v i k = true ↔ servB s.day s.G p i = true ∧ servB s.day s.G p k = true ∧ pairB p (gr s.G i) (gr s.G k) = true ∧ tb (gr s.G i).f4 v = true ∧ tb (gr s.G k).f4 v = true := by
  have hI := h.inv
  have oi := hI.2 i (by omega) h3
  have ok := hI.2 k h1 (by omega)
  unfold witR
  rw [Bool.and_eq_true, Bool.and_eq_true, Bool.and_eq_true, servR_iff h hp hv (by omega) h3, servR_iff h hp hv h1 (by omega), gr_ref s.G M (by omega) h3, gr_ref s.G M h1 (by omega), bne_iff_ne]
  have hsh : sharR p (gr s.G i) (gr s.G k) = true ↔ ((gr s.G i).f3 ≠ (gr s.G k).f3 ∨ ((tb (gr s.G i).f5 1 = true ∨ tb (gr s.G k).f5 1 = true) ∧ p ≠ wrap64 ((2 : Int) ^ (gr s.G i).f3.toNat))) := by
    unfold sharR
    rw [Bool.or_eq_true, Bool.and_eq_true, Bool.or_eq_true, bne_iff_ne, bne_iff_ne, two_bit (by have := oi.2.2.2.2.1; omega) oi.2.2.2.2.2.1, two_bit (by have := ok.2.2.2.2.1; omega) ok.2.2.2.2.2.1]
    exact ⟨fun z => z.imp id And.symm, fun z => z.imp id And.symm⟩
  constructor
  · rintro ⟨⟨a1, a2⟩, ⟨b1, b2⟩, c1, c2⟩
    refine ⟨a1, b1, (pair_two hp oi ok).2 ⟨c1, ?_⟩, a2, b2⟩
    rcases hsh.1 c2 with z | ⟨z, z2⟩
    · exact Or.inl z
    · refine Or.inr ⟨z, (else_bit hp oi.1 oi.2.1).1 ?_⟩
      exact (else_of hp oi.1 oi.2.1 ((servB_iff hI hp (by omega) h3).1 a1).1).2 z2
  · rintro ⟨a1, b1, c, a2, b2⟩
    obtain ⟨c1, c2⟩ := (pair_two hp oi ok).1 c
    refine ⟨⟨a1, a2⟩, ⟨b1, b2⟩, c1, hsh.2 ?_⟩
    rcases c2 with z | ⟨z, z2⟩
    · exact Or.inl z
    · exact Or.inr ⟨z, (else_of hp oi.1 oi.2.1 ((servB_iff hI hp (by omega) h3).1 a1).1).1 ((else_bit hp oi.1 oi.2.1).2 z2)⟩
theorem could_both {s : St} {M : List Int} (h : Same s M) {p : Int} (hp : Sm p) : vOr s.day (refG s.G M) s.E p 16 = couldS s.day s.G p := by
  have h1 := vOr_tb (day := s.day) (G := refG s.G M) (E := s.E) (p := p) 16 (Nat.le_refl _)
  have h2 := could_tb (day := s.day) (p := p) h.inv
  refine tb_ext h1.1 h2.1 (fun v => ?_)
  rw [Bool.eq_iff_iff, h1.2 v, h2.2 v, refG_len]
  constructor
  · rintro ⟨hv, i, k, a1, a2, a3, a4⟩
    obtain ⟨b1, b2, b3, b4, b5⟩ := (witR_iff h hp (by omega) a1 a2 a3).1 a4
    exact ⟨i, k, a1, a2, a3, b1, b2, b3, b4, b5⟩
  · rintro ⟨i, k, a1, a2, a3, b1, b2, b3, b4, b5⟩
    have hv : v ≤ 15 := Classical.byContradiction fun q => by
      have o4 := (h.inv.2 i (by omega) a3).2.2.2.1
      have o3 := (h.inv.2 i (by omega) a3).2.2.1
      unfold tb at b4
      have hlt : (gr s.G i).f4.toNat < 2 ^ v := Nat.lt_of_lt_of_le (show (gr s.G i).f4.toNat < 2 ^ 16 by omega) (Nat.pow_le_pow_right (by omega) (by omega))
      rw [Nat.testBit_lt_two_pow hlt] at b4
      cases b4
    exact ⟨by omega, i, k, a1, a2, a3, (witR_iff h hp hv a1 a2 a3).2 ⟨b1, b2, b3, b4, b5⟩⟩
set_option maxHeartbeats 12800000 in
set_option maxRecDepth 100000 in
theorem Could_r (w : World) (AG : Option Addr) (cG : Nat) (G : List S39) (AE : Option Addr) (cE : Nat) (E : List S44) (day : Int) (p : Int) (h : RB w AG cG G AE cE E) (hT : Tree G) (hE : EIn G E) (hEl : E.length ≤ 100) (hU : ∀ m : Nat, 1 ≤ m → m ≤ G.length → (gr G m).f7 ≤ 1048576) (hO : ∀ q : Nat, q < G.length → 0 ≤ (gr G (q + 1)).f3 ∧ (gr G (q + 1)).f3 ≤ 15) (hp0 : 0 ≤ p) (hp1 : p < 65536) : Calls Try.prog 29 #[.agg #[.slice AG G.length cG, .slice AE E.length cE, .int .i64 day], .int .i64 p] w fun e w' => e = .returned (.tuple #[.int .i64 (vOr day G E p 16), .int .i64 0]) ∧ Below w.heap.size w w' := by
  have HE := lhid hE
  have HU := lhid hU
  have HEL := lhid hEl
  have HO := lhid hO
  clear hE hU hEl hO
  have hu51 := Try.underlying51
  have hu39 := Try.underlying39
  have hu44 := Try.underlying44
  have HR0 := lhid h
  have HT := lhid hT
  have hgl := hT.1
  clear h hT
  go_enter Try.func29, Try.ntmps29
  have HB_1 := lhid (Below.refl w.heap.size w)
  go_upto_region 1 with (fail)
  have hb := below_alloc (Below.refl w.heap.size w) (.cells #[.slice AG G.length cG, .slice AE E.length cE, .int .i64 day] 51)
  have hn := blk_new w (.cells #[.slice AG G.length cG, .slice AE E.length cE, .int .i64 day] 51)
  have HZ1 := lhid (show (World.alloc w (.cells #[.slice AG G.length cG, .slice AE E.length cE, .int .i64 day] 51)).heap.size = w.heap.size + 1 from by simp)
  generalize hq : World.alloc w (.cells #[.slice AG G.length cG, .slice AE E.length cE, .int .i64 day] 51) = w1 at hb hn HZ1 ⊢
  clear hq
  have HR_2 := lhid (HR0.out.next hb)
  have HB_3 := lhid (below_then HB_1.out HB_1.out.size hb)
  clear HR0 HB_1 hb
  have XB_4 := lhid (hn)
  clear hn
  obtain ⟨xb, hxb⟩ : ∃ q, q = w.heap.size := ⟨_, rfl⟩
  rw [← hxb] at XB_4 ⊢
  clear hxb
  have d1 : decide (p < 0) = false := decide_eq_false (by omega)
  have d2 : decide (p ≥ 65536) = false := decide_eq_false (by omega)
  go_upto_region 5 with (fail)
  try any_goals (exfalso; omega)
  go_loopw [6, 7] (fun o t wr => ∃ v : Nat, v ≤ 16 ∧ t = .int .i64 (v : Int) ∧ o = .int .i64 (vOr day G E p v) ∧ Hid (RB wr AG cG G AE cE E) ∧ Hid (Below w.heap.size w wr) ∧ Hid (wr.heap[xb]? = some (.cells #[.slice AG G.length cG, .slice AE E.length cE, .int .i64 day] 51))) (fun o t _ => 16 - (intOf t).toNat)
  case atStart => exact ⟨0, by omega, rfl, rfl, HR_2, HB_3, XB_4⟩
  case round =>
    obtain ⟨v, hv, rfl, rfl, HRr_5, HBr_6, XBr_7⟩ := hrel
    clear HR_2 HB_3 XB_4
    by_cases hv5 : v < 16
    · have hv6 : (v : Int) ≤ 15 := by omega
      have HVS := lhid (show vOr day G E p (v + 1) = iOr day G E p v (vOr day G E p v) G.length from rfl)
      obtain ⟨a, ha⟩ : ∃ a, a = vOr day G E p v := ⟨_, rfl⟩
      rw [← ha] at HVS ⊢
      clear ha
      go_upto_region 8 with (fail)
      try any_goals (exfalso; omega)
      go_loopw [6, 8] (fun o t wr => ∃ i : Nat, i ≤ G.length ∧ t = .int .i64 ((i : Int) + 1) ∧ o = .int .i64 (iOr day G E p v a i) ∧ Hid (RB wr AG cG G AE cE E) ∧ Hid (Below w.heap.size w wr) ∧ Hid (wr.heap[xb]? = some (.cells #[.slice AG G.length cG, .slice AE E.length cE, .int .i64 day] 51))) (fun o t _ => G.length + 1 - (intOf t).toNat)
      case atStart => exact ⟨0, by omega, rfl, rfl, HRr_5, HBr_6, XBr_7⟩
      case round =>
        obtain ⟨i, hi, rfl, rfl, HRr_8, HBr_9, XBr_10⟩ := hrel
        clear HRr_5 HBr_6 XBr_7
        by_cases hlt : i < G.length
        · have hlt2 : (i : Int) + 1 ≤ (G.length : Int) := by omega
          have HIS := lhid (show iOr day G E p v a (i + 1) = kOr day G E p v (i + 1) (iOr day G E p v a i) i from rfl)
          obtain ⟨b, hb⟩ : ∃ b, b = iOr day G E p v a i := ⟨_, rfl⟩
          rw [← hb] at HIS ⊢
          clear hb
          obtain ⟨z0, z1, z2⟩ := three XBr_10.out
          go_upto_region 11 with (fail)
          try any_goals (exfalso; omega)
          clear z0 z1 z2
          go_loopw [6, 9] (fun o t wr => ∃ k : Nat, k ≤ i ∧ t = .int .i64 ((k : Int) + 1) ∧ o = .int .i64 (kOr day G E p v (i + 1) b k) ∧ Hid (RB wr AG cG G AE cE E) ∧ Hid (Below w.heap.size w wr) ∧ Hid (wr.heap[xb]? = some (.cells #[.slice AG G.length cG, .slice AE E.length cE, .int .i64 day] 51))) (fun o t _ => i + 1 - (intOf t).toNat)
          case atStart => exact ⟨0, by omega, rfl, rfl, HRr_8, HBr_9, XBr_10⟩
          case round =>
            obtain ⟨k, hk, rfl, rfl, HRr_11, HBr_12, XBr_13⟩ := hrel
            clear HRr_8 HBr_9 XBr_10
            by_cases hkt : k < i
            · have hkt2 : (k : Int) + 1 < (i : Int) + 1 := by omega
              have HKS := lhid (show kOr day G E p v (i + 1) b (k + 1) = if witR day G E p v (i + 1) (k + 1) then bits .or .i64 (kOr day G E p v (i + 1) b k) (wrap64 ((2 : Int) ^ v)) else kOr day G E p v (i + 1) b k from rfl)
              obtain ⟨c, hc⟩ : ∃ c, c = kOr day G E p v (i + 1) b k := ⟨_, rfl⟩
              rw [← hc] at HKS ⊢
              clear hc
              have hwi : wrap64 (i : Int) = (i : Int) := by unfold wrap64; omega
              have hwk : wrap64 (k : Int) = (k : Int) := by unfold wrap64; omega
              have hi1 : (0 : Int) ≤ (i : Int) := by omega
              have hi2 : (i : Int) < (G.length : Int) := by omega
              have hk1 : (0 : Int) ≤ (k : Int) := by omega
              have hk2 : (k : Int) < (G.length : Int) := by omega
              have hv7 : (0 : Int) ≤ (v : Int) := by omega
              obtain ⟨ad, eA, -⟩ := at_T39 (HRr_11.out).c (i : Int) (by omega) (by omega)
              subst eA
              obtain ⟨f, hf⟩ : ∃ f, f = (gr G (i + 1)).f2 := ⟨_, rfl⟩
              obtain ⟨h, hh⟩ : ∃ h, h = (gr G (k + 1)).f2 := ⟨_, rfl⟩
              have HF := lhid hf
              have HH := lhid hh
              clear hf hh
              go_upto_region 13 with (fail)
              try any_goals (exfalso; omega)
              cases s1 : servR day G E p (v : Int) (i + 1)
              · have hb := below_drew1 (Below.refl wr.heap.size wr)
                have HR_14 := lhid (HRr_11.out.next hb)
                have HB_15 := lhid (below_then HBr_12.out HBr_12.out.size hb)
                have XB_16 := lhid (blk_below XBr_13.out hb)
                clear HRr_11 HBr_12 XBr_13 hb
                refine start_ (n := 36) (S := fun w' => w'.cell? ⟨xb, 0, none⟩ = some (.slice (some ad) G.length cG) ∧ w'.cell? ⟨xb, 1, none⟩ = some (.slice AE E.length cE) ∧ w'.cell? ⟨xb, 2, none⟩ = some (.int .i64 day) ∧ w'.cell? ⟨(ad.add (i * 9)).block, (ad.add (i * 9)).off + 2, none⟩ = some (.int .i64 f) ∧ w'.cell? ⟨(ad.add (k * 9)).block, (ad.add (k * 9)).off + 2, none⟩ = some (.int .i64 h)) (ds := []) (lsb 36 0) (by kernel_rfl) rfl (by kernel_rfl) ⟨(three XB_16.out).1, (three XB_16.out).2.1, (three XB_16.out).2.2, (by obtain ⟨ad', eA', x0, x1, x2, x3, x4, x5, x6, x7, x8⟩ := at_T39 (HR_14.out).c (i : Int) (by omega) (by omega); cases eA'; rw [rd_gr, Int.toNat_natCast] at x2; rw [HF.out]; exact x2), (by obtain ⟨ad', eA', x0, x1, x2, x3, x4, x5, x6, x7, x8⟩ := at_T39 (HR_14.out).c (k : Int) (by omega) (by omega); cases eA'; rw [rd_gr, Int.toNat_natCast] at x2; rw [HH.out]; exact x2)⟩ (fun hHeld => ?_)
                generalize wr.drew = w2 at HR_14 HB_15 XB_16 hHeld ⊢
                refine pu 1 (some 33) 36 2 rfl rfl (v := ?_) (a' := ?_) ?_ ?_ ?_; rotate_left; (intro w'; go_simp; with_reducible rfl); rotate_left; (simp only [Act.put, pS]; rfl)
                refine pu 2 (some 34) 36 6 rfl rfl (v := ?_) (a' := ?_) ?_ ?_ ?_; rotate_left; (intro w'; go_simp; with_reducible rfl); rotate_left; (simp only [Act.put, pS]; rfl)
                refine pu 3 (some 35) 36 14 rfl rfl (v := ?_) (a' := ?_) ?_ ?_ ?_; rotate_left; (intro w'; go_simp; with_reducible rfl); rotate_left; (simp only [Act.put, pS]; rfl)
                refine tk 0 (some 32) 36 15 rfl rfl hHeld (v := ?_) (a' := ?_) ?_ ?_ ?_; rotate_left; (rintro w' ⟨s0, s1, s2, s3, s4⟩; go_simp; with_reducible rfl); rotate_left; (simp only [Act.put, pS]; rfl)
                refine one_ (i := 4) (N := some 36) (lsb 36 31) rfl rfl (by kernel_rfl) (by decide) (fun K hK => ?_)
                refine goes_ Try.func56 (by kernel_rfl) rfl #[.agg #[.slice (some ad) G.length cG, .slice AE E.length cE, .int .i64 day], .int .i64 (v : Int), .int .i64 ((i : Int) + 1), .int .i64 p] (by rfl) rfl rfl (by (try simp only [List.map_toArray, List.map_cons, List.map_nil]); first | done | rfl) ?_
                with_reducible refine (serves_r _ (some ad) cG G AE cE E day p (v : Int) i HR_14.out HT.out HE.out HEL.out HU.out (by omega) (by omega) hp0 hp1 (by omega) (HO.out i (by omega))).mono ?_
                rintro e w3 ⟨rfl, hb⟩
                refine ⟨_, rfl, ?_⟩
                have HR_17 := lhid (HR_14.out.next hb)
                have HB_18 := lhid (below_then HB_15.out HB_15.out.size hb)
                have XB_19 := lhid (blk_below XB_16.out hb)
                clear HR_14 HB_15 XB_16 hb
                rw [s1]
                refine hK.out _ _ ⟨(three XB_19.out).1, (three XB_19.out).2.1, (three XB_19.out).2.2, (by obtain ⟨ad', eA', x0, x1, x2, x3, x4, x5, x6, x7, x8⟩ := at_T39 (HR_17.out).c (i : Int) (by omega) (by omega); cases eA'; rw [rd_gr, Int.toNat_natCast] at x2; rw [HF.out]; exact x2), (by obtain ⟨ad', eA', x0, x1, x2, x3, x4, x5, x6, x7, x8⟩ := at_T39 (HR_17.out).c (k : Int) (by omega) (by omega); cases eA'; rw [rd_gr, Int.toNat_natCast] at x2; rw [HH.out]; exact x2)⟩ (fun hHeld => ?_)
                clear hK K
                refine norm_ (a' := ?_) ?_ ?_
                rotate_left
                · show Act.put _ (some 36) _ = _
                  simp only [Act.put, pS]
                  rfl
                refine pu 5 (some 37) 36 63 rfl rfl (v := ?_) (a' := ?_) ?_ ?_ ?_; rotate_left; (intro w'; go_simp; with_reducible rfl); rotate_left; (simp only [Act.put, pS]; rfl)
                refine pf 6 (some 38) 36 127 rfl rfl (a' := ?_) ?_ ?_; rotate_left; (simp only [Act.put, pS]; rfl)
                refine pf 7 (some 39) 36 255 rfl rfl (a' := ?_) ?_ ?_; rotate_left; (simp only [Act.put, pS]; rfl)
                refine pf 8 (some 40) 36 511 rfl rfl (a' := ?_) ?_ ?_; rotate_left; (simp only [Act.put, pS]; rfl)
                refine pf 9 (some 41) 36 1023 rfl rfl (a' := ?_) ?_ ?_; rotate_left; (simp only [Act.put, pS]; rfl)
                refine pf 10 (some 42) 36 2047 rfl rfl (a' := ?_) ?_ ?_; rotate_left; (simp only [Act.put, pS]; rfl)
                refine pu 11 (some 43) 36 4095 rfl rfl (v := ?_) (a' := ?_) ?_ ?_ ?_; rotate_left; (intro w'; go_simp; with_reducible rfl); rotate_left; (simp only [Act.put, pS]; rfl)
                refine pu 12 (some 44) 36 8191 rfl rfl (v := ?_) (a' := ?_) ?_ ?_ ?_; rotate_left; (intro w'; go_simp; with_reducible rfl); rotate_left; (simp only [Act.put, pS]; rfl)
                refine pf 13 (some 45) 36 16383 rfl rfl (a' := ?_) ?_ ?_; rotate_left; (simp only [Act.put, pS]; rfl)
                refine pf 14 (some 46) 36 32767 rfl rfl (a' := ?_) ?_ ?_; rotate_left; (simp only [Act.put, pS]; rfl)
                refine pf 15 (some 47) 36 65535 rfl rfl (a' := ?_) ?_ ?_; rotate_left; (simp only [Act.put, pS]; rfl)
                refine pf 16 (some 48) 36 131071 rfl rfl (a' := ?_) ?_ ?_; rotate_left; (simp only [Act.put, pS]; rfl)
                refine pf 17 (some 49) 36 262143 rfl rfl (a' := ?_) ?_ ?_; rotate_left; (simp only [Act.put, pS]; rfl)
                refine pf 18 (some 50) 36 524287 rfl rfl (a' := ?_) ?_ ?_; rotate_left; (simp only [Act.put, pS]; rfl)
                refine pf 19 (some 51) 36 1048575 rfl rfl (a' := ?_) ?_ ?_; rotate_left; (simp only [Act.put, pS]; rfl)
                refine pf 20 (some 52) 36 2097151 rfl rfl (a' := ?_) ?_ ?_; rotate_left; (simp only [Act.put, pS]; rfl)
                refine pf 21 (some 53) 36 4194303 rfl rfl (a' := ?_) ?_ ?_; rotate_left; (simp only [Act.put, pS]; rfl)
                refine pf 22 (some 54) 36 8388607 rfl rfl (a' := ?_) ?_ ?_; rotate_left; (simp only [Act.put, pS]; rfl)
                refine pf 23 (some 55) 36 16777215 rfl rfl (a' := ?_) ?_ ?_; rotate_left; (simp only [Act.put, pS]; rfl)
                refine pf 24 (some 56) 36 33554431 rfl rfl (a' := ?_) ?_ ?_; rotate_left; (simp only [Act.put, pS]; rfl)
                refine pf 25 (some 57) 36 67108863 rfl rfl (a' := ?_) ?_ ?_; rotate_left; (simp only [Act.put, pS]; rfl)
                refine pf 26 (some 58) 36 134217727 rfl rfl (a' := ?_) ?_ ?_; rotate_left; (simp only [Act.put, pS]; rfl)
                refine pf 27 (some 59) 36 268435455 rfl rfl (a' := ?_) ?_ ?_; rotate_left; (simp only [Act.put, pS]; rfl)
                refine pu 28 (some 60) 36 536870911 rfl rfl (v := ?_) (a' := ?_) ?_ ?_ ?_; rotate_left; (intro w'; go_simp; with_reducible rfl); rotate_left; (simp only [Act.put, pS]; rfl)
                refine pu 29 (some 61) 36 1073741823 rfl rfl (v := ?_) (a' := ?_) ?_ ?_ ?_; rotate_left; (intro w'; go_simp; with_reducible rfl); rotate_left; (simp only [Act.put, pS]; rfl)
                refine pf 30 (some 62) 36 2147483647 rfl rfl (a' := ?_) ?_ ?_; rotate_left; (simp only [Act.put, pS]; rfl)
                refine pf 31 (some 63) 36 4294967295 rfl rfl (a' := ?_) ?_ ?_; rotate_left; (simp only [Act.put, pS]; rfl)
                refine pf 32 (some 64) 36 8589934591 rfl rfl (a' := ?_) ?_ ?_; rotate_left; (simp only [Act.put, pS]; rfl)
                refine pf 33 (some 65) 36 17179869183 rfl rfl (a' := ?_) ?_ ?_; rotate_left; (simp only [Act.put, pS]; rfl)
                refine pf 34 (some 66) 36 34359738367 rfl rfl (a' := ?_) ?_ ?_; rotate_left; (simp only [Act.put, pS]; rfl)
                refine pu 35 (some 67) 36 68719476735 rfl rfl (v := ?_) (a' := ?_) ?_ ?_ ?_; rotate_left; (intro w'; go_simp; with_reducible rfl); rotate_left; (simp only [Act.put, pS]; rfl)
                refine done_ (by kernel_rfl) ?_
                
                have hw : witR day G E p v (i + 1) (k + 1) = false := by unfold witR; rw [← HF.out, ← HH.out]; simp [s1]
                rw [hw] at HKS
                go_wp2_with fail
                try any_goals (exfalso; omega)
                try simp only [Int.toNat_natCast]
                go_roundw
                case rel => exact ⟨k + 1, by omega, by simp, by rw [HKS.out]; rfl, HR_17, HB_18, XB_19⟩
                case measure => simp [intOf]; omega
              · cases s2 : servR day G E p (v : Int) (k + 1)
                · have hb := below_drew1 (Below.refl wr.heap.size wr)
                  have HR_20 := lhid (HRr_11.out.next hb)
                  have HB_21 := lhid (below_then HBr_12.out HBr_12.out.size hb)
                  have XB_22 := lhid (blk_below XBr_13.out hb)
                  clear HRr_11 HBr_12 XBr_13 hb
                  refine start_ (n := 36) (S := fun w' => w'.cell? ⟨xb, 0, none⟩ = some (.slice (some ad) G.length cG) ∧ w'.cell? ⟨xb, 1, none⟩ = some (.slice AE E.length cE) ∧ w'.cell? ⟨xb, 2, none⟩ = some (.int .i64 day) ∧ w'.cell? ⟨(ad.add (i * 9)).block, (ad.add (i * 9)).off + 2, none⟩ = some (.int .i64 f) ∧ w'.cell? ⟨(ad.add (k * 9)).block, (ad.add (k * 9)).off + 2, none⟩ = some (.int .i64 h)) (ds := []) (lsb 36 0) (by kernel_rfl) rfl (by kernel_rfl) ⟨(three XB_22.out).1, (three XB_22.out).2.1, (three XB_22.out).2.2, (by obtain ⟨ad', eA', x0, x1, x2, x3, x4, x5, x6, x7, x8⟩ := at_T39 (HR_20.out).c (i : Int) (by omega) (by omega); cases eA'; rw [rd_gr, Int.toNat_natCast] at x2; rw [HF.out]; exact x2), (by obtain ⟨ad', eA', x0, x1, x2, x3, x4, x5, x6, x7, x8⟩ := at_T39 (HR_20.out).c (k : Int) (by omega) (by omega); cases eA'; rw [rd_gr, Int.toNat_natCast] at x2; rw [HH.out]; exact x2)⟩ (fun hHeld => ?_)
                  generalize wr.drew = w2 at HR_20 HB_21 XB_22 hHeld ⊢
                  refine pu 1 (some 33) 36 2 rfl rfl (v := ?_) (a' := ?_) ?_ ?_ ?_; rotate_left; (intro w'; go_simp; with_reducible rfl); rotate_left; (simp only [Act.put, pS]; rfl)
                  refine pu 2 (some 34) 36 6 rfl rfl (v := ?_) (a' := ?_) ?_ ?_ ?_; rotate_left; (intro w'; go_simp; with_reducible rfl); rotate_left; (simp only [Act.put, pS]; rfl)
                  refine pu 3 (some 35) 36 14 rfl rfl (v := ?_) (a' := ?_) ?_ ?_ ?_; rotate_left; (intro w'; go_simp; with_reducible rfl); rotate_left; (simp only [Act.put, pS]; rfl)
                  refine tk 0 (some 32) 36 15 rfl rfl hHeld (v := ?_) (a' := ?_) ?_ ?_ ?_; rotate_left; (rintro w' ⟨s0, s1, s2, s3, s4⟩; go_simp; with_reducible rfl); rotate_left; (simp only [Act.put, pS]; rfl)
                  refine one_ (i := 4) (N := some 36) (lsb 36 31) rfl rfl (by kernel_rfl) (by decide) (fun K hK => ?_)
                  refine goes_ Try.func56 (by kernel_rfl) rfl #[.agg #[.slice (some ad) G.length cG, .slice AE E.length cE, .int .i64 day], .int .i64 (v : Int), .int .i64 ((i : Int) + 1), .int .i64 p] (by rfl) rfl rfl (by (try simp only [List.map_toArray, List.map_cons, List.map_nil]); first | done | rfl) ?_
                  with_reducible refine (serves_r _ (some ad) cG G AE cE E day p (v : Int) i HR_20.out HT.out HE.out HEL.out HU.out (by omega) (by omega) hp0 hp1 (by omega) (HO.out i (by omega))).mono ?_
                  rintro e w3 ⟨rfl, hb⟩
                  refine ⟨_, rfl, ?_⟩
                  have HR_23 := lhid (HR_20.out.next hb)
                  have HB_24 := lhid (below_then HB_21.out HB_21.out.size hb)
                  have XB_25 := lhid (blk_below XB_22.out hb)
                  clear HR_20 HB_21 XB_22 hb
                  rw [s1]
                  refine hK.out _ _ ⟨(three XB_25.out).1, (three XB_25.out).2.1, (three XB_25.out).2.2, (by obtain ⟨ad', eA', x0, x1, x2, x3, x4, x5, x6, x7, x8⟩ := at_T39 (HR_23.out).c (i : Int) (by omega) (by omega); cases eA'; rw [rd_gr, Int.toNat_natCast] at x2; rw [HF.out]; exact x2), (by obtain ⟨ad', eA', x0, x1, x2, x3, x4, x5, x6, x7, x8⟩ := at_T39 (HR_23.out).c (k : Int) (by omega) (by omega); cases eA'; rw [rd_gr, Int.toNat_natCast] at x2; rw [HH.out]; exact x2)⟩ (fun hHeld => ?_)
                  clear hK K
                  refine norm_ (a' := ?_) ?_ ?_
                  rotate_left
                  · show Act.put _ (some 36) _ = _
                    simp only [Act.put, pS]
                    rfl
                  refine pu 5 (some 37) 36 63 rfl rfl (v := ?_) (a' := ?_) ?_ ?_ ?_; rotate_left; (intro w'; go_simp; with_reducible rfl); rotate_left; (simp only [Act.put, pS]; rfl)
                  refine pu 7 (some 39) 36 191 rfl rfl (v := ?_) (a' := ?_) ?_ ?_ ?_; rotate_left; (intro w'; go_simp; with_reducible rfl); rotate_left; (simp only [Act.put, pS]; rfl)
                  refine pu 8 (some 40) 36 447 rfl rfl (v := ?_) (a' := ?_) ?_ ?_ ?_; rotate_left; (intro w'; go_simp; with_reducible rfl); rotate_left; (simp only [Act.put, pS]; rfl)
                  refine pu 9 (some 41) 36 959 rfl rfl (v := ?_) (a' := ?_) ?_ ?_ ?_; rotate_left; (intro w'; go_simp; with_reducible rfl); rotate_left; (simp only [Act.put, pS]; rfl)
                  refine tk 6 (some 38) 36 1023 rfl rfl hHeld (v := ?_) (a' := ?_) ?_ ?_ ?_; rotate_left; (rintro w' ⟨s0, s1, s2, s3, s4⟩; go_simp; with_reducible rfl); rotate_left; (simp only [Act.put, pS]; rfl)
                  refine one_ (i := 10) (N := some 42) (lsb 36 2047) rfl rfl (by kernel_rfl) (by decide) (fun K hK => ?_)
                  refine goes_ Try.func56 (by kernel_rfl) rfl #[.agg #[.slice (some ad) G.length cG, .slice AE E.length cE, .int .i64 day], .int .i64 (v : Int), .int .i64 ((k : Int) + 1), .int .i64 p] (by rfl) rfl rfl (by (try simp only [List.map_toArray, List.map_cons, List.map_nil]); first | done | rfl) ?_
                  with_reducible refine (serves_r _ (some ad) cG G AE cE E day p (v : Int) k HR_23.out HT.out HE.out HEL.out HU.out (by omega) (by omega) hp0 hp1 (by omega) (HO.out k (by omega))).mono ?_
                  rintro e w4 ⟨rfl, hb⟩
                  refine ⟨_, rfl, ?_⟩
                  have HR_26 := lhid (HR_23.out.next hb)
                  have HB_27 := lhid (below_then HB_24.out HB_24.out.size hb)
                  have XB_28 := lhid (blk_below XB_25.out hb)
                  clear HR_23 HB_24 XB_25 hb
                  rw [s2]
                  refine hK.out _ _ ⟨(three XB_28.out).1, (three XB_28.out).2.1, (three XB_28.out).2.2, (by obtain ⟨ad', eA', x0, x1, x2, x3, x4, x5, x6, x7, x8⟩ := at_T39 (HR_26.out).c (i : Int) (by omega) (by omega); cases eA'; rw [rd_gr, Int.toNat_natCast] at x2; rw [HF.out]; exact x2), (by obtain ⟨ad', eA', x0, x1, x2, x3, x4, x5, x6, x7, x8⟩ := at_T39 (HR_26.out).c (k : Int) (by omega) (by omega); cases eA'; rw [rd_gr, Int.toNat_natCast] at x2; rw [HH.out]; exact x2)⟩ (fun hHeld => ?_)
                  clear hK K
                  refine norm_ (a' := ?_) ?_ ?_
                  rotate_left
                  · show Act.put _ (some 42) _ = _
                    simp only [Act.put, pS]
                    rfl
                  refine pu 11 (some 43) 36 4095 rfl rfl (v := ?_) (a' := ?_) ?_ ?_ ?_; rotate_left; (intro w'; go_simp; with_reducible rfl); rotate_left; (simp only [Act.put, pS]; rfl)
                  refine pu 12 (some 44) 36 8191 rfl rfl (v := ?_) (a' := ?_) ?_ ?_ ?_; rotate_left; (intro w'; go_simp; with_reducible rfl); rotate_left; (simp only [Act.put, pS]; rfl)
                  refine pf 13 (some 45) 36 16383 rfl rfl (a' := ?_) ?_ ?_; rotate_left; (simp only [Act.put, pS]; rfl)
                  refine pf 14 (some 46) 36 32767 rfl rfl (a' := ?_) ?_ ?_; rotate_left; (simp only [Act.put, pS]; rfl)
                  refine pf 15 (some 47) 36 65535 rfl rfl (a' := ?_) ?_ ?_; rotate_left; (simp only [Act.put, pS]; rfl)
                  refine pf 16 (some 48) 36 131071 rfl rfl (a' := ?_) ?_ ?_; rotate_left; (simp only [Act.put, pS]; rfl)
                  refine pf 17 (some 49) 36 262143 rfl rfl (a' := ?_) ?_ ?_; rotate_left; (simp only [Act.put, pS]; rfl)
                  refine pf 18 (some 50) 36 524287 rfl rfl (a' := ?_) ?_ ?_; rotate_left; (simp only [Act.put, pS]; rfl)
                  refine pf 19 (some 51) 36 1048575 rfl rfl (a' := ?_) ?_ ?_; rotate_left; (simp only [Act.put, pS]; rfl)
                  refine pf 20 (some 52) 36 2097151 rfl rfl (a' := ?_) ?_ ?_; rotate_left; (simp only [Act.put, pS]; rfl)
                  refine pf 21 (some 53) 36 4194303 rfl rfl (a' := ?_) ?_ ?_; rotate_left; (simp only [Act.put, pS]; rfl)
                  refine pf 22 (some 54) 36 8388607 rfl rfl (a' := ?_) ?_ ?_; rotate_left; (simp only [Act.put, pS]; rfl)
                  refine pf 23 (some 55) 36 16777215 rfl rfl (a' := ?_) ?_ ?_; rotate_left; (simp only [Act.put, pS]; rfl)
                  refine pf 24 (some 56) 36 33554431 rfl rfl (a' := ?_) ?_ ?_; rotate_left; (simp only [Act.put, pS]; rfl)
                  refine pf 25 (some 57) 36 67108863 rfl rfl (a' := ?_) ?_ ?_; rotate_left; (simp only [Act.put, pS]; rfl)
                  refine pf 26 (some 58) 36 134217727 rfl rfl (a' := ?_) ?_ ?_; rotate_left; (simp only [Act.put, pS]; rfl)
                  refine pf 27 (some 59) 36 268435455 rfl rfl (a' := ?_) ?_ ?_; rotate_left; (simp only [Act.put, pS]; rfl)
                  refine pu 28 (some 60) 36 536870911 rfl rfl (v := ?_) (a' := ?_) ?_ ?_ ?_; rotate_left; (intro w'; go_simp; with_reducible rfl); rotate_left; (simp only [Act.put, pS]; rfl)
                  refine pu 29 (some 61) 36 1073741823 rfl rfl (v := ?_) (a' := ?_) ?_ ?_ ?_; rotate_left; (intro w'; go_simp; with_reducible rfl); rotate_left; (simp only [Act.put, pS]; rfl)
                  refine pf 30 (some 62) 36 2147483647 rfl rfl (a' := ?_) ?_ ?_; rotate_left; (simp only [Act.put, pS]; rfl)
                  refine pf 31 (some 63) 36 4294967295 rfl rfl (a' := ?_) ?_ ?_; rotate_left; (simp only [Act.put, pS]; rfl)
                  refine pf 32 (some 64) 36 8589934591 rfl rfl (a' := ?_) ?_ ?_; rotate_left; (simp only [Act.put, pS]; rfl)
                  refine pf 33 (some 65) 36 17179869183 rfl rfl (a' := ?_) ?_ ?_; rotate_left; (simp only [Act.put, pS]; rfl)
                  refine pf 34 (some 66) 36 34359738367 rfl rfl (a' := ?_) ?_ ?_; rotate_left; (simp only [Act.put, pS]; rfl)
                  refine pu 35 (some 67) 36 68719476735 rfl rfl (v := ?_) (a' := ?_) ?_ ?_ ?_; rotate_left; (intro w'; go_simp; with_reducible rfl); rotate_left; (simp only [Act.put, pS]; rfl)
                  refine done_ (by kernel_rfl) ?_
                  
                  have hw : witR day G E p v (i + 1) (k + 1) = false := by unfold witR; rw [← HF.out, ← HH.out]; simp [s1, s2]
                  rw [hw] at HKS
                  go_wp2_with fail
                  try any_goals (exfalso; omega)
                  try simp only [Int.toNat_natCast]
                  go_roundw
                  case rel => exact ⟨k + 1, by omega, by simp, by rw [HKS.out]; rfl, HR_26, HB_27, XB_28⟩
                  case measure => simp [intOf]; omega
                · cases s3 : (f != h)
                  · have hb := below_drew1 (Below.refl wr.heap.size wr)
                    have HR_29 := lhid (HRr_11.out.next hb)
                    have HB_30 := lhid (below_then HBr_12.out HBr_12.out.size hb)
                    have XB_31 := lhid (blk_below XBr_13.out hb)
                    clear HRr_11 HBr_12 XBr_13 hb
                    refine start_ (n := 36) (S := fun w' => w'.cell? ⟨xb, 0, none⟩ = some (.slice (some ad) G.length cG) ∧ w'.cell? ⟨xb, 1, none⟩ = some (.slice AE E.length cE) ∧ w'.cell? ⟨xb, 2, none⟩ = some (.int .i64 day) ∧ w'.cell? ⟨(ad.add (i * 9)).block, (ad.add (i * 9)).off + 2, none⟩ = some (.int .i64 f) ∧ w'.cell? ⟨(ad.add (k * 9)).block, (ad.add (k * 9)).off + 2, none⟩ = some (.int .i64 h)) (ds := []) (lsb 36 0) (by kernel_rfl) rfl (by kernel_rfl) ⟨(three XB_31.out).1, (three XB_31.out).2.1, (three XB_31.out).2.2, (by obtain ⟨ad', eA', x0, x1, x2, x3, x4, x5, x6, x7, x8⟩ := at_T39 (HR_29.out).c (i : Int) (by omega) (by omega); cases eA'; rw [rd_gr, Int.toNat_natCast] at x2; rw [HF.out]; exact x2), (by obtain ⟨ad', eA', x0, x1, x2, x3, x4, x5, x6, x7, x8⟩ := at_T39 (HR_29.out).c (k : Int) (by omega) (by omega); cases eA'; rw [rd_gr, Int.toNat_natCast] at x2; rw [HH.out]; exact x2)⟩ (fun hHeld => ?_)
                    generalize wr.drew = w2 at HR_29 HB_30 XB_31 hHeld ⊢
                    refine pu 1 (some 33) 36 2 rfl rfl (v := ?_) (a' := ?_) ?_ ?_ ?_; rotate_left; (intro w'; go_simp; with_reducible rfl); rotate_left; (simp only [Act.put, pS]; rfl)
                    refine pu 2 (some 34) 36 6 rfl rfl (v := ?_) (a' := ?_) ?_ ?_ ?_; rotate_left; (intro w'; go_simp; with_reducible rfl); rotate_left; (simp only [Act.put, pS]; rfl)
                    refine pu 3 (some 35) 36 14 rfl rfl (v := ?_) (a' := ?_) ?_ ?_ ?_; rotate_left; (intro w'; go_simp; with_reducible rfl); rotate_left; (simp only [Act.put, pS]; rfl)
                    refine tk 0 (some 32) 36 15 rfl rfl hHeld (v := ?_) (a' := ?_) ?_ ?_ ?_; rotate_left; (rintro w' ⟨s0, s1, s2, s3, s4⟩; go_simp; with_reducible rfl); rotate_left; (simp only [Act.put, pS]; rfl)
                    refine one_ (i := 4) (N := some 36) (lsb 36 31) rfl rfl (by kernel_rfl) (by decide) (fun K hK => ?_)
                    refine goes_ Try.func56 (by kernel_rfl) rfl #[.agg #[.slice (some ad) G.length cG, .slice AE E.length cE, .int .i64 day], .int .i64 (v : Int), .int .i64 ((i : Int) + 1), .int .i64 p] (by rfl) rfl rfl (by (try simp only [List.map_toArray, List.map_cons, List.map_nil]); first | done | rfl) ?_
                    with_reducible refine (serves_r _ (some ad) cG G AE cE E day p (v : Int) i HR_29.out HT.out HE.out HEL.out HU.out (by omega) (by omega) hp0 hp1 (by omega) (HO.out i (by omega))).mono ?_
                    rintro e w3 ⟨rfl, hb⟩
                    refine ⟨_, rfl, ?_⟩
                    have HR_32 := lhid (HR_29.out.next hb)
                    have HB_33 := lhid (below_then HB_30.out HB_30.out.size hb)
                    have XB_34 := lhid (blk_below XB_31.out hb)
                    clear HR_29 HB_30 XB_31 hb
                    rw [s1]
                    refine hK.out _ _ ⟨(three XB_34.out).1, (three XB_34.out).2.1, (three XB_34.out).2.2, (by obtain ⟨ad', eA', x0, x1, x2, x3, x4, x5, x6, x7, x8⟩ := at_T39 (HR_32.out).c (i : Int) (by omega) (by omega); cases eA'; rw [rd_gr, Int.toNat_natCast] at x2; rw [HF.out]; exact x2), (by obtain ⟨ad', eA', x0, x1, x2, x3, x4, x5, x6, x7, x8⟩ := at_T39 (HR_32.out).c (k : Int) (by omega) (by omega); cases eA'; rw [rd_gr, Int.toNat_natCast] at x2; rw [HH.out]; exact x2)⟩ (fun hHeld => ?_)
                    clear hK K
                    refine norm_ (a' := ?_) ?_ ?_
                    rotate_left
                    · show Act.put _ (some 36) _ = _
                      simp only [Act.put, pS]
                      rfl
                    refine pu 5 (some 37) 36 63 rfl rfl (v := ?_) (a' := ?_) ?_ ?_ ?_; rotate_left; (intro w'; go_simp; with_reducible rfl); rotate_left; (simp only [Act.put, pS]; rfl)
                    refine pu 7 (some 39) 36 191 rfl rfl (v := ?_) (a' := ?_) ?_ ?_ ?_; rotate_left; (intro w'; go_simp; with_reducible rfl); rotate_left; (simp only [Act.put, pS]; rfl)
                    refine pu 8 (some 40) 36 447 rfl rfl (v := ?_) (a' := ?_) ?_ ?_ ?_; rotate_left; (intro w'; go_simp; with_reducible rfl); rotate_left; (simp only [Act.put, pS]; rfl)
                    refine pu 9 (some 41) 36 959 rfl rfl (v := ?_) (a' := ?_) ?_ ?_ ?_; rotate_left; (intro w'; go_simp; with_reducible rfl); rotate_left; (simp only [Act.put, pS]; rfl)
                    refine tk 6 (some 38) 36 1023 rfl rfl hHeld (v := ?_) (a' := ?_) ?_ ?_ ?_; rotate_left; (rintro w' ⟨s0, s1, s2, s3, s4⟩; go_simp; with_reducible rfl); rotate_left; (simp only [Act.put, pS]; rfl)
                    refine one_ (i := 10) (N := some 42) (lsb 36 2047) rfl rfl (by kernel_rfl) (by decide) (fun K hK => ?_)
                    refine goes_ Try.func56 (by kernel_rfl) rfl #[.agg #[.slice (some ad) G.length cG, .slice AE E.length cE, .int .i64 day], .int .i64 (v : Int), .int .i64 ((k : Int) + 1), .int .i64 p] (by rfl) rfl rfl (by (try simp only [List.map_toArray, List.map_cons, List.map_nil]); first | done | rfl) ?_
                    with_reducible refine (serves_r _ (some ad) cG G AE cE E day p (v : Int) k HR_32.out HT.out HE.out HEL.out HU.out (by omega) (by omega) hp0 hp1 (by omega) (HO.out k (by omega))).mono ?_
                    rintro e w4 ⟨rfl, hb⟩
                    refine ⟨_, rfl, ?_⟩
                    have HR_35 := lhid (HR_32.out.next hb)
                    have HB_36 := lhid (below_then HB_33.out HB_33.out.size hb)
                    have XB_37 := lhid (blk_below XB_34.out hb)
                    clear HR_32 HB_33 XB_34 hb
                    rw [s2]
                    refine hK.out _ _ ⟨(three XB_37.out).1, (three XB_37.out).2.1, (three XB_37.out).2.2, (by obtain ⟨ad', eA', x0, x1, x2, x3, x4, x5, x6, x7, x8⟩ := at_T39 (HR_35.out).c (i : Int) (by omega) (by omega); cases eA'; rw [rd_gr, Int.toNat_natCast] at x2; rw [HF.out]; exact x2), (by obtain ⟨ad', eA', x0, x1, x2, x3, x4, x5, x6, x7, x8⟩ := at_T39 (HR_35.out).c (k : Int) (by omega) (by omega); cases eA'; rw [rd_gr, Int.toNat_natCast] at x2; rw [HH.out]; exact x2)⟩ (fun hHeld => ?_)
                    clear hK K
                    refine norm_ (a' := ?_) ?_ ?_
                    rotate_left
                    · show Act.put _ (some 42) _ = _
                      simp only [Act.put, pS]
                      rfl
                    refine pu 11 (some 43) 36 4095 rfl rfl (v := ?_) (a' := ?_) ?_ ?_ ?_; rotate_left; (intro w'; go_simp; with_reducible rfl); rotate_left; (simp only [Act.put, pS]; rfl)
                    refine pu 12 (some 44) 36 8191 rfl rfl (v := ?_) (a' := ?_) ?_ ?_ ?_; rotate_left; (intro w'; go_simp; with_reducible rfl); rotate_left; (simp only [Act.put, pS]; rfl)
                    refine pu 13 (some 45) 36 16383 rfl rfl (v := ?_) (a' := ?_) ?_ ?_ ?_; rotate_left; (intro w'; go_simp; with_reducible rfl); rotate_left; (simp only [Act.put, pS]; rfl)
                    refine pu 15 (some 47) 36 49151 rfl rfl (v := ?_) (a' := ?_) ?_ ?_ ?_; rotate_left; (intro w'; go_simp; with_reducible rfl); rotate_left; (simp only [Act.put, pS]; rfl)
                    refine pu 16 (some 48) 36 114687 rfl rfl (v := ?_) (a' := ?_) ?_ ?_ ?_; rotate_left; (intro w'; go_simp; with_reducible rfl); rotate_left; (simp only [Act.put, pS]; rfl)
                    refine pu 20 (some 52) 36 1163263 rfl rfl (v := ?_) (a' := ?_) ?_ ?_ ?_; rotate_left; (intro w'; go_simp; with_reducible rfl); rotate_left; (simp only [Act.put, pS]; rfl)
                    refine pu 22 (some 54) 36 5357567 rfl rfl (v := ?_) (a' := ?_) ?_ ?_ ?_; rotate_left; (intro w'; go_simp; with_reducible rfl); rotate_left; (simp only [Act.put, pS]; rfl)
                    refine pu 23 (some 55) 36 13746175 rfl rfl (v := ?_) (a' := ?_) ?_ ?_ ?_; rotate_left; (intro w'; go_simp; with_reducible rfl); rotate_left; (simp only [Act.put, pS]; rfl)
                    refine tk 14 (some 46) 36 13762559 rfl rfl hHeld (v := ?_) (a' := ?_) ?_ ?_ ?_; rotate_left; (rintro w' ⟨s0, s1, s2, s3, s4⟩; go_simp; with_reducible rfl); rotate_left; (simp only [Act.put, pS]; rfl)
                    refine pu 17 (some 49) 36 13893631 rfl rfl (v := ?_) (a' := ?_) ?_ ?_ ?_; rotate_left; (intro w'; go_simp; with_reducible rfl); rotate_left; (simp only [Act.put, pS]; rfl)
                    refine pu 18 (some 50) 36 14155775 rfl rfl (v := ?_) (a' := ?_) ?_ ?_ ?_; rotate_left; (intro w'; go_simp; with_reducible rfl); rotate_left; (simp only [Act.put, pS]; rfl)
                    refine tk 19 (some 51) 36 14680063 rfl rfl hHeld (v := ?_) (a' := ?_) ?_ ?_ ?_; rotate_left; (rintro w' ⟨s0, s1, s2, s3, s4⟩; go_simp; with_reducible rfl); rotate_left; (simp only [Act.put, pS]; rfl)
                    refine tk 21 (some 53) 36 16777215 rfl rfl hHeld (v := ?_) (a' := ?_) ?_ ?_ ?_; rotate_left; (rintro w' ⟨s0, s1, s2, s3, s4⟩; go_simp; with_reducible rfl); rotate_left; (simp only [Act.put, pS]; rfl)
                    refine pu 24 (some 56) 36 33554431 rfl rfl (v := ?_) (a' := ?_) ?_ ?_ ?_; rotate_left; (intro w'; go_simp; with_reducible rfl); rotate_left; (simp only [Act.put, pS]; rfl)
                    refine pu 25 (some 57) 36 67108863 rfl rfl (v := ?_) (a' := ?_) ?_ ?_ ?_; rotate_left; (intro w'; go_simp; with_reducible rfl); rotate_left; (simp only [Act.put, pS]; rfl)
                    refine tk 26 (some 58) 36 134217727 rfl rfl hHeld (v := ?_) (a' := ?_) ?_ ?_ ?_; rotate_left; (rintro w' ⟨s0, s1, s2, s3, s4⟩; go_simp; with_reducible rfl); rotate_left; (simp only [Act.put, pS]; rfl)
                    refine pu 27 (some 59) 36 268435455 rfl rfl (v := ?_) (a' := ?_) ?_ ?_ ?_; rotate_left; (intro w'; go_simp; with_reducible rfl); rotate_left; (simp only [Act.put, pS]; rfl)
                    refine pu 28 (some 60) 36 536870911 rfl rfl (v := ?_) (a' := ?_) ?_ ?_ ?_; rotate_left; (intro w'; go_simp; with_reducible rfl); rotate_left; (simp only [Act.put, pS]; rfl)
                    refine pu 29 (some 61) 36 1073741823 rfl rfl (v := ?_) (a' := ?_) ?_ ?_ ?_; rotate_left; (intro w'; go_simp; with_reducible rfl); rotate_left; (simp only [Act.put, pS]; rfl)
                    refine pf 30 (some 62) 36 2147483647 rfl rfl (a' := ?_) ?_ ?_; rotate_left; (simp only [Act.put, pS]; rfl)
                    refine pf 31 (some 63) 36 4294967295 rfl rfl (a' := ?_) ?_ ?_; rotate_left; (simp only [Act.put, pS]; rfl)
                    refine pf 32 (some 64) 36 8589934591 rfl rfl (a' := ?_) ?_ ?_; rotate_left; (simp only [Act.put, pS]; rfl)
                    refine pf 33 (some 65) 36 17179869183 rfl rfl (a' := ?_) ?_ ?_; rotate_left; (simp only [Act.put, pS]; rfl)
                    refine pf 34 (some 66) 36 34359738367 rfl rfl (a' := ?_) ?_ ?_; rotate_left; (simp only [Act.put, pS]; rfl)
                    refine pu 35 (some 67) 36 68719476735 rfl rfl (v := ?_) (a' := ?_) ?_ ?_ ?_; rotate_left; (intro w'; go_simp; with_reducible rfl); rotate_left; (simp only [Act.put, pS]; rfl)
                    refine done_ (by kernel_rfl) ?_
                    
                    have hw : witR day G E p v (i + 1) (k + 1) = false := by unfold witR; rw [← HF.out, ← HH.out]; simp [s1, s2, s3]
                    rw [hw] at HKS
                    go_wp2_with fail
                    try any_goals (exfalso; omega)
                    try simp only [Int.toNat_natCast]
                    go_roundw
                    case rel => exact ⟨k + 1, by omega, by simp, by rw [HKS.out]; rfl, HR_35, HB_36, XB_37⟩
                    case measure => simp [intOf]; omega
                  · cases s4 : sharR p (gr G (i + 1)) (gr G (k + 1))
                    · have hb := below_drew1 (Below.refl wr.heap.size wr)
                      have HR_38 := lhid (HRr_11.out.next hb)
                      have HB_39 := lhid (below_then HBr_12.out HBr_12.out.size hb)
                      have XB_40 := lhid (blk_below XBr_13.out hb)
                      clear HRr_11 HBr_12 XBr_13 hb
                      refine start_ (n := 36) (S := fun w' => w'.cell? ⟨xb, 0, none⟩ = some (.slice (some ad) G.length cG) ∧ w'.cell? ⟨xb, 1, none⟩ = some (.slice AE E.length cE) ∧ w'.cell? ⟨xb, 2, none⟩ = some (.int .i64 day) ∧ w'.cell? ⟨(ad.add (i * 9)).block, (ad.add (i * 9)).off + 2, none⟩ = some (.int .i64 f) ∧ w'.cell? ⟨(ad.add (k * 9)).block, (ad.add (k * 9)).off + 2, none⟩ = some (.int .i64 h)) (ds := []) (lsb 36 0) (by kernel_rfl) rfl (by kernel_rfl) ⟨(three XB_40.out).1, (three XB_40.out).2.1, (three XB_40.out).2.2, (by obtain ⟨ad', eA', x0, x1, x2, x3, x4, x5, x6, x7, x8⟩ := at_T39 (HR_38.out).c (i : Int) (by omega) (by omega); cases eA'; rw [rd_gr, Int.toNat_natCast] at x2; rw [HF.out]; exact x2), (by obtain ⟨ad', eA', x0, x1, x2, x3, x4, x5, x6, x7, x8⟩ := at_T39 (HR_38.out).c (k : Int) (by omega) (by omega); cases eA'; rw [rd_gr, Int.toNat_natCast] at x2; rw [HH.out]; exact x2)⟩ (fun hHeld => ?_)
                      generalize wr.drew = w2 at HR_38 HB_39 XB_40 hHeld ⊢
                      refine pu 1 (some 33) 36 2 rfl rfl (v := ?_) (a' := ?_) ?_ ?_ ?_; rotate_left; (intro w'; go_simp; with_reducible rfl); rotate_left; (simp only [Act.put, pS]; rfl)
                      refine pu 2 (some 34) 36 6 rfl rfl (v := ?_) (a' := ?_) ?_ ?_ ?_; rotate_left; (intro w'; go_simp; with_reducible rfl); rotate_left; (simp only [Act.put, pS]; rfl)
                      refine pu 3 (some 35) 36 14 rfl rfl (v := ?_) (a' := ?_) ?_ ?_ ?_; rotate_left; (intro w'; go_simp; with_reducible rfl); rotate_left; (simp only [Act.put, pS]; rfl)
                      refine tk 0 (some 32) 36 15 rfl rfl hHeld (v := ?_) (a' := ?_) ?_ ?_ ?_; rotate_left; (rintro w' ⟨s0, s1, s2, s3, s4⟩; go_simp; with_reducible rfl); rotate_left; (simp only [Act.put, pS]; rfl)
                      refine one_ (i := 4) (N := some 36) (lsb 36 31) rfl rfl (by kernel_rfl) (by decide) (fun K hK => ?_)
                      refine goes_ Try.func56 (by kernel_rfl) rfl #[.agg #[.slice (some ad) G.length cG, .slice AE E.length cE, .int .i64 day], .int .i64 (v : Int), .int .i64 ((i : Int) + 1), .int .i64 p] (by rfl) rfl rfl (by (try simp only [List.map_toArray, List.map_cons, List.map_nil]); first | done | rfl) ?_
                      with_reducible refine (serves_r _ (some ad) cG G AE cE E day p (v : Int) i HR_38.out HT.out HE.out HEL.out HU.out (by omega) (by omega) hp0 hp1 (by omega) (HO.out i (by omega))).mono ?_
                      rintro e w3 ⟨rfl, hb⟩
                      refine ⟨_, rfl, ?_⟩
                      have HR_41 := lhid (HR_38.out.next hb)
                      have HB_42 := lhid (below_then HB_39.out HB_39.out.size hb)
                      have XB_43 := lhid (blk_below XB_40.out hb)
                      clear HR_38 HB_39 XB_40 hb
                      rw [s1]
                      refine hK.out _ _ ⟨(three XB_43.out).1, (three XB_43.out).2.1, (three XB_43.out).2.2, (by obtain ⟨ad', eA', x0, x1, x2, x3, x4, x5, x6, x7, x8⟩ := at_T39 (HR_41.out).c (i : Int) (by omega) (by omega); cases eA'; rw [rd_gr, Int.toNat_natCast] at x2; rw [HF.out]; exact x2), (by obtain ⟨ad', eA', x0, x1, x2, x3, x4, x5, x6, x7, x8⟩ := at_T39 (HR_41.out).c (k : Int) (by omega) (by omega); cases eA'; rw [rd_gr, Int.toNat_natCast] at x2; rw [HH.out]; exact x2)⟩ (fun hHeld => ?_)
                      clear hK K
                      refine norm_ (a' := ?_) ?_ ?_
                      rotate_left
                      · show Act.put _ (some 36) _ = _
                        simp only [Act.put, pS]
                        rfl
                      refine pu 5 (some 37) 36 63 rfl rfl (v := ?_) (a' := ?_) ?_ ?_ ?_; rotate_left; (intro w'; go_simp; with_reducible rfl); rotate_left; (simp only [Act.put, pS]; rfl)
                      refine pu 7 (some 39) 36 191 rfl rfl (v := ?_) (a' := ?_) ?_ ?_ ?_; rotate_left; (intro w'; go_simp; with_reducible rfl); rotate_left; (simp only [Act.put, pS]; rfl)
                      refine pu 8 (some 40) 36 447 rfl rfl (v := ?_) (a' := ?_) ?_ ?_ ?_; rotate_left; (intro w'; go_simp; with_reducible rfl); rotate_left; (simp only [Act.put, pS]; rfl)
                      refine pu 9 (some 41) 36 959 rfl rfl (v := ?_) (a' := ?_) ?_ ?_ ?_; rotate_left; (intro w'; go_simp; with_reducible rfl); rotate_left; (simp only [Act.put, pS]; rfl)
                      refine tk 6 (some 38) 36 1023 rfl rfl hHeld (v := ?_) (a' := ?_) ?_ ?_ ?_; rotate_left; (rintro w' ⟨s0, s1, s2, s3, s4⟩; go_simp; with_reducible rfl); rotate_left; (simp only [Act.put, pS]; rfl)
                      refine one_ (i := 10) (N := some 42) (lsb 36 2047) rfl rfl (by kernel_rfl) (by decide) (fun K hK => ?_)
                      refine goes_ Try.func56 (by kernel_rfl) rfl #[.agg #[.slice (some ad) G.length cG, .slice AE E.length cE, .int .i64 day], .int .i64 (v : Int), .int .i64 ((k : Int) + 1), .int .i64 p] (by rfl) rfl rfl (by (try simp only [List.map_toArray, List.map_cons, List.map_nil]); first | done | rfl) ?_
                      with_reducible refine (serves_r _ (some ad) cG G AE cE E day p (v : Int) k HR_41.out HT.out HE.out HEL.out HU.out (by omega) (by omega) hp0 hp1 (by omega) (HO.out k (by omega))).mono ?_
                      rintro e w4 ⟨rfl, hb⟩
                      refine ⟨_, rfl, ?_⟩
                      have HR_44 := lhid (HR_41.out.next hb)
                      have HB_45 := lhid (below_then HB_42.out HB_42.out.size hb)
                      have XB_46 := lhid (blk_below XB_43.out hb)
                      clear HR_41 HB_42 XB_43 hb
                      rw [s2]
                      refine hK.out _ _ ⟨(three XB_46.out).1, (three XB_46.out).2.1, (three XB_46.out).2.2, (by obtain ⟨ad', eA', x0, x1, x2, x3, x4, x5, x6, x7, x8⟩ := at_T39 (HR_44.out).c (i : Int) (by omega) (by omega); cases eA'; rw [rd_gr, Int.toNat_natCast] at x2; rw [HF.out]; exact x2), (by obtain ⟨ad', eA', x0, x1, x2, x3, x4, x5, x6, x7, x8⟩ := at_T39 (HR_44.out).c (k : Int) (by omega) (by omega); cases eA'; rw [rd_gr, Int.toNat_natCast] at x2; rw [HH.out]; exact x2)⟩ (fun hHeld => ?_)
                      clear hK K
                      refine norm_ (a' := ?_) ?_ ?_
                      rotate_left
                      · show Act.put _ (some 42) _ = _
                        simp only [Act.put, pS]
                        rfl
                      refine pu 11 (some 43) 36 4095 rfl rfl (v := ?_) (a' := ?_) ?_ ?_ ?_; rotate_left; (intro w'; go_simp; with_reducible rfl); rotate_left; (simp only [Act.put, pS]; rfl)
                      refine pu 12 (some 44) 36 8191 rfl rfl (v := ?_) (a' := ?_) ?_ ?_ ?_; rotate_left; (intro w'; go_simp; with_reducible rfl); rotate_left; (simp only [Act.put, pS]; rfl)
                      refine pu 13 (some 45) 36 16383 rfl rfl (v := ?_) (a' := ?_) ?_ ?_ ?_; rotate_left; (intro w'; go_simp; with_reducible rfl); rotate_left; (simp only [Act.put, pS]; rfl)
                      refine pu 15 (some 47) 36 49151 rfl rfl (v := ?_) (a' := ?_) ?_ ?_ ?_; rotate_left; (intro w'; go_simp; with_reducible rfl); rotate_left; (simp only [Act.put, pS]; rfl)
                      refine pu 16 (some 48) 36 114687 rfl rfl (v := ?_) (a' := ?_) ?_ ?_ ?_; rotate_left; (intro w'; go_simp; with_reducible rfl); rotate_left; (simp only [Act.put, pS]; rfl)
                      refine pu 20 (some 52) 36 1163263 rfl rfl (v := ?_) (a' := ?_) ?_ ?_ ?_; rotate_left; (intro w'; go_simp; with_reducible rfl); rotate_left; (simp only [Act.put, pS]; rfl)
                      refine pu 22 (some 54) 36 5357567 rfl rfl (v := ?_) (a' := ?_) ?_ ?_ ?_; rotate_left; (intro w'; go_simp; with_reducible rfl); rotate_left; (simp only [Act.put, pS]; rfl)
                      refine pu 23 (some 55) 36 13746175 rfl rfl (v := ?_) (a' := ?_) ?_ ?_ ?_; rotate_left; (intro w'; go_simp; with_reducible rfl); rotate_left; (simp only [Act.put, pS]; rfl)
                      refine tk 14 (some 46) 36 13762559 rfl rfl hHeld (v := ?_) (a' := ?_) ?_ ?_ ?_; rotate_left; (rintro w' ⟨s0, s1, s2, s3, s4⟩; go_simp; with_reducible rfl); rotate_left; (simp only [Act.put, pS]; rfl)
                      refine pu 17 (some 49) 36 13893631 rfl rfl (v := ?_) (a' := ?_) ?_ ?_ ?_; rotate_left; (intro w'; go_simp; with_reducible rfl); rotate_left; (simp only [Act.put, pS]; rfl)
                      refine pu 18 (some 50) 36 14155775 rfl rfl (v := ?_) (a' := ?_) ?_ ?_ ?_; rotate_left; (intro w'; go_simp; with_reducible rfl); rotate_left; (simp only [Act.put, pS]; rfl)
                      refine tk 19 (some 51) 36 14680063 rfl rfl hHeld (v := ?_) (a' := ?_) ?_ ?_ ?_; rotate_left; (rintro w' ⟨s0, s1, s2, s3, s4⟩; go_simp; with_reducible rfl); rotate_left; (simp only [Act.put, pS]; rfl)
                      refine tk 21 (some 53) 36 16777215 rfl rfl hHeld (v := ?_) (a' := ?_) ?_ ?_ ?_; rotate_left; (rintro w' ⟨s0, s1, s2, s3, s4⟩; go_simp; with_reducible rfl); rotate_left; (simp only [Act.put, pS]; rfl)
                      refine pu 24 (some 56) 36 33554431 rfl rfl (v := ?_) (a' := ?_) ?_ ?_ ?_; rotate_left; (intro w'; go_simp; with_reducible rfl); rotate_left; (simp only [Act.put, pS]; rfl)
                      refine pu 25 (some 57) 36 67108863 rfl rfl (v := ?_) (a' := ?_) ?_ ?_ ?_; rotate_left; (intro w'; go_simp; with_reducible rfl); rotate_left; (simp only [Act.put, pS]; rfl)
                      refine tk 26 (some 58) 36 134217727 rfl rfl hHeld (v := ?_) (a' := ?_) ?_ ?_ ?_; rotate_left; (rintro w' ⟨s0, s1, s2, s3, s4⟩; go_simp; with_reducible rfl); rotate_left; (simp only [Act.put, pS]; rfl)
                      refine pu 27 (some 59) 36 268435455 rfl rfl (v := ?_) (a' := ?_) ?_ ?_ ?_; rotate_left; (intro w'; go_simp; with_reducible rfl); rotate_left; (simp only [Act.put, pS]; rfl)
                      refine pu 28 (some 60) 36 536870911 rfl rfl (v := ?_) (a' := ?_) ?_ ?_ ?_; rotate_left; (intro w'; go_simp; with_reducible rfl); rotate_left; (simp only [Act.put, pS]; rfl)
                      refine pu 29 (some 61) 36 1073741823 rfl rfl (v := ?_) (a' := ?_) ?_ ?_ ?_; rotate_left; (intro w'; go_simp; with_reducible rfl); rotate_left; (simp only [Act.put, pS]; rfl)
                      refine pu 31 (some 63) 36 3221225471 rfl rfl (v := ?_) (a' := ?_) ?_ ?_ ?_; rotate_left; (intro w'; go_simp; with_reducible rfl); rotate_left; (simp only [Act.put, pS]; rfl)
                      refine pu 32 (some 64) 36 7516192767 rfl rfl (v := ?_) (a' := ?_) ?_ ?_ ?_; rotate_left; (intro w'; go_simp; with_reducible rfl); rotate_left; (simp only [Act.put, pS]; rfl)
                      refine pu 33 (some 65) 36 16106127359 rfl rfl (v := ?_) (a' := ?_) ?_ ?_ ?_; rotate_left; (intro w'; go_simp; with_reducible rfl); rotate_left; (simp only [Act.put, pS]; rfl)
                      refine tk 30 (some 62) 36 17179869183 rfl rfl hHeld (v := ?_) (a' := ?_) ?_ ?_ ?_; rotate_left; (rintro w' ⟨s0, s1, s2, s3, s4⟩; go_simp; with_reducible rfl); rotate_left; (simp only [Act.put, pS]; rfl)
                      refine one_ (i := 34) (N := some 66) (lsb 36 34359738367) rfl rfl (by kernel_rfl) (by decide) (fun K hK => ?_)
                      refine goes_ Try.func57 (by kernel_rfl) rfl #[.agg #[.slice (some ad) G.length cG, .slice AE E.length cE, .int .i64 day], .int .i64 ((i : Int) + 1), .int .i64 ((k : Int) + 1), .int .i64 p] (by rfl) rfl rfl (by (try simp only [List.map_toArray, List.map_cons, List.map_nil]); first | done | rfl) ?_
                      with_reducible refine (shared_r _ (some ad) cG G AE cE E day p i k HR_44.out HT.out hp0 hp1 (by omega) (by omega) (HO.out i (by omega))).mono ?_
                      rintro e w5 ⟨rfl, hb⟩
                      refine ⟨_, rfl, ?_⟩
                      have HR_47 := lhid (HR_44.out.next hb)
                      have HB_48 := lhid (below_then HB_45.out HB_45.out.size hb)
                      have XB_49 := lhid (blk_below XB_46.out hb)
                      clear HR_44 HB_45 XB_46 hb
                      rw [s4]
                      refine hK.out _ _ ⟨(three XB_49.out).1, (three XB_49.out).2.1, (three XB_49.out).2.2, (by obtain ⟨ad', eA', x0, x1, x2, x3, x4, x5, x6, x7, x8⟩ := at_T39 (HR_47.out).c (i : Int) (by omega) (by omega); cases eA'; rw [rd_gr, Int.toNat_natCast] at x2; rw [HF.out]; exact x2), (by obtain ⟨ad', eA', x0, x1, x2, x3, x4, x5, x6, x7, x8⟩ := at_T39 (HR_47.out).c (k : Int) (by omega) (by omega); cases eA'; rw [rd_gr, Int.toNat_natCast] at x2; rw [HH.out]; exact x2)⟩ (fun hHeld => ?_)
                      clear hK K
                      refine norm_ (a' := ?_) ?_ ?_
                      rotate_left
                      · show Act.put _ (some 66) _ = _
                        simp only [Act.put, pS]
                        rfl
                      refine pu 35 (some 67) 36 68719476735 rfl rfl (v := ?_) (a' := ?_) ?_ ?_ ?_; rotate_left; (intro w'; go_simp; with_reducible rfl); rotate_left; (simp only [Act.put, pS]; rfl)
                      refine done_ (by kernel_rfl) ?_
                      
                      have hw : witR day G E p v (i + 1) (k + 1) = false := by unfold witR; rw [← HF.out, ← HH.out]; simp [s1, s2, s3, s4]
                      rw [hw] at HKS
                      go_wp2_with fail
                      try any_goals (exfalso; omega)
                      try simp only [Int.toNat_natCast]
                      go_roundw
                      case rel => exact ⟨k + 1, by omega, by simp, by rw [HKS.out]; rfl, HR_47, HB_48, XB_49⟩
                      case measure => simp [intOf]; omega
                    · have hb := below_drew1 (Below.refl wr.heap.size wr)
                      have HR_50 := lhid (HRr_11.out.next hb)
                      have HB_51 := lhid (below_then HBr_12.out HBr_12.out.size hb)
                      have XB_52 := lhid (blk_below XBr_13.out hb)
                      clear HRr_11 HBr_12 XBr_13 hb
                      refine start_ (n := 36) (S := fun w' => w'.cell? ⟨xb, 0, none⟩ = some (.slice (some ad) G.length cG) ∧ w'.cell? ⟨xb, 1, none⟩ = some (.slice AE E.length cE) ∧ w'.cell? ⟨xb, 2, none⟩ = some (.int .i64 day) ∧ w'.cell? ⟨(ad.add (i * 9)).block, (ad.add (i * 9)).off + 2, none⟩ = some (.int .i64 f) ∧ w'.cell? ⟨(ad.add (k * 9)).block, (ad.add (k * 9)).off + 2, none⟩ = some (.int .i64 h)) (ds := []) (lsb 36 0) (by kernel_rfl) rfl (by kernel_rfl) ⟨(three XB_52.out).1, (three XB_52.out).2.1, (three XB_52.out).2.2, (by obtain ⟨ad', eA', x0, x1, x2, x3, x4, x5, x6, x7, x8⟩ := at_T39 (HR_50.out).c (i : Int) (by omega) (by omega); cases eA'; rw [rd_gr, Int.toNat_natCast] at x2; rw [HF.out]; exact x2), (by obtain ⟨ad', eA', x0, x1, x2, x3, x4, x5, x6, x7, x8⟩ := at_T39 (HR_50.out).c (k : Int) (by omega) (by omega); cases eA'; rw [rd_gr, Int.toNat_natCast] at x2; rw [HH.out]; exact x2)⟩ (fun hHeld => ?_)
                      generalize wr.drew = w2 at HR_50 HB_51 XB_52 hHeld ⊢
                      refine pu 1 (some 33) 36 2 rfl rfl (v := ?_) (a' := ?_) ?_ ?_ ?_; rotate_left; (intro w'; go_simp; with_reducible rfl); rotate_left; (simp only [Act.put, pS]; rfl)
                      refine pu 2 (some 34) 36 6 rfl rfl (v := ?_) (a' := ?_) ?_ ?_ ?_; rotate_left; (intro w'; go_simp; with_reducible rfl); rotate_left; (simp only [Act.put, pS]; rfl)
                      refine pu 3 (some 35) 36 14 rfl rfl (v := ?_) (a' := ?_) ?_ ?_ ?_; rotate_left; (intro w'; go_simp; with_reducible rfl); rotate_left; (simp only [Act.put, pS]; rfl)
                      refine tk 0 (some 32) 36 15 rfl rfl hHeld (v := ?_) (a' := ?_) ?_ ?_ ?_; rotate_left; (rintro w' ⟨s0, s1, s2, s3, s4⟩; go_simp; with_reducible rfl); rotate_left; (simp only [Act.put, pS]; rfl)
                      refine one_ (i := 4) (N := some 36) (lsb 36 31) rfl rfl (by kernel_rfl) (by decide) (fun K hK => ?_)
                      refine goes_ Try.func56 (by kernel_rfl) rfl #[.agg #[.slice (some ad) G.length cG, .slice AE E.length cE, .int .i64 day], .int .i64 (v : Int), .int .i64 ((i : Int) + 1), .int .i64 p] (by rfl) rfl rfl (by (try simp only [List.map_toArray, List.map_cons, List.map_nil]); first | done | rfl) ?_
                      with_reducible refine (serves_r _ (some ad) cG G AE cE E day p (v : Int) i HR_50.out HT.out HE.out HEL.out HU.out (by omega) (by omega) hp0 hp1 (by omega) (HO.out i (by omega))).mono ?_
                      rintro e w3 ⟨rfl, hb⟩
                      refine ⟨_, rfl, ?_⟩
                      have HR_53 := lhid (HR_50.out.next hb)
                      have HB_54 := lhid (below_then HB_51.out HB_51.out.size hb)
                      have XB_55 := lhid (blk_below XB_52.out hb)
                      clear HR_50 HB_51 XB_52 hb
                      rw [s1]
                      refine hK.out _ _ ⟨(three XB_55.out).1, (three XB_55.out).2.1, (three XB_55.out).2.2, (by obtain ⟨ad', eA', x0, x1, x2, x3, x4, x5, x6, x7, x8⟩ := at_T39 (HR_53.out).c (i : Int) (by omega) (by omega); cases eA'; rw [rd_gr, Int.toNat_natCast] at x2; rw [HF.out]; exact x2), (by obtain ⟨ad', eA', x0, x1, x2, x3, x4, x5, x6, x7, x8⟩ := at_T39 (HR_53.out).c (k : Int) (by omega) (by omega); cases eA'; rw [rd_gr, Int.toNat_natCast] at x2; rw [HH.out]; exact x2)⟩ (fun hHeld => ?_)
                      clear hK K
                      refine norm_ (a' := ?_) ?_ ?_
                      rotate_left
                      · show Act.put _ (some 36) _ = _
                        simp only [Act.put, pS]
                        rfl
                      refine pu 5 (some 37) 36 63 rfl rfl (v := ?_) (a' := ?_) ?_ ?_ ?_; rotate_left; (intro w'; go_simp; with_reducible rfl); rotate_left; (simp only [Act.put, pS]; rfl)
                      refine pu 7 (some 39) 36 191 rfl rfl (v := ?_) (a' := ?_) ?_ ?_ ?_; rotate_left; (intro w'; go_simp; with_reducible rfl); rotate_left; (simp only [Act.put, pS]; rfl)
                      refine pu 8 (some 40) 36 447 rfl rfl (v := ?_) (a' := ?_) ?_ ?_ ?_; rotate_left; (intro w'; go_simp; with_reducible rfl); rotate_left; (simp only [Act.put, pS]; rfl)
                      refine pu 9 (some 41) 36 959 rfl rfl (v := ?_) (a' := ?_) ?_ ?_ ?_; rotate_left; (intro w'; go_simp; with_reducible rfl); rotate_left; (simp only [Act.put, pS]; rfl)
                      refine tk 6 (some 38) 36 1023 rfl rfl hHeld (v := ?_) (a' := ?_) ?_ ?_ ?_; rotate_left; (rintro w' ⟨s0, s1, s2, s3, s4⟩; go_simp; with_reducible rfl); rotate_left; (simp only [Act.put, pS]; rfl)
                      refine one_ (i := 10) (N := some 42) (lsb 36 2047) rfl rfl (by kernel_rfl) (by decide) (fun K hK => ?_)
                      refine goes_ Try.func56 (by kernel_rfl) rfl #[.agg #[.slice (some ad) G.length cG, .slice AE E.length cE, .int .i64 day], .int .i64 (v : Int), .int .i64 ((k : Int) + 1), .int .i64 p] (by rfl) rfl rfl (by (try simp only [List.map_toArray, List.map_cons, List.map_nil]); first | done | rfl) ?_
                      with_reducible refine (serves_r _ (some ad) cG G AE cE E day p (v : Int) k HR_53.out HT.out HE.out HEL.out HU.out (by omega) (by omega) hp0 hp1 (by omega) (HO.out k (by omega))).mono ?_
                      rintro e w4 ⟨rfl, hb⟩
                      refine ⟨_, rfl, ?_⟩
                      have HR_56 := lhid (HR_53.out.next hb)
                      have HB_57 := lhid (below_then HB_54.out HB_54.out.size hb)
                      have XB_58 := lhid (blk_below XB_55.out hb)
                      clear HR_53 HB_54 XB_55 hb
                      rw [s2]
                      refine hK.out _ _ ⟨(three XB_58.out).1, (three XB_58.out).2.1, (three XB_58.out).2.2, (by obtain ⟨ad', eA', x0, x1, x2, x3, x4, x5, x6, x7, x8⟩ := at_T39 (HR_56.out).c (i : Int) (by omega) (by omega); cases eA'; rw [rd_gr, Int.toNat_natCast] at x2; rw [HF.out]; exact x2), (by obtain ⟨ad', eA', x0, x1, x2, x3, x4, x5, x6, x7, x8⟩ := at_T39 (HR_56.out).c (k : Int) (by omega) (by omega); cases eA'; rw [rd_gr, Int.toNat_natCast] at x2; rw [HH.out]; exact x2)⟩ (fun hHeld => ?_)
                      clear hK K
                      refine norm_ (a' := ?_) ?_ ?_
                      rotate_left
                      · show Act.put _ (some 42) _ = _
                        simp only [Act.put, pS]
                        rfl
                      refine pu 11 (some 43) 36 4095 rfl rfl (v := ?_) (a' := ?_) ?_ ?_ ?_; rotate_left; (intro w'; go_simp; with_reducible rfl); rotate_left; (simp only [Act.put, pS]; rfl)
                      refine pu 12 (some 44) 36 8191 rfl rfl (v := ?_) (a' := ?_) ?_ ?_ ?_; rotate_left; (intro w'; go_simp; with_reducible rfl); rotate_left; (simp only [Act.put, pS]; rfl)
                      refine pu 13 (some 45) 36 16383 rfl rfl (v := ?_) (a' := ?_) ?_ ?_ ?_; rotate_left; (intro w'; go_simp; with_reducible rfl); rotate_left; (simp only [Act.put, pS]; rfl)
                      refine pu 15 (some 47) 36 49151 rfl rfl (v := ?_) (a' := ?_) ?_ ?_ ?_; rotate_left; (intro w'; go_simp; with_reducible rfl); rotate_left; (simp only [Act.put, pS]; rfl)
                      refine pu 16 (some 48) 36 114687 rfl rfl (v := ?_) (a' := ?_) ?_ ?_ ?_; rotate_left; (intro w'; go_simp; with_reducible rfl); rotate_left; (simp only [Act.put, pS]; rfl)
                      refine pu 20 (some 52) 36 1163263 rfl rfl (v := ?_) (a' := ?_) ?_ ?_ ?_; rotate_left; (intro w'; go_simp; with_reducible rfl); rotate_left; (simp only [Act.put, pS]; rfl)
                      refine pu 22 (some 54) 36 5357567 rfl rfl (v := ?_) (a' := ?_) ?_ ?_ ?_; rotate_left; (intro w'; go_simp; with_reducible rfl); rotate_left; (simp only [Act.put, pS]; rfl)
                      refine pu 23 (some 55) 36 13746175 rfl rfl (v := ?_) (a' := ?_) ?_ ?_ ?_; rotate_left; (intro w'; go_simp; with_reducible rfl); rotate_left; (simp only [Act.put, pS]; rfl)
                      refine tk 14 (some 46) 36 13762559 rfl rfl hHeld (v := ?_) (a' := ?_) ?_ ?_ ?_; rotate_left; (rintro w' ⟨s0, s1, s2, s3, s4⟩; go_simp; with_reducible rfl); rotate_left; (simp only [Act.put, pS]; rfl)
                      refine pu 17 (some 49) 36 13893631 rfl rfl (v := ?_) (a' := ?_) ?_ ?_ ?_; rotate_left; (intro w'; go_simp; with_reducible rfl); rotate_left; (simp only [Act.put, pS]; rfl)
                      refine pu 18 (some 50) 36 14155775 rfl rfl (v := ?_) (a' := ?_) ?_ ?_ ?_; rotate_left; (intro w'; go_simp; with_reducible rfl); rotate_left; (simp only [Act.put, pS]; rfl)
                      refine tk 19 (some 51) 36 14680063 rfl rfl hHeld (v := ?_) (a' := ?_) ?_ ?_ ?_; rotate_left; (rintro w' ⟨s0, s1, s2, s3, s4⟩; go_simp; with_reducible rfl); rotate_left; (simp only [Act.put, pS]; rfl)
                      refine tk 21 (some 53) 36 16777215 rfl rfl hHeld (v := ?_) (a' := ?_) ?_ ?_ ?_; rotate_left; (rintro w' ⟨s0, s1, s2, s3, s4⟩; go_simp; with_reducible rfl); rotate_left; (simp only [Act.put, pS]; rfl)
                      refine pu 24 (some 56) 36 33554431 rfl rfl (v := ?_) (a' := ?_) ?_ ?_ ?_; rotate_left; (intro w'; go_simp; with_reducible rfl); rotate_left; (simp only [Act.put, pS]; rfl)
                      refine pu 25 (some 57) 36 67108863 rfl rfl (v := ?_) (a' := ?_) ?_ ?_ ?_; rotate_left; (intro w'; go_simp; with_reducible rfl); rotate_left; (simp only [Act.put, pS]; rfl)
                      refine tk 26 (some 58) 36 134217727 rfl rfl hHeld (v := ?_) (a' := ?_) ?_ ?_ ?_; rotate_left; (rintro w' ⟨s0, s1, s2, s3, s4⟩; go_simp; with_reducible rfl); rotate_left; (simp only [Act.put, pS]; rfl)
                      refine pu 27 (some 59) 36 268435455 rfl rfl (v := ?_) (a' := ?_) ?_ ?_ ?_; rotate_left; (intro w'; go_simp; with_reducible rfl); rotate_left; (simp only [Act.put, pS]; rfl)
                      refine pu 28 (some 60) 36 536870911 rfl rfl (v := ?_) (a' := ?_) ?_ ?_ ?_; rotate_left; (intro w'; go_simp; with_reducible rfl); rotate_left; (simp only [Act.put, pS]; rfl)
                      refine pu 29 (some 61) 36 1073741823 rfl rfl (v := ?_) (a' := ?_) ?_ ?_ ?_; rotate_left; (intro w'; go_simp; with_reducible rfl); rotate_left; (simp only [Act.put, pS]; rfl)
                      refine pu 31 (some 63) 36 3221225471 rfl rfl (v := ?_) (a' := ?_) ?_ ?_ ?_; rotate_left; (intro w'; go_simp; with_reducible rfl); rotate_left; (simp only [Act.put, pS]; rfl)
                      refine pu 32 (some 64) 36 7516192767 rfl rfl (v := ?_) (a' := ?_) ?_ ?_ ?_; rotate_left; (intro w'; go_simp; with_reducible rfl); rotate_left; (simp only [Act.put, pS]; rfl)
                      refine pu 33 (some 65) 36 16106127359 rfl rfl (v := ?_) (a' := ?_) ?_ ?_ ?_; rotate_left; (intro w'; go_simp; with_reducible rfl); rotate_left; (simp only [Act.put, pS]; rfl)
                      refine tk 30 (some 62) 36 17179869183 rfl rfl hHeld (v := ?_) (a' := ?_) ?_ ?_ ?_; rotate_left; (rintro w' ⟨s0, s1, s2, s3, s4⟩; go_simp; with_reducible rfl); rotate_left; (simp only [Act.put, pS]; rfl)
                      refine one_ (i := 34) (N := some 66) (lsb 36 34359738367) rfl rfl (by kernel_rfl) (by decide) (fun K hK => ?_)
                      refine goes_ Try.func57 (by kernel_rfl) rfl #[.agg #[.slice (some ad) G.length cG, .slice AE E.length cE, .int .i64 day], .int .i64 ((i : Int) + 1), .int .i64 ((k : Int) + 1), .int .i64 p] (by rfl) rfl rfl (by (try simp only [List.map_toArray, List.map_cons, List.map_nil]); first | done | rfl) ?_
                      with_reducible refine (shared_r _ (some ad) cG G AE cE E day p i k HR_56.out HT.out hp0 hp1 (by omega) (by omega) (HO.out i (by omega))).mono ?_
                      rintro e w5 ⟨rfl, hb⟩
                      refine ⟨_, rfl, ?_⟩
                      have HR_59 := lhid (HR_56.out.next hb)
                      have HB_60 := lhid (below_then HB_57.out HB_57.out.size hb)
                      have XB_61 := lhid (blk_below XB_58.out hb)
                      clear HR_56 HB_57 XB_58 hb
                      rw [s4]
                      refine hK.out _ _ ⟨(three XB_61.out).1, (three XB_61.out).2.1, (three XB_61.out).2.2, (by obtain ⟨ad', eA', x0, x1, x2, x3, x4, x5, x6, x7, x8⟩ := at_T39 (HR_59.out).c (i : Int) (by omega) (by omega); cases eA'; rw [rd_gr, Int.toNat_natCast] at x2; rw [HF.out]; exact x2), (by obtain ⟨ad', eA', x0, x1, x2, x3, x4, x5, x6, x7, x8⟩ := at_T39 (HR_59.out).c (k : Int) (by omega) (by omega); cases eA'; rw [rd_gr, Int.toNat_natCast] at x2; rw [HH.out]; exact x2)⟩ (fun hHeld => ?_)
                      clear hK K
                      refine norm_ (a' := ?_) ?_ ?_
                      rotate_left
                      · show Act.put _ (some 66) _ = _
                        simp only [Act.put, pS]
                        rfl
                      refine pu 35 (some 67) 36 68719476735 rfl rfl (v := ?_) (a' := ?_) ?_ ?_ ?_; rotate_left; (intro w'; go_simp; with_reducible rfl); rotate_left; (simp only [Act.put, pS]; rfl)
                      refine done_ (by kernel_rfl) ?_
                      
                      have hw : witR day G E p v (i + 1) (k + 1) = true := by unfold witR; rw [← HF.out, ← HH.out]; simp [s1, s2, s3, s4]
                      rw [hw] at HKS
                      go_wp2_with fail
                      try any_goals (exfalso; omega)
                      try simp only [Int.toNat_natCast]
                      go_roundw
                      case rel => exact ⟨k + 1, by omega, by simp, by rw [HKS.out]; rfl, HR_59, HB_60, XB_61⟩
                      case measure => simp [intOf]; omega
            · have hke : k = i := by omega
              subst hke
              have hkt2 : ¬ ((k : Int) + 1 < (k : Int) + 1) := by omega
              go_wp2_with fail
              try any_goals (exfalso; omega)
              go_roundw
              case rel => exact ⟨k + 1, by omega, by simp, by rw [HIS.out], HRr_11, HBr_12, XBr_13⟩
              case measure => simp [intOf]; omega
        · have hie : i = G.length := by omega
          subst hie
          have hlt2 : ¬ ((G.length : Int) + 1 ≤ (G.length : Int)) := by omega
          obtain ⟨z0, z1, z2⟩ := three XBr_10.out
          go_wp2_with fail
          try any_goals (exfalso; omega)
          clear z0 z1 z2
          go_roundw
          case rel => exact ⟨v + 1, by omega, by simp, by rw [HVS.out], HRr_8, HBr_9, XBr_10⟩
          case measure => simp [intOf]; omega
    · have hve : v = 16 := by omega
      subst hve
      have hv6 : ¬ (((16 : Nat) : Int) ≤ 15) := by omega
      go_wp2_with fail
      try any_goals (exfalso; omega)
      go_ret2
      exact ⟨rfl, HBr_6.out⟩
set_option maxHeartbeats 12800000 in
set_option maxRecDepth 100000 in
theorem Could_r0 (w : World) (AG : Option Addr) (cG : Nat) (G : List S39) (AE : Option Addr) (cE : Nat) (E : List S44) (day : Int) (p : Int) (h : RB w AG cG G AE cE E) (hT : Tree G) (hp : p < 0 ∨ 65536 ≤ p) : Calls Try.prog 29 #[.agg #[.slice AG G.length cG, .slice AE E.length cE, .int .i64 day], .int .i64 p] w fun e w' => e = .returned (.tuple #[.int .i64 0, .int .i64 2]) ∧ Below w.heap.size w w' := by
  have hu51 := Try.underlying51
  have hu39 := Try.underlying39
  have hu44 := Try.underlying44
  have HR0 := lhid h
  have HT := lhid hT
  have hgl := hT.1
  clear h hT
  go_enter Try.func29, Try.ntmps29
  have HB_1 := lhid (Below.refl w.heap.size w)
  go_upto_region 1 with (fail)
  have hb := below_alloc (Below.refl w.heap.size w) (.cells #[.slice AG G.length cG, .slice AE E.length cE, .int .i64 day] 51)
  have hn := blk_new w (.cells #[.slice AG G.length cG, .slice AE E.length cE, .int .i64 day] 51)
  have HZ1 := lhid (show (World.alloc w (.cells #[.slice AG G.length cG, .slice AE E.length cE, .int .i64 day] 51)).heap.size = w.heap.size + 1 from by simp)
  generalize hq : World.alloc w (.cells #[.slice AG G.length cG, .slice AE E.length cE, .int .i64 day] 51) = w1 at hb hn HZ1 ⊢
  clear hq
  have HR_2 := lhid (HR0.out.next hb)
  have HB_3 := lhid (below_then HB_1.out HB_1.out.size hb)
  clear HR0 HB_1 hb
  have XB_4 := lhid (hn)
  clear hn
  obtain ⟨xb, hxb⟩ : ∃ q, q = w.heap.size := ⟨_, rfl⟩
  rw [← hxb] at XB_4 ⊢
  clear hxb
  by_cases c : p < 0
  · have d1 : decide (p < 0) = true := decide_eq_true c
    go_wp2_with fail
    try any_goals (exfalso; omega)
    go_ret2
    exact ⟨rfl, HB_3.out⟩
  · have d1 : decide (p < 0) = false := decide_eq_false c
    have d2 : decide (p ≥ 65536) = true := decide_eq_true (by omega)
    go_wp2_with fail
    try any_goals (exfalso; omega)
    go_ret2
    exact ⟨rfl, HB_3.out⟩
end Go.Proofs.Ytfnlghjkjmppdaa.PC
end
section
namespace Go.Proofs.Ytfnlghjkjmppdaa.PC
open Go.RowKit Go.Proofs.YtfnlghjkjmppdaaW.PrintWords Go.Proofs.YtfnlghjkjmppdaaW.PrintLast Go.Proofs.YtfnlghjkjmppdaaW.PrintMore Go.Proofs.Ytfnlghjkjmppdaa.Opn
set_option linter.unusedVariables false
set_option linter.unusedSimpArgs false
theorem played_same (l : List S37) : Same (runS s0 l) (madeF s0 [] l l.length) := by
  have h := madeF_s same_new l l.length (Nat.le_refl _)
  rwa [List.take_length] at h
set_option maxHeartbeats 12800000 in
set_option maxRecDepth 100000 in
theorem kimberlitelaw06_CustodyLooks.calls (k : Nat) (A0 : Option Addr) (c0 : Nat) (l0 : List (S37)) (a1 : Int) (a2 : Int) (w : World) (hr0 : Kd.C k37 w A0 l0.length l0) (hc0 : l0.length ≤ c0) (h : kimberlitelaw06_CustodyLooks.ok l0 a1 a2) : Calls Try.prog 6 #[.slice A0 l0.length c0, .int .i64 a1, .int .i64 a2] w fun e w' => e = .returned (.bool true) ∧ Below w.heap.size w w' := by
  have HR0 := lhid hr0
  have HC0 := lhid hc0
  have HK0 := lhid (show ∀ x ∈ l0, 0 ≤ x.f0 ∧ x.f0 < 256 from fun x hx => wf_u8 (h.1.2 x hx).1)
  have hu37 := Try.underlying37
  have hu51 := Try.underlying51
  clear hr0 hc0 h
  go_enter Try.func6, Try.ntmps6
  have HB_1 := lhid (Below.refl w.heap.size w)
  by_cases hfl0 : (l0.length : Int) ≤ 40
  rotate_left
  · go_wp2_with fail
    with_reducible refine (kimberlitelaw06_few.calls A0 c0 l0 false w (Kd.C_below HR0.out HB_1.out) HC0.out (by unfold kimberlitelaw06_few.f; exact congrArg some (decide_eq_false (by omega)))).mono ?_
    rintro e w1 ⟨rfl, nd, hq⟩
    have hb := pw_below_drewN (Below.refl w.heap.size w) nd
    rw [← hq] at hb
    clear hq
    have HB_2 := lhid (below_then HB_1.out HB_1.out.size hb)
    clear HB_1 hb
    go_wp2_with fail
    with_reducible refine (alive_calls w1).mono ?_
    rintro e w902 ⟨rfl, hb⟩
    have HB_3 := lhid (below_then HB_2.out HB_2.out.size hb)
    clear HB_2 hb
    go_wp2_with fail
    go_ret
    exact ⟨rfl, HB_3.out⟩
  go_wp2_with fail
  with_reducible refine (kimberlitelaw06_few.calls A0 c0 l0 true w (Kd.C_below HR0.out HB_1.out) HC0.out (by unfold kimberlitelaw06_few.f; exact congrArg some (decide_eq_true (by omega)))).mono ?_
  rintro e w1 ⟨rfl, nd, hq⟩
  have hb := pw_below_drewN (Below.refl w.heap.size w) nd
  rw [← hq] at hb
  clear hq
  have HB_4 := lhid (below_then HB_1.out HB_1.out.size hb)
  clear HB_1 hb
  have hf : l0.length ≤ 40 := by omega
  clear hfl0
  obtain ⟨wb, hwb⟩ : ∃ q : World, q = w1 := ⟨_, rfl⟩
  have HWB := lhid (show Below w.heap.size w wb by rw [hwb]; exact HB_4.out)
  rw [← hwb]
  clear hwb HB_4
  have HRB0 := lhid (Kd.C_below HR0.out HWB.out)
  clear HR0
  have HPL := lhid (played_calls A0 c0 l0 wb HRB0.out HC0.out HK0.out hf)
  have HS := lhid (played_same l0)
  have HEL := lhid (show (runS s0 l0).E.length ≤ 100 from by have h1 := (run_len l0 s0).2; have h2 : s0.E.length = 0 := rfl; omega)
  obtain ⟨s, hs⟩ : ∃ s : St, s = runS s0 l0 := ⟨_, rfl⟩
  obtain ⟨M, hM⟩ : ∃ M, M = madeF s0 [] l0 l0.length := ⟨_, rfl⟩
  rw [← hs, ← hM] at HPL HS
  rw [← hs] at HEL
  clear hs hM
  go_wp2_with fail
  try any_goals (exfalso; omega)
  with_reducible refine HPL.out.mono ?_
  rintro e w1 ⟨g, Fb, AG, cG, AE, cE, rfl, k1, k2, k3⟩
  have HBK := lhid k1
  have HBB := lhid k2
  have HST := lhid (k3.rb (Below.refl _ _))
  clear k1 k2 k3 HPL HRB0
  go_upto_region 4 with (fail)
  have hb := below_alloc (Below.refl w1.heap.size w1) (.cells #[.slice AG (refG s.G M).length cG, .slice AE s.E.length cE, .int .i64 s.day] 51)
  have hn := blk_new w1 (.cells #[.slice AG (refG s.G M).length cG, .slice AE s.E.length cE, .int .i64 s.day] 51)
  have HZ11 := lhid (show (World.alloc w1 (.cells #[.slice AG (refG s.G M).length cG, .slice AE s.E.length cE, .int .i64 s.day] 51)).heap.size = w1.heap.size + 1 from by simp)
  generalize hq : World.alloc w1 (.cells #[.slice AG (refG s.G M).length cG, .slice AE s.E.length cE, .int .i64 s.day] 51) = w11 at hb hn HZ11 ⊢
  clear hq
  have HBK_5 := lhid (HBK.out.next hb)
  have HB_6 := lhid (below_then HBB.out HBB.out.size hb)
  have ST_7 := lhid (HST.out.next hb)
  clear HBK HBB HST hb
  have RZ_8 := lhid (hn)
  clear hn
  obtain ⟨rb, hrb⟩ : ∃ q, q = w1.heap.size := ⟨_, rfl⟩
  rw [← hrb] at RZ_8 ⊢
  clear hrb
  obtain ⟨r0, r1, r2⟩ := three RZ_8.out
  go_wp2_with fail
  try any_goals (exfalso; omega)
  have hgg := (grant_calls wb.heap.size g Fb w11 s M _ _ (refG s.G M) _ _ s.E s.day a1 HBK_5.out ST_7.out HS.out rfl rfl rfl HEL.out)
  with_reducible refine hgg.mono ?_
  rintro e w30 ⟨rfl, hb⟩
  clear hgg
  clear r0 r1 r2
  have HBK_9 := lhid (HBK_5.out.next hb)
  have HB_10 := lhid (below_then HB_6.out HB_6.out.size hb)
  have ST_11 := lhid (ST_7.out.next hb)
  have RZ_12 := lhid (blk_below RZ_8.out hb)
  clear HBK_5 HB_6 ST_7 RZ_8 hb
  by_cases hp : 0 ≤ a2 ∧ a2 < 65536
  · go_wp2_with fail
    try any_goals (exfalso; omega)
    have hcc := could_ok wb.heap.size g Fb w30 s.day s.G s.E a2 HBK_9.out HS.out.inv hp.1 hp.2
    with_reducible refine hcc.mono ?_
    rintro e w40 ⟨rfl, hb⟩
    clear hcc
    have HBK_13 := lhid (HBK_9.out.next hb)
    have HB_14 := lhid (below_then HB_10.out HB_10.out.size hb)
    have ST_15 := lhid (ST_11.out.next hb)
    have RZ_16 := lhid (blk_below RZ_12.out hb)
    clear HBK_9 HB_10 ST_11 RZ_12 hb
    obtain ⟨r0, r1, r2⟩ := three RZ_16.out
    go_wp2_with fail
    try any_goals (exfalso; omega)
    have hcr := Could_r w40 _ _ (refG s.G M) _ _ s.E s.day a2 ST_15.out HS.out.tree HS.out.einR HEL.out HS.out.bound (fun q hq => by have h1 := HS.out.invR.2 (q + 1) (by omega) (by omega); exact ⟨h1.1, h1.2.1⟩) hp.1 hp.2
    with_reducible refine hcr.mono ?_
    rintro e w50 ⟨rfl, hb⟩
    clear hcr
    clear r0 r1 r2
    have HBK_17 := lhid (HBK_13.out.next hb)
    have HB_18 := lhid (below_then HB_14.out HB_14.out.size hb)
    have ST_19 := lhid (ST_15.out.next hb)
    have RZ_20 := lhid (blk_below RZ_16.out hb)
    clear HBK_13 HB_14 ST_15 RZ_16 hb
    rw [could_both HS.out (show Sm a2 from hp)]
    have HBZ := lhid (below_then HWB.out HWB.out.size (show Below wb.heap.size wb w50 from HB_18.out))
    go_wp2_with fail
    with_reducible refine (alive_calls w50).mono ?_
    rintro e w951 ⟨rfl, hb⟩
    have HB_21 := lhid (below_then HBZ.out HBZ.out.size hb)
    clear HBZ hb
    go_wp2_with fail
    go_ret
    exact ⟨rfl, HB_21.out⟩
  · have hp2 : a2 < 0 ∨ 65536 ≤ a2 := by omega
    go_wp2_with fail
    try any_goals (exfalso; omega)
    have hcc := could_arg wb.heap.size g Fb w30 s.day s.G s.E a2 HBK_9.out HS.out.inv hp
    with_reducible refine hcc.mono ?_
    rintro e w40 ⟨rfl, hb⟩
    clear hcc
    have HBK_22 := lhid (HBK_9.out.next hb)
    have HB_23 := lhid (below_then HB_10.out HB_10.out.size hb)
    have ST_24 := lhid (ST_11.out.next hb)
    have RZ_25 := lhid (blk_below RZ_12.out hb)
    clear HBK_9 HB_10 ST_11 RZ_12 hb
    obtain ⟨r0, r1, r2⟩ := three RZ_25.out
    go_wp2_with fail
    try any_goals (exfalso; omega)
    have hcr := Could_r0 w40 _ _ (refG s.G M) _ _ s.E s.day a2 ST_24.out HS.out.tree hp2
    with_reducible refine hcr.mono ?_
    rintro e w50 ⟨rfl, hb⟩
    clear hcr
    clear r0 r1 r2
    have HBK_26 := lhid (HBK_22.out.next hb)
    have HB_27 := lhid (below_then HB_23.out HB_23.out.size hb)
    have ST_28 := lhid (ST_24.out.next hb)
    have RZ_29 := lhid (blk_below RZ_25.out hb)
    clear HBK_22 HB_23 ST_24 RZ_25 hb
    have HBZ := lhid (below_then HWB.out HWB.out.size (show Below wb.heap.size wb w50 from HB_27.out))
    go_wp2_with fail
    with_reducible refine (alive_calls w50).mono ?_
    rintro e w951 ⟨rfl, hb⟩
    have HB_30 := lhid (below_then HBZ.out HBZ.out.size hb)
    clear HBZ hb
    go_wp2_with fail
    go_ret
    exact ⟨rfl, HB_30.out⟩
theorem custodyLooks_pure : kimberlitelaw06_CustodyLooks.Pure2 := fun _ _ _ h0 h1 h2 => ⟨0, h0, h1, h2, trivial⟩
end Go.Proofs.Ytfnlghjkjmppdaa.PC
end
