/-
  Could: whoever could open a vault can, and calls by the group's persons open nothing else.
-/
import Derived.Test.YtfnlghjkjmppdaaCTw
namespace Go.Proofs.Ytfnlghjkjmppdaa.PC
open Go.RowKit Go.Proofs.YtfnlghjkjmppdaaW.PrintWords Go.Proofs.YtfnlghjkjmppdaaW.PrintLast Go.Proofs.YtfnlghjkjmppdaaW.PrintMore
set_option linter.unusedVariables false
set_option linter.unusedSimpArgs false
theorem tb_lt {p : Int} (hp : Sm p) {i : Nat} (h : tb p i = true) : i ≤ 15 := by
  apply Classical.byContradiction
  intro c
  unfold tb at h
  have : p.toNat < 2 ^ i := Nat.lt_of_lt_of_le (show p.toNat < 2 ^ 16 by have := hp.1; have := hp.2; omega) (Nat.pow_le_pow_right (by omega) (by omega))
  rw [Nat.testBit_lt_two_pow this] at h
  cases h
theorem key_ok {day : Int} {G : List S39} {v n by_ : Int} (hI : Inv G) (v0 : 0 ≤ v) (v1 : v ≤ 15) (h1 : 1 ≤ n) (h2 : n ≤ G.length) (hb : by_ = (gr G n.toNat).f3) (hs : stB day G n.toNat = true) (hr : tb (gr G n.toNat).f5 0 = true) (hv : tb (gr G n.toNat).f4 v.toNat = true) (hu : spB G n.toNat = false) : keyC day G v n by_ = 0 := by
  obtain ⟨o1, o2, o3, o4, o5, o6, _⟩ := hI.2 n.toNat (by omega) (by omega)
  have hbad : badB day G v n.toNat by_ = false := by
    unfold badB
    have e1 := one_bit (a := (gr G n.toNat).f5) (by omega) o6
    have e2 := serv_bit (p := (gr G n.toNat).f4) ⟨by omega, o4⟩ v0 v1
    rw [hr] at e1
    rw [hv] at e2
    have e1' : (bits .and .i64 (gr G n.toNat).f5 1 == 0) = false := beq_eq_false_iff_ne.2 (bne_iff_ne.1 e1)
    have e2' : (bits .and .i64 (gr G n.toNat).f4 (wrap64 ((2 : Int) ^ v.toNat)) == 0) = false := beq_eq_false_iff_ne.2 (bne_iff_ne.1 e2)
    rw [hs, e1', e2', decide_eq_false (fun q => q hb)]; rfl
  unfold keyC
  rw [if_neg (fun q => q ⟨h1, h2⟩), hbad, hu]; rfl
theorem openC_ok {day : Int} {G : List S39} {E : List S44} {v a ab s sb : Int} (v0 : 0 ≤ v) (v1 : v ≤ 15) (k1 : keyC day G v a ab = 0) (k2 : keyC day G v s sb = 0) (h1 : ab ≠ sb) (h2 : (gr G a.toNat).f2 ≠ (gr G s.toNat).f2) (hE : E.length < 4096) : openC day G E v a ab s sb = 0 := by
  unfold openC
  rw [if_neg (fun q => q ⟨v0, v1⟩), if_neg (fun q => q k1), if_neg (fun q => q k2), if_neg (fun q => q.elim h1 h2), if_neg (by omega)]
/-- A grant that serves for vault v. -/
def Srv (day : Int) (G : List S39) (p : Int) (v n : Nat) : Prop := (1 ≤ n ∧ n ≤ G.length) ∧ tb p (gr G n).f3.toNat = true ∧ tb (gr G n).f5 0 = true ∧ stB day G n = true ∧ spB G n = false ∧ tb (gr G n).f4 v = true
theorem Srv.key {day : Int} {G : List S39} {p : Int} {v n : Nat} (hI : Inv G) (h : Srv day G p v n) (hv : v ≤ 15) : keyC day G (v : Int) (n : Int) (gr G n).f3 = 0 := by
  obtain ⟨⟨h1, h2⟩, h3, h4, h5, h6, h7⟩ := h
  exact key_ok hI (by omega) (by omega) (by omega) (by omega) (by rw [Int.toNat_natCast]) (by rw [Int.toNat_natCast]; exact h5) (by rw [Int.toNat_natCast]; exact h4) (by rw [Int.toNat_natCast, Int.toNat_natCast]; exact h7) (by rw [Int.toNat_natCast]; exact h6)
/-- A pair whose search finds the vault. -/
def Wit (day : Int) (G : List S39) (p : Int) (v i k : Nat) : Prop := Srv day G p v i ∧ Srv day G p v k ∧ (gr G i).f2 ≠ (gr G k).f2 ∧ ((gr G i).f3 ≠ (gr G k).f3 ∨ ((gr G i).f3 = (gr G k).f3 ∧ tb (gr G i).f5 1 = true ∧ ∃ q : Nat, q ≤ 15 ∧ (q : Int) ≠ (gr G k).f3 ∧ tb p q = true))
theorem wit_of {day : Int} {G : List S39} {p : Int} (hI : Inv G) (hp : Sm p) {v : Nat} (h : tb (couldS day G p) v = true) : ∃ i k, Wit day G p v i k := by
  obtain ⟨a, b, q1, q2, q3, q4, q5, q6, q7, q8⟩ := ((could_tb hI).2 v).1 h
  obtain ⟨s1, s2, s3, s4⟩ := (servB_iff hI hp (by omega) q3).1 q4
  obtain ⟨t1, t2, t3, t4⟩ := (servB_iff hI hp q1 (by omega)).1 q5
  obtain ⟨o1, o2, _⟩ := hI.2 a (by omega) q3
  obtain ⟨p1, p2, _⟩ := hI.2 b q1 (by omega)
  have tw := (pair_two hp (hI.2 a (by omega) q3) (hI.2 b q1 (by omega))).1 q6
  have SA : Srv day G p v a := ⟨⟨by omega, q3⟩, s1, s2, s3, s4, q7⟩
  have SB : Srv day G p v b := ⟨⟨q1, by omega⟩, t1, t2, t3, t4, q8⟩
  by_cases c : (gr G a).f3 = (gr G b).f3
  · obtain ⟨hps, i, hi, hb⟩ := tw.2.resolve_left (fun q => q c)
    have hi2 := tb_lt hp hb
    rcases hps with hps | hps
    · exact ⟨a, b, SA, SB, tw.1, Or.inr ⟨c, hps, i, hi2, by omega, hb⟩⟩
    · exact ⟨b, a, SB, SA, fun e => tw.1 e.symm, Or.inr ⟨c.symm, hps, i, hi2, by omega, hb⟩⟩
  · exact ⟨a, b, SA, SB, tw.1, Or.inl c⟩
theorem wit_open {day : Int} {G : List S39} {E : List S44} {p : Int} (hI : Inv G) {v i k : Nat} (hv : v ≤ 15) (hE : E.length < 4096) (h : Wit day G p v i k) (hn : (gr G i).f3 ≠ (gr G k).f3) : openC day G E (v : Int) (i : Int) (gr G i).f3 (k : Int) (gr G k).f3 = 0 :=
  openC_ok (by omega) (by omega) (h.1.key hI hv) (h.2.1.key hI hv) hn (by rw [Int.toNat_natCast, Int.toNat_natCast]; exact h.2.2.1) hE
theorem bit_in {b : Int} {v : Nat} (hv : v ≤ 15) (hb : Sm b) (h : tb b v = true) : bits .andNot .i64 (wrap64 ((2 : Int) ^ v)) b = 0 := by
  obtain ⟨e, hlt⟩ := pw (f := (v : Int)) (by omega) (by omega)
  rw [Int.toNat_natCast] at e hlt
  rw [e]
  obtain ⟨B, rfl⟩ := Int.eq_ofNat_of_zero_le hb.1
  have hB := hb.2
  rw [andNot_n _ B (by omega) (by omega)]
  have hz : 2 ^ v &&& (18446744073709551615 - B) = 0 := by
    apply Nat.eq_of_testBit_eq
    intro i
    rw [andNot_bit (2 ^ v) B i (by omega) (by omega), Nat.zero_testBit, Nat.testBit_two_pow]
    by_cases c : v = i
    · subst c
      unfold tb at h
      rw [Int.toNat_natCast] at h
      rw [h]; simp
    · rw [decide_eq_false c]; rfl
  rw [hz]; rfl
theorem one_in {a : Int} (ha : 0 ≤ a) (hb : a ≤ 3) (h : tb a 0 = true) : bits .andNot .i64 1 a = 0 := by
  have : a = 0 ∨ a = 1 ∨ a = 2 ∨ a = 3 := by omega
  rcases this with rfl | rfl | rfl | rfl
  · exact absurd h (by decide +kernel)
  · decide +kernel
  · exact absurd h (by decide +kernel)
  · decide +kernel
def DayOk (d : Int) : Prop := 0 ≤ d ∧ d ≤ 1073741824
theorem day_run (l : List S37) : ∀ s : St, DayOk s.day → DayOk (runS s l).day := by
  unfold runS
  induction l with
  | nil => intro s h; exact h
  | cons a l ih =>
    intro s h
    rw [List.foldl_cons]
    refine ih _ (step_cases (P := fun s => DayOk s.day) a h (fun _ _ _ _ _ _ => h) (fun _ _ _ _ _ _ _ _ => h) (fun _ _ _ => h) (fun d hc => ?_) (fun _ _ _ _ _ _ => h))
    show DayOk d
    unfold nextC at hc
    cases c : dayB d
    · rw [c, if_pos rfl] at hc; omega
    · unfold dayB at c
      simp only [Bool.and_eq_true, decide_eq_true_eq] at c
      exact c
theorem wit_pass {day : Int} {G : List S39} {p : Int} (hI : Inv G) {v i q : Nat} (hv : v ≤ 15) (hq : q ≤ 15) (hd : DayOk day) (hl : G.length < 128) (h : Srv day G p v i) (hp : tb (gr G i).f5 1 = true) : passC day G (i : Int) (gr G i).f3 (q : Int) (wrap64 ((2 : Int) ^ v)) 1 day 1 = 0 := by
  obtain ⟨⟨h1, h2⟩, h3, h4, h5, h6, h7⟩ := h
  obtain ⟨o1, o2, o3, o4, o5, o6, o7, o8, o9⟩ := hI.2 i h1 h2
  obtain ⟨e, hlt⟩ := pw (f := (v : Int)) (by omega) (by omega)
  rw [Int.toNat_natCast] at e hlt
  have hpos : 1 ≤ 2 ^ v := Nat.one_le_two_pow
  have hmay : mayB (q : Int) (wrap64 ((2 : Int) ^ v)) 1 day 1 = true := mayB_iff.2 ⟨by omega, by omega, by rw [e]; omega, by rw [e]; omega, by omega, by omega, hd.1, hd.2, Or.inr ⟨by omega, by omega⟩⟩
  have hper : perB (gr G i).f3 = true := by unfold perB; rw [decide_eq_true o1, decide_eq_true o2]; rfl
  have hf7 : (gr G i).f7 ≠ 0 := fun z => by
    have : spB G i = true := by
      unfold spB
      rw [up_succ hI.1 h1 h2, List.any_cons, z]; rfl
    rw [h6] at this; cases this
  have hday : day ≤ (gr G i).f6 := by
    unfold stB at h5
    simp only [Bool.and_eq_true, decide_eq_true_eq] at h5
    exact h5.1
  have e2 := two_bit (a := (gr G i).f5) (by omega) o6
  rw [hp] at e2
  have hright : rightB day G (i : Int).toNat (gr G i).f3 (wrap64 ((2 : Int) ^ v)) 1 day 1 = true := by
    unfold rightB
    rw [Int.toNat_natCast, h5, e2, bit_in hv ⟨by omega, o4⟩ h7, one_in (by omega) o6 h4, decide_eq_true hday]
    by_cases c : (gr G i).f7 = -1
    · rw [decide_eq_true c]; simp
    · rw [decide_eq_true (show (1 : Int) ≤ (gr G i).f7 by omega)]; simp
  unfold passC
  rw [if_neg (fun z => z ⟨by omega, by omega⟩), hmay, if_neg (by decide), hper, if_neg (by decide), hright, if_neg (by decide), if_neg (by omega)]
theorem any_new {G : List S39} {x : S39} (hT : Tree G) (hT2 : Tree (G ++ [x])) (f : S39 → Bool) : (up (G ++ [x]) (G.length + 1)).any (fun m => f (gr (G ++ [x]) m)) = (f x || (up G x.f1.toNat).any (fun m => f (gr G m))) := by
  have ht := (hT2.2 (G.length + 1) (by omega) (by simp)).2
  rw [gr_app_new] at ht
  rw [up_succ hT2 (by omega) (by simp), List.any_cons, gr_app_new, any_app hT hT2 (by omega) f]
theorem stB_new {day : Int} {G : List S39} {x : S39} (hT : Tree G) (hT2 : Tree (G ++ [x])) : stB day (G ++ [x]) (G.length + 1) = (decide (day ≤ x.f6) && !(x.f8 || revB G x.f1.toNat)) := by
  unfold stB revB
  rw [any_new hT hT2 (fun y => y.f8), gr_app_new]
theorem spB_new {G : List S39} {x : S39} (hT : Tree G) (hT2 : Tree (G ++ [x])) : spB (G ++ [x]) (G.length + 1) = ((x.f7 == 0) || spB G x.f1.toNat) := by
  unfold spB
  rw [any_new hT hT2 (fun y => y.f7 == 0)]
theorem wit_new {day : Int} {G : List S39} {E : List S44} {p : Int} (hI : Inv G) {v i k q : Nat} (hv : v ≤ 15) (hq : q ≤ 15) (hd : DayOk day) (hl : G.length < 128) (hE : E.length < 4096) (h : Wit day G p v i k) (hp : tb (gr G i).f5 1 = true) (hqk : (q : Int) ≠ (gr G k).f3) : openC day (passG G (i : Int) (q : Int) (wrap64 ((2 : Int) ^ v)) 1 day 1) E (v : Int) ((G.length : Int) + 1) (q : Int) (k : Int) (gr G k).f3 = 0 := by
  have hc := wit_pass (p := p) hI hv hq hd hl h.1 hp
  have hI2 := inv_pass hI hc
  obtain ⟨⟨⟨h1, h2⟩, h3, h4, h5, h6, h7⟩, ⟨⟨k1, k2⟩, k3, k4, k5, k6, k7⟩, hroot, _⟩ := h
  obtain ⟨e, hlt⟩ := pw (f := (v : Int)) (by omega) (by omega)
  rw [Int.toNat_natCast] at e hlt
  have hx : ∃ x, passG G (i : Int) (q : Int) (wrap64 ((2 : Int) ^ v)) 1 day 1 = G ++ [x] ∧ x.f1 = (i : Int) ∧ x.f2 = (gr G i).f2 ∧ x.f3 = (q : Int) ∧ x.f4 = wrap64 ((2 : Int) ^ v) ∧ x.f5 = 1 ∧ x.f6 = day ∧ x.f7 = 1 ∧ x.f8 = false := by
    refine ⟨_, rfl, rfl, ?_, rfl, rfl, rfl, rfl, rfl, rfl⟩
    show (if (i : Int) = 0 then _ else (gr G (i : Int).toNat).f2) = _
    rw [if_neg (by omega), Int.toNat_natCast]
  obtain ⟨x, hg, x1, x2, x3, x4, x5, x6, x7, x8⟩ := hx
  rw [hg] at hI2 ⊢
  have hnn : ((G.length : Int) + 1).toNat = G.length + 1 := by omega
  have s5 : revB G i = false := by
    unfold stB at h5
    simp only [Bool.and_eq_true, Bool.not_eq_true'] at h5
    exact h5.2
  have key1 : keyC day (G ++ [x]) (v : Int) ((G.length : Int) + 1) (q : Int) = 0 := by
    refine key_ok hI2 (by omega) (by omega) (by omega) (by simp) ?_ ?_ ?_ ?_ ?_
    · rw [hnn, gr_app_new, x3]
    · rw [hnn, stB_new hI.1 hI2.1, x6, x8, x1, Int.toNat_natCast, s5, decide_eq_true (Int.le_refl _)]; rfl
    · rw [hnn, gr_app_new, x5]; decide +kernel
    · rw [hnn, gr_app_new, x4, e, Int.toNat_natCast]
      unfold tb
      rw [Int.toNat_natCast, Nat.testBit_two_pow]; simp
    · rw [hnn, spB_new hI.1 hI2.1, x7, x1, Int.toNat_natCast, h6]; rfl
  have key2 : keyC day (G ++ [x]) (v : Int) (k : Int) (gr G k).f3 = 0 := by
    refine key_ok hI2 (by omega) (by omega) (by omega) (by simp; omega) ?_ ?_ ?_ ?_ ?_
    · rw [Int.toNat_natCast, gr_app_old G x k k1 k2]
    · rw [Int.toNat_natCast, stB_app hI.1 hI2.1 k1 k2]; exact k5
    · rw [Int.toNat_natCast, gr_app_old G x k k1 k2]; exact k4
    · rw [Int.toNat_natCast, Int.toNat_natCast, gr_app_old G x k k1 k2]; exact k7
    · rw [Int.toNat_natCast, spB_app hI.1 hI2.1 k2]; exact k6
  refine openC_ok (by omega) (by omega) key1 key2 hqk ?_ hE
  rw [hnn, gr_app_new, Int.toNat_natCast, gr_app_old G x k k1 k2, x2]
  exact hroot
/-- What could be opened, from what serves. -/
theorem could_of {day : Int} {G : List S39} {p : Int} (hI : Inv G) (hp : Sm p) {v a b : Nat} (ha : Srv day G p v a) (hb : Srv day G p v b) (ht : Two p (gr G a) (gr G b)) : tb (couldS day G p) v = true := by
  obtain ⟨⟨a1, a2⟩, a3, a4, a5, a6, a7⟩ := ha
  obtain ⟨⟨b1, b2⟩, b3, b4, b5, b6, b7⟩ := hb
  have sa := (servB_iff hI hp a1 a2).2 ⟨a3, a4, a5, a6⟩
  have sb := (servB_iff hI hp b1 b2).2 ⟨b3, b4, b5, b6⟩
  have hne : a ≠ b := fun e => ht.1 (by rw [e])
  refine ((could_tb hI).2 v).2 ?_
  rcases Nat.lt_or_gt_of_ne hne with c | c
  · refine ⟨b, a, a1, c, b2, sb, sa, (pair_two hp (hI.2 b b1 b2) (hI.2 a a1 a2)).2 ⟨fun e => ht.1 e.symm, ?_⟩, b7, a7⟩
    by_cases e : (gr G a).f3 = (gr G b).f3
    · obtain ⟨t1, t2⟩ := ht.2.resolve_left (fun q => q e)
      exact Or.inr ⟨t1.symm, by rw [← e]; exact t2⟩
    · exact Or.inl (fun q => e q.symm)
  · exact ⟨a, b, b1, c, a2, sa, sb, (pair_two hp (hI.2 a a1 a2) (hI.2 b b1 b2)).2 ht, a7, b7⟩
theorem of_could {day : Int} {G : List S39} {p : Int} (hI : Inv G) (hp : Sm p) {v : Nat} (h : tb (couldS day G p) v = true) : ∃ a b, Srv day G p v a ∧ Srv day G p v b ∧ b < a ∧ Two p (gr G a) (gr G b) := by
  obtain ⟨a, b, q1, q2, q3, q4, q5, q6, q7, q8⟩ := ((could_tb hI).2 v).1 h
  obtain ⟨s1, s2, s3, s4⟩ := (servB_iff hI hp (by omega) q3).1 q4
  obtain ⟨t1, t2, t3, t4⟩ := (servB_iff hI hp q1 (by omega)).1 q5
  exact ⟨a, b, ⟨⟨by omega, q3⟩, s1, s2, s3, s4, q7⟩, ⟨⟨q1, by omega⟩, t1, t2, t3, t4, q8⟩, q2, (pair_two hp (hI.2 a (by omega) q3) (hI.2 b q1 (by omega))).1 q6⟩
/-- A grant beneath one of the group's, for one of the group: nothing more could be opened. -/
theorem could_pass {day : Int} {G : List S39} {x : S39} {p : Int} (hI : Inv G) (hI2 : Inv (G ++ [x])) (hp : Sm p) {n : Nat} (h1 : 1 ≤ n) (h2 : n ≤ G.length) (x1 : x.f1 = (n : Int)) (x2 : x.f2 = (gr G n).f2) (hA : tb p (gr G n).f3.toNat = true) (hps : tb (gr G n).f5 1 = true)
    (x4 : ∀ v, tb x.f4 v = true → tb (gr G n).f4 v = true) (x5 : tb x.f5 0 = true → tb (gr G n).f5 0 = true) (x6 : x.f6 ≤ (gr G n).f6) {v : Nat} (h : tb (couldS day (G ++ [x]) p) v = true) : tb (couldS day G p) v = true := by
  obtain ⟨a, b, ha, hb, hlt, tw⟩ := of_could hI2 hp h
  have old : ∀ m, m ≤ G.length → Srv day (G ++ [x]) p v m → Srv day G p v m := fun m hm q => by
    obtain ⟨⟨q1, q2⟩, q3, q4, q5, q6, q7⟩ := q
    rw [gr_app_old G x m q1 hm] at q3 q4 q7
    rw [stB_app hI.1 hI2.1 q1 hm] at q5
    rw [spB_app hI.1 hI2.1 hm] at q6
    exact ⟨⟨q1, hm⟩, q3, q4, q5, q6, q7⟩
  have hb2 : b ≤ G.length := by have := ha.1.2; simp at this; omega
  have hb' := old b hb2 hb
  by_cases c : a ≤ G.length
  · rw [gr_app_old G x a ha.1.1 c, gr_app_old G x b hb.1.1 hb2] at tw
    exact could_of hI hp (old a c ha) hb' tw
  · have hae : a = G.length + 1 := by have := ha.1.2; simp at this; omega
    subst hae
    obtain ⟨_, q3, q4, q5, q6, q7⟩ := ha
    rw [gr_app_new] at q3 q4 q7 tw
    rw [gr_app_old G x b hb.1.1 hb2] at tw
    rw [stB_new hI.1 hI2.1, x1, Int.toNat_natCast] at q5
    rw [spB_new hI.1 hI2.1, x1, Int.toNat_natCast] at q6
    simp only [Bool.and_eq_true, Bool.not_eq_true', Bool.or_eq_false_iff, decide_eq_true_eq] at q5 q6
    have hn : Srv day G p v n := ⟨⟨h1, h2⟩, hA, x5 q4, by unfold stB; rw [decide_eq_true (show day ≤ (gr G n).f6 by omega), q5.2.2]; rfl, q6.2, x4 v q7⟩
    obtain ⟨o1, o2, _⟩ := hI.2 n h1 h2
    obtain ⟨u1, u2, _⟩ := hI2.2 (G.length + 1) (by omega) (by simp)
    rw [gr_app_new] at u1 u2
    refine could_of hI hp hn hb' ⟨by rw [← x2]; exact tw.1, ?_⟩
    by_cases e : (gr G n).f3 = (gr G b).f3
    · refine Or.inr ⟨Or.inl hps, ?_⟩
      by_cases e2 : x.f3 = (gr G b).f3
      · have := (tw.2.resolve_left (fun q => q e2)).2
        rw [e2, ← e] at this; exact this
      · exact ⟨x.f3.toNat, by omega, q3⟩
    · exact Or.inl e
/-- Fewer uses: nothing more could be opened. -/
def Less (G H : List S39) : Prop := H.length = G.length ∧ ∀ n, 1 ≤ n → ∃ u, gr H n = { gr G n with f7 := u } ∧ ((gr G n).f7 = 0 → u = 0)
theorem less_uses (ms : List Nat) : ∀ (G : List S39), (∀ m ∈ ms, 1 ≤ m ∧ m ≤ G.length) → Less G (ms.foldl use1 G) := by
  induction ms with
  | nil => intro G _; exact ⟨rfl, fun n _ => ⟨(gr G n).f7, rfl, id⟩⟩
  | cons m ms ih =>
    intro G hm
    rw [List.foldl_cons]
    obtain ⟨i1, i2⟩ := ih (use1 G m) (fun q hq => by rw [use1_len]; exact hm q (by simp [hq]))
    refine ⟨by rw [i1, use1_len], fun n hn => ?_⟩
    obtain ⟨u, e, hu⟩ := i2 n hn
    rw [gr_use1 G m n (hm m (by simp)).1 (hm m (by simp)).2 hn] at e hu
    refine ⟨u, e, fun z => hu ?_⟩
    show (if n = m ∧ 0 < (gr G m).f7 then (gr G n).f7 - 1 else (gr G n).f7) = 0
    by_cases c : n = m ∧ 0 < (gr G m).f7
    · obtain ⟨rfl, c⟩ := c; omega
    · rw [if_neg c]; exact z
theorem could_less {day : Int} {G H : List S39} {p : Int} (hI : Inv G) (hI2 : Inv H) (hp : Sm p) (hL : Less G H) {v : Nat} (h : tb (couldS day H p) v = true) : tb (couldS day G p) v = true := by
  obtain ⟨hl, hg⟩ := hL
  obtain ⟨a, b, ha, hb, _, tw⟩ := of_could hI2 hp h
  have hup : ∀ m, m ≤ G.length → up H m = up G m := fun m hm => up_same hI.1 hI2.1 hl (fun n q1 _ => by obtain ⟨u, e, _⟩ := hg n q1; rw [e]) m m (Nat.le_refl _) hm
  have key : ∀ m, Srv day H p v m → Srv day G p v m := fun m q => by
    obtain ⟨⟨q1, q2⟩, q3, q4, q5, q6, q7⟩ := q
    rw [hl] at q2
    obtain ⟨u, e, hu⟩ := hg m q1
    rw [e] at q3 q4 q7
    have any8 : ∀ l : List Nat, (∀ z ∈ l, 1 ≤ z ∧ z ≤ G.length) → (l.any fun z => (gr H z).f8) = l.any fun z => (gr G z).f8 := fun l => by
      induction l with
      | nil => intro _; rfl
      | cons z l ih =>
        intro hz
        obtain ⟨u, e, _⟩ := hg z (hz z (by simp)).1
        rw [List.any_cons, List.any_cons, ih (fun q hq => hz q (by simp [hq])), e]
    have any7 : ∀ l : List Nat, (∀ z ∈ l, 1 ≤ z ∧ z ≤ G.length) → (l.any fun z => (gr H z).f7 == 0) = false → (l.any fun z => (gr G z).f7 == 0) = false := fun l => by
      induction l with
      | nil => intro _ _; rfl
      | cons z l ih =>
        intro hz hf
        obtain ⟨u, e, hu⟩ := hg z (hz z (by simp)).1
        rw [List.any_cons, Bool.or_eq_false_iff] at hf ⊢
        refine ⟨?_, ih (fun q hq => hz q (by simp [hq])) hf.2⟩
        have := hf.1
        rw [e] at this
        have h7 : u ≠ 0 := beq_eq_false_iff_ne.1 this
        exact beq_eq_false_iff_ne.2 (fun z => h7 (hu z))
    refine ⟨⟨q1, q2⟩, q3, q4, ?_, ?_, q7⟩
    · unfold stB revB at q5 ⊢
      rw [e, hup m q2, any8 _ (up_rng hI.1 q2)] at q5
      exact q5
    · unfold spB at q6 ⊢
      rw [hup m q2] at q6
      exact any7 _ (up_rng hI.1 q2) q6
  obtain ⟨u, ea, _⟩ := hg a ha.1.1
  obtain ⟨u', eb, _⟩ := hg b hb.1.1
  rw [ea, eb] at tw
  exact could_of hI hp (key a ha) (key b hb) tw
theorem key_free2 {day : Int} {G : List S39} {v n by_ : Int} (hc : keyC day G v n by_ = 0) : spB G n.toNat = false := by
  have := key_free hc
  unfold spB
  rw [Bool.eq_false_iff]
  intro q
  obtain ⟨m, h1, h2⟩ := List.any_eq_true.1 q
  exact this m h1 (beq_iff_eq.1 h2)
theorem could_open {day : Int} {G : List S39} {E : List S44} {p : Int} (hI : Inv G) (hp : Sm p) {v n nb m mb : Int} (hc : openC day G E v n nb m mb = 0) (ha : tb p nb.toNat = true) (hb : tb p mb.toNat = true) : tb (couldS day G p) v.toNat = true := by
  obtain ⟨v0, v1, k1, k2, hab, hroot, _⟩ := openC_zero hc
  have r1 := keyC_in k1
  have r2 := keyC_in k2
  obtain ⟨a1, a2, _, _⟩ := key_in k1
  obtain ⟨b1, b2, _, _⟩ := key_in k2
  obtain ⟨c1, c2⟩ := key_tb hI v0 v1 k1
  obtain ⟨d1, d2⟩ := key_tb hI v0 v1 k2
  exact could_of hI hp (a := n.toNat) (b := m.toNat) ⟨⟨by omega, by omega⟩, by rw [← a1]; exact ha, c1, a2, key_free2 k1, c2⟩ ⟨⟨by omega, by omega⟩, by rw [← b1]; exact hb, d1, b2, key_free2 k2, d2⟩ ⟨hroot, Or.inl (by rw [← a1, ← b1]; exact hab)⟩
/-- Calls by the group: which, and what they keep. -/
def mayDo (p : Int) (a : S37) : Bool := (((kd a == 1) || (kd a == 2)) && (inB2 p a.f3 && inB2 p a.f4)) || ((decide (kd a ≥ 4) && decide (kd a ≤ 6)) && (inB2 p a.f3 && inB2 p a.f4))
def tryS (p : Int) (s : St) (a : S37) : St := if mayDo p a then stepS s a else s
def Cov (p cd : Int) (k : Nat) (s : St) : Prop := Inv s.G ∧ k ≤ s.E.length ∧ (∀ v, tb (couldS s.day s.G p) v = true → tb cd v = true) ∧ ∀ e ∈ s.E.drop k, (0 ≤ e.f1 ∧ e.f1 ≤ 15) ∧ tb cd e.f1.toNat = true
theorem cov_try {p cd : Int} {k : Nat} (hp : Sm p) {s : St} (h : Cov p cd k s) (a : S37) : Cov p cd k (tryS p s a) := by
  unfold tryS
  by_cases hm : mayDo p a = true
  · rw [if_pos hm]
    obtain ⟨h1, h2, h3, h4⟩ := h
    have hin : inB2 p a.f3 = true ∧ inB2 p a.f4 = true := by
      unfold mayDo at hm
      simp only [Bool.or_eq_true, Bool.and_eq_true] at hm
      rcases hm with q | q
      · exact q.2
      · exact q.2
    have bit : ∀ n, inB2 p n = true → tb p n.toNat = true := fun n q => by
      unfold inB2 at q
      simp only [Bool.and_eq_true] at q
      exact q.2.2
    by_cases k1 : kd a = 1 ∨ kd a = 2
    · obtain ⟨_, e⟩ := act_pass (s := s) (a := a) (by omega) k1
      rw [e]
      by_cases hc : passC s.day s.G a.f1 a.f3 a.f4 a.f6 a.f7 a.f8 a.f9 = 0
      · rw [if_pos hc]
        have hI2 := inv_pass h1 hc
        obtain ⟨c1, c2, c3, c4, c5⟩ := passC_zero hc
        obtain ⟨r1, r2, r3, r4, r5, r6, r7⟩ := rightB_in c4
        obtain ⟨m1, m2, m3, m4, m5, m6, m7, m8, m9⟩ := mayB_iff.1 c2
        obtain ⟨o1, o2, o3, o4, o5, o6, o7, o8, o9⟩ := h1.2 a.f1.toNat (by omega) (by omega)
        have hnn : ((a.f1.toNat : Nat) : Int) = a.f1 := by omega
        have sub : ∀ (y z : Int), 0 ≤ y → y < 65536 → 0 ≤ z → z < 65536 → bits .andNot .i64 y z = 0 → ∀ v, tb y v = true → tb z v = true := fun y z y0 y1 z0 z1 q v hv => by
          have w := within y0 y1 z0 z1 q
          have := tb_and (a := y) (b := z) ⟨y0, y1⟩ ⟨z0, z1⟩ v
          rw [w, hv] at this
          simpa using this.symm
        refine ⟨hI2, h2, fun v hv => h3 v ?_, h4⟩
        refine could_pass h1 hI2 hp (n := a.f1.toNat) (by omega) (by omega) hnn.symm ?_ (by rw [← r1]; exact bit _ hin.1) (by rw [← two_bit (by omega) o6]; exact bne_iff_ne.2 r3) (fun v hv => sub a.f6 (gr s.G a.f1.toNat).f4 (by omega) m4 (by omega) o4 r4 v hv) (fun q => sub a.f7 (gr s.G a.f1.toNat).f5 (by omega) (by omega) (by omega) (by omega) r5 0 q) r6 hv
        show (if a.f1 = 0 then _ else (gr s.G a.f1.toNat).f2) = _
        rw [if_neg (by omega)]
      · rw [if_neg hc]; exact ⟨h1, h2, h3, h4⟩
    · have kk : ¬ (kd a = 0) ∧ ¬ (kd a = 3) ∧ ¬ (kd a = 7) := by
        unfold mayDo at hm
        simp only [Bool.or_eq_true, Bool.and_eq_true, beq_iff_eq, decide_eq_true_eq] at hm
        rcases hm with q | q
        · exact absurd q.1 k1
        · omega
      obtain ⟨_, e⟩ := act_open (s := s) (a := a) kk.1 k1 kk.2.1 kk.2.2
      rw [e]
      by_cases hc : openC s.day s.G s.E a.f10 a.f1 a.f3 a.f2 a.f4 = 0
      · rw [if_pos hc, if_pos hc]
        have hI2 := inv_open h1 hc
        refine ⟨hI2, by show k ≤ (s.E ++ [_]).length; simp; omega, fun v hv => h3 v (could_less h1 hI2 hp (less_uses _ _ (open_rng h1.1 hc).2.2) hv), fun e he => ?_⟩
        have he' : e ∈ (s.E ++ ([⟨s.day, a.f10, a.f1, a.f2⟩] : List S44)).drop k := he
        rw [List.drop_append_of_le_length h2] at he'
        rcases List.mem_append.1 he' with z | z
        · exact h4 e z
        · have : e = ⟨s.day, a.f10, a.f1, a.f2⟩ := by simpa using z
          subst this
          obtain ⟨v0, v1, _⟩ := openC_zero hc
          exact ⟨⟨v0, v1⟩, h3 _ (could_open h1 hp hc (bit _ hin.1) (bit _ hin.2))⟩
      · rw [if_neg hc, if_neg hc]; exact ⟨h1, h2, h3, h4⟩
  · rw [if_neg hm]; exact h
def triesS (p : Int) (s : St) (l : List S37) : St := l.foldl (tryS p) s
theorem tries_take (p : Int) (s : St) (l : List S37) (i : Nat) (h : i < l.length) : triesS p s (l.take (i + 1)) = tryS p (triesS p s (l.take i)) (l.getD i z37) := by
  unfold triesS
  rw [List.take_succ_eq_append_getElem h, List.foldl_append, List.getD_eq_getElem?_getD, List.getElem?_eq_getElem h]; rfl
theorem cov_tries {p cd : Int} {k : Nat} (hp : Sm p) (l : List S37) : ∀ s, Cov p cd k s → Cov p cd k (triesS p s l) := by
  unfold triesS
  induction l with
  | nil => intro s h; exact h
  | cons a l ih => intro s h; rw [List.foldl_cons]; exact ih _ (cov_try hp h a)
theorem try_len (p : Int) (s : St) (a : S37) : (tryS p s a).E.length ≤ s.E.length + 1 := by
  unfold tryS
  split
  · exact (step_len s a).2.2.1
  · omega
theorem tries_len (p : Int) (l : List S37) : ∀ s, (triesS p s l).E.length ≤ s.E.length + l.length := by
  unfold triesS
  induction l with
  | nil => intro s; exact Nat.le_refl _
  | cons a l ih =>
    intro s
    rw [List.foldl_cons]
    have := ih (tryS p s a)
    have := try_len p s a
    simp only [List.length_cons]
    omega
theorem cov_new {p : Int} {s : St} (hI : Inv s.G) : Cov p (couldS s.day s.G p) s.E.length s :=
  ⟨hI, Nat.le_refl _, fun _ h => h, fun e he => by rw [List.drop_length] at he; cases he⟩
end Go.Proofs.Ytfnlghjkjmppdaa.PC
