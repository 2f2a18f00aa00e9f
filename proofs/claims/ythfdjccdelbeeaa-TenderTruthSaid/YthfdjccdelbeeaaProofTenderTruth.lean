/- Proved: the pure statement of TenderTruth. -/
import Derived.Test.YthfdjccdelbeeaaPTxPureTenderTruth
import Derived.Test.YthfdjccdelbeeaaTGn
import Derived.Test.YthfdjccdelbeeaaTTr
namespace Go.Proofs.Ythfdjccdelbeeaa.PT
open Go.RowKit Go.Proofs.YthfdjccdelbeeaaW.PrintWords Go.Proofs.YthfdjccdelbeeaaW.PrintMore Go.Proofs.Ythfdjccdelbeeaa.Opn Go.Proofs.Ythfdjccdelbeeaa.TPl
set_option linter.unusedVariables false
theorem truth_alive : Ev (fun k => (kimberlitelaw05_alive.f k).bind fun t => some t) true := Ev.bind ev_alive (Ev.now true)
/-- An offer whose lots lie within a set. -/
def within (o : S50) (set : Nat) : Prop := o.f1.toNat &&& set = o.f1.toNat
/-- What a set of lots is worth. -/
def WS (P : List S50) (set : Nat) (x : Int) : Prop := (x = 0 ∨ ∃ f ∈ P, within f set ∧ x = f.f2) ∧ 0 ≤ x ∧ ∀ f ∈ P, within f set → f.f2 ≤ x
theorem rd_set (A : List Int) (i j : Nat) (x : Int) (hi : i < A.length) : rd (A.set i x) (j : Int) = if i = j then x else rd A (j : Int) := by
  simp only [rd, Int.toNat_natCast, List.getD_eq_getElem?_getD, List.getElem?_set]
  by_cases c : i = j
  · subst c; simp [hi]
  · simp [c]
theorem ev_worths_l1 (F : List S50) (hF : ∀ f ∈ F, 1 ≤ f.f1 ∧ f.f1 < 4096 ∧ 1 ≤ f.f2 ∧ f.f2 ≤ 1073741824) (hn : F.length ≤ 16) (A : List Int) (set : Nat) (hset : set < A.length) (hA : A.length ≤ 4096) :
    ∀ (d i : Nat) (x : Int), i + d = F.length → WS (F.take i) set x → ∃ x', WS F set x' ∧ ∀ R, Ev (fun k => kimberlitelaw05_worths.l0 k F (A.set set x') ((set + 1 : Nat) : Int)) R → Ev (fun k => kimberlitelaw05_worths.l1 k F (A.set set x) (set : Int) (i : Int)) R
  | 0, i, x, h, hx => by
    rw [List.take_of_length_le (by omega)] at hx
    refine ⟨x, hx, fun R hR => Ev.step (fun k => ?_) hR⟩
    simp only [kimberlitelaw05_worths.l1]
    rw [if_neg (by omega), w64 set (by omega)]
  | d + 1, i, x, h, hx => by
    have hi : i < F.length := by omega
    have hf := hF F[i] (List.getElem_mem hi)
    have hand : bits .and .i64 F[i].f1 (set : Int) = ((F[i].f1.toNat &&& set : Nat) : Int) := by
      have := (bits63 F[i].f1.toNat set (by omega) (by omega)).1
      rwa [show ((F[i].f1.toNat : Nat) : Int) = F[i].f1 by omega] at this
    have hst : ∀ k, kimberlitelaw05_worths.l1 (k + 1) F (A.set set x) (set : Int) (i : Int) = if F[i].f1.toNat &&& set = F[i].f1.toNat then kimberlitelaw05_worths.l1 k F (A.set set (mx x F[i].f2)) (set : Int) ((i + 1 : Nat) : Int) else kimberlitelaw05_worths.l1 k F (A.set set x) (set : Int) ((i + 1 : Nat) : Int) := fun k => by
      simp only [kimberlitelaw05_worths.l1]
      rw [if_pos (by omega), if_pos (by omega), rd_get F i hi, hand, w64 i (by omega)]
      by_cases c : F[i].f1.toNat &&& set = F[i].f1.toNat
      · rw [if_pos c, if_pos (by omega), if_pos (by omega), if_pos (by rw [List.length_set]; omega), rd_set A set set x hset, if_pos rfl, Int.toNat_natCast, List.set_set]
      · rw [if_neg c, if_neg (by omega)]
    by_cases c : F[i].f1.toNat &&& set = F[i].f1.toNat
    · have hmx : mx x F[i].f2 = if x < F[i].f2 then F[i].f2 else x := rfl
      obtain ⟨x', h1, h2⟩ := ev_worths_l1 F hF hn A set hset hA d (i + 1) (mx x F[i].f2) (by omega) (by
        rw [List.take_succ_eq_append_getElem hi, hmx]
        by_cases g : x < F[i].f2
        · rw [if_pos g]
          refine ⟨Or.inr ⟨F[i], List.mem_append_right _ (List.mem_singleton.2 rfl), c, rfl⟩, by omega, fun f hfm hw => ?_⟩
          rcases List.mem_append.1 hfm with q | q
          · have := hx.2.2 f q hw; omega
          · rw [List.mem_singleton] at q; subst q; exact Int.le_refl _
        · rw [if_neg g]
          refine ⟨?_, hx.2.1, fun f hfm hw => ?_⟩
          · rcases hx.1 with e | ⟨f, q, e⟩
            · exact Or.inl e
            · exact Or.inr ⟨f, List.mem_append_left _ q, e⟩
          · rcases List.mem_append.1 hfm with q | q
            · exact hx.2.2 f q hw
            · rw [List.mem_singleton] at q; subst q; omega)
      exact ⟨x', h1, fun R hR => Ev.step (fun k => by rw [hst k, if_pos c]) (h2 R hR)⟩
    · obtain ⟨x', h1, h2⟩ := ev_worths_l1 F hF hn A set hset hA d (i + 1) x (by omega) (by
        rw [List.take_succ_eq_append_getElem hi]
        refine ⟨?_, hx.2.1, fun f hfm hw => ?_⟩
        · rcases hx.1 with e | ⟨f, q, e⟩
          · exact Or.inl e
          · exact Or.inr ⟨f, List.mem_append_left _ q, e⟩
        · rcases List.mem_append.1 hfm with q | q
          · exact hx.2.2 f q hw
          · rw [List.mem_singleton] at q; subst q; exact absurd hw c)
      exact ⟨x', h1, fun R hR => Ev.step (fun k => by rw [hst k, if_neg c]) (h2 R hR)⟩
theorem ev_worths_l0 (F : List S50) (hF : ∀ f ∈ F, 1 ≤ f.f1 ∧ f.f1 < 4096 ∧ 1 ≤ f.f2 ∧ f.f2 ≤ 1073741824) (hn : F.length ≤ 16) (M : Nat) (hM : M ≤ 4096) :
    ∀ (d set : Nat) (A : List Int), set + d = M → A.length = M → (∀ m : Nat, m < set → WS F m (rd A (m : Int))) → (∀ m : Nat, set ≤ m → rd A (m : Int) = 0) → ∃ w, w.length = M ∧ (∀ m : Nat, m < M → WS F m (rd w (m : Int))) ∧ Ev (fun k => kimberlitelaw05_worths.l0 k F A (set : Int)) w
  | 0, set, A, h, hA, h1, h2 => by
    refine ⟨A, hA, fun m hm => h1 m (by omega), Ev.here fun k => ?_⟩
    simp only [kimberlitelaw05_worths.l0]
    rw [if_neg (by omega)]
  | d + 1, set, A, h, hA, h1, h2 => by
    have hs : set < A.length := by omega
    have hz : A.set set 0 = A := by
      have := h2 set (Nat.le_refl _)
      simp [rd, hs] at this
      rw [← this]; exact List.set_getElem_self hs
    obtain ⟨x', hx, hR⟩ := ev_worths_l1 F hF hn A set hs (by omega) F.length 0 0 (by omega) ⟨Or.inl rfl, Int.le_refl _, fun f hf => by simp at hf⟩
    rw [hz] at hR
    obtain ⟨w, e1, e2, e3⟩ := ev_worths_l0 F hF hn M hM d (set + 1) (A.set set x') (by omega) (by simpa using hA) (fun m hm => by
      rw [rd_set A set m x' hs]
      by_cases c : set = m
      · subst c; rw [if_pos rfl]; exact hx
      · rw [if_neg c]; exact h1 m (by omega)) (fun m hm => by
      rw [rd_set A set m x' hs, if_neg (by omega)]; exact h2 m (by omega))
    refine ⟨w, e1, e2, Ev.step (fun k => ?_) (hR w e3)⟩
    simp only [kimberlitelaw05_worths.l0]
    rw [if_pos (by omega)]; rfl
theorem ev_worths (lots : Int) (h0 : 1 ≤ lots) (h1 : lots ≤ 12) (F : List S50) (hF : ∀ f ∈ F, 1 ≤ f.f1 ∧ f.f1 < 4096 ∧ 1 ≤ f.f2 ∧ f.f2 ≤ 1073741824) (hn : F.length ≤ 16) :
    ∃ w, w.length = 2 ^ lots.toNat ∧ (∀ m : Nat, m < 2 ^ lots.toNat → WS F m (rd w (m : Int))) ∧ Ev (fun k => kimberlitelaw05_worths.f k lots F) w := by
  have hp : 2 ^ lots.toNat ≤ 2 ^ 12 := Nat.pow_le_pow_right (by decide) (by omega)
  obtain ⟨w, e1, e2, e3⟩ := ev_worths_l0 F hF hn (2 ^ lots.toNat) (by omega) (2 ^ lots.toNat) 0 (List.replicate (2 ^ lots.toNat) 0) (by omega) (by simp) (fun m hm => by omega) (fun m _ => by simp [rd, List.getElem?_replicate]; split <;> rfl)
  refine ⟨w, e1, e2, Ev.congr (fun k => ?_) e3⟩
  simp only [kimberlitelaw05_worths.f, shl_lots lots (by omega) h1, Int.toNat_natCast]
  rw [if_pos (by omega), if_pos (by omega), if_pos (by omega)]; rfl
theorem gainL_cases (l : List S50) (b : Int) (w : List Int) (v : Int) : ∀ T : List Int, (∃ x ∈ T, (rd_T50 l x).f0 = b ∧ gainL l b w v T = (wrap64 (rd w (rd_T50 l x).f1 - payS l v x), 0)) ∨ ((∀ x ∈ T, (rd_T50 l x).f0 ≠ b) ∧ gainL l b w v T = (0, 0))
  | [] => Or.inr ⟨fun x hx => by simp at hx, rfl⟩
  | x :: T => by
    by_cases c : (rd_T50 l x).f0 = b
    · left; exact ⟨x, List.mem_cons_self, c, by simp only [gainL, if_pos c]⟩
    · simp only [gainL, if_neg c]
      rcases gainL_cases l b w v T with ⟨y, hy, h1, h2⟩ | ⟨h1, h2⟩
      · left; exact ⟨y, List.mem_cons_of_mem _ hy, h1, h2⟩
      · right; refine ⟨fun y hy => ?_, h2⟩
        rcases List.mem_cons.1 hy with rfl | g
        · exact c
        · exact h1 y g
def mine (b : Int) (o : S50) : S50 := ⟨b, o.f1, o.f2⟩
theorem ev_truth_l1 (lots : Int) (m : List S50) (hm : m.length ≤ 4) (b : Int) (T F O : List S50) (hO : O.length ≤ 20)
    (hk : Ev (fun k => (kimberliteref05_Offers.f k lots T).bind fun t414 => (if t414 = 0 then ((kimberliteref05_Offers.f k lots (O ++ m.map (mine b))).bind fun t415 => (kimberlitelaw05_TenderTruth.j3 k lots b T (O ++ m.map (mine b)) F (t415 != 0))) else (kimberlitelaw05_TenderTruth.j3 k lots b T (O ++ m.map (mine b)) F true))) true) :
    ∀ (d i : Nat), i + d = m.length → Ev (fun k => kimberlitelaw05_TenderTruth.l1 k lots m b T (O ++ (m.take i).map (mine b)) F (i : Int)) true
  | 0, i, h => by
    rw [List.take_of_length_le (by omega)]
    refine Ev.step (fun k => ?_) hk
    simp only [kimberlitelaw05_TenderTruth.l1]
    rw [if_neg (by omega)]
  | d + 1, i, h => by
    have hi : i < m.length := by omega
    have ih := ev_truth_l1 lots m hm b T F O hO hk d (i + 1) (by omega)
    rw [List.take_succ_eq_append_getElem hi, List.map_append, ← List.append_assoc] at ih
    refine Ev.step (fun k => ?_) ih
    simp only [kimberlitelaw05_TenderTruth.l1]
    rw [if_pos (by omega), if_pos (by omega), if_pos (by simp; omega), rd_get m i hi, w64 i (by omega)]; rfl
theorem ev_truth_l0 (lots : Int) (m y : List S50) (hm : m.length ≤ 4) (b : Int) (R O : List S50) (hR : R.length ≤ 20)
    (hk : Ev (fun k => kimberlitelaw05_TenderTruth.l1 k lots y b (R ++ m.map (mine b)) O (m.map (mine b)) ((0 : Nat) : Int)) true) :
    ∀ (d i : Nat), i + d = m.length → Ev (fun k => kimberlitelaw05_TenderTruth.l0 k lots m y b (R ++ (m.take i).map (mine b)) O ((m.take i).map (mine b)) (i : Int)) true
  | 0, i, h => by
    rw [List.take_of_length_le (by omega)]
    refine Ev.step (fun k => ?_) hk
    simp only [kimberlitelaw05_TenderTruth.l0]
    rw [if_neg (by omega)]; rfl
  | d + 1, i, h => by
    have hi : i < m.length := by omega
    have ih := ev_truth_l0 lots m y hm b R O hR hk d (i + 1) (by omega)
    rw [List.take_succ_eq_append_getElem hi, List.map_append, ← List.append_assoc] at ih
    refine Ev.step (fun k => ?_) ih
    simp only [kimberlitelaw05_TenderTruth.l0]
    rw [if_pos (by omega), if_pos (by omega), if_pos (by simp; omega), if_pos (by simp; omega), rd_get m i hi, w64 i (by omega)]; rfl
theorem filt_app (R F : List S50) (b : Int) (hR : ∀ r ∈ R, r.f0 ≠ b) (hF : ∀ f ∈ F, f.f0 = b) : (R ++ F).filter (fun o => o.f0 != b) = R := by
  rw [List.filter_append, List.filter_eq_self.2 (fun o ho => by simpa using hR o ho), List.filter_eq_nil_iff.2 (fun o ho => by simpa using hF o ho), List.append_nil]
/-- The gain against what the buyer adds to the worth. -/
theorem ev_truth_j3 (lots : Int) (b : Int) (hb : 0 ≤ b ∧ b ≤ 7) (R F Y : List S50) (hR : ∀ r ∈ R, r.f0 ≠ b) (hF : ∀ f ∈ F, f.f0 = b) (hY : ∀ y ∈ Y, y.f0 = b) (hvT : Vld lots (R ++ F)) (hvO : Vld lots (R ++ Y)) :
    Ev (fun k => kimberlitelaw05_TenderTruth.j3 k lots b (R ++ F) (R ++ Y) F false) true := by
  have hlo := hvT.lo
  have hhi := hvT.hi
  have hp : 2 ^ lots.toNat ≤ 2 ^ 12 := Nat.pow_le_pow_right (by decide) (by omega)
  have hFb : ∀ f ∈ F, 1 ≤ f.f1 ∧ f.f1 < 4096 ∧ 1 ≤ f.f2 ∧ f.f2 ≤ 1073741824 := fun f hf => by
    have := hvT.bv.2 f (List.mem_append_right _ hf); omega
  have hFn : F.length ≤ 16 := by have := hvT.len; rw [List.length_append] at this; omega
  obtain ⟨w, hw1, hw2, hW⟩ := ev_worths lots hlo hhi F hFb hFn
  have hwb : ∀ m : Nat, m < 2 ^ lots.toNat → 0 ≤ rd w (m : Int) ∧ rd w (m : Int) ≤ 1073741824 := fun m hm => by
    have := hw2 m hm
    refine ⟨this.2.1, ?_⟩
    rcases this.1 with e | ⟨f, hf, _, e⟩
    · omega
    · have := hFb f hf; omega
  have hwm : ∀ x ∈ w, 0 ≤ x ∧ x ≤ 1073741824 := fun x hx => by
    obtain ⟨j, hj, rfl⟩ := List.mem_iff_getElem.1 hx
    have := hwb j (by omega)
    simpa [rd, hj] using this
  obtain ⟨r, hr⟩ := gain_is lots (R ++ F) b w
  obtain ⟨q, hq⟩ := gain_is lots (R ++ Y) b w
  obtain ⟨s, hs, _⟩ := ev_BestOk lots _ hvT
  obtain ⟨t, ht, _⟩ := ev_BestOk lots _ hvO
  have er := hr.ok (errS_zero.2 hvT) hb.1 hb.2 (by omega) hwm s hs
  have eq := hq.ok (errS_zero.2 hvO) hb.1 hb.2 (by omega) hwm t ht
  have fT := filt_app R F b hR hF
  have fO := filt_app R Y b hR hY
  have hvR : Vld lots R := hvT.sub (by have := hvT.len; rw [List.length_append] at this; omega) (fun o ho => List.mem_append_left _ ho)
  obtain ⟨u, hu, _⟩ := ev_BestOk lots _ hvR
  have wT : ((val (R.map toOf) u : Nat) : Int) = worthWo (R ++ F) b := by
    have := rest_eq hvT b hb.1 (t := u) (by rw [fT]; exact hu); rwa [fT] at this
  have wO : ((val (R.map toOf) u : Nat) : Int) = worthWo (R ++ Y) b := by
    have := rest_eq hvO b hb.1 (t := u) (by rw [fO]; exact hu); rwa [fO] at this
  have wV : val (R.map toOf) u ≤ val ((R ++ F).map toOf) s := by
    obtain ⟨z, hz, e, _⟩ := best_both _ hvT.bv b
    have hwz : worthWo (R ++ F) b = ((val ((R ++ F).map toOf) z : Nat) : Int) := by simp only [worthWo, e, Option.getD_some]
    have h1 := hs.2 z (feas_neg1 _ _ _ _ _ hz.1)
    omega
  have tT := tot_bd _ hvT.bv
  have tO := tot_bd _ hvO.bv
  have vT := val_le ((R ++ F).map toOf) s
  have vO := val_le ((R ++ Y).map toOf) t
  -- the honest gain
  have honest : r.2 = 0 ∧ ((val ((R ++ F).map toOf) s : Nat) : Int) - ((val (R.map toOf) u : Nat) : Int) ≤ r.1 := by
    rcases gainL_cases (R ++ F) b w ((val ((R ++ F).map toOf) s : Nat) : Int) (idx 0 s) with ⟨x, hx, hxb, e⟩ | ⟨hno, e⟩
    · obtain ⟨j, rfl, _, hj, hsj⟩ := idx_mem s 0 x hx
      have hsl := feas_len _ _ _ _ _ hs.1
      rw [List.length_map] at hsl
      have hj : j < (R ++ F).length := by omega
      rw [Nat.sub_zero] at hsj
      have hpb := pay_bd _ hvT.bv s hs j hj hsj
      rw [rd_get _ j hj] at hxb e
      have hmem : (R ++ F)[j] ∈ F := by
        rcases List.mem_append.1 (List.getElem_mem hj) with g | g
        · exact absurd hxb (hR _ g)
        · exact g
      have hall := hvT.all _ (List.getElem_mem hj)
      have hws := hw2 (R ++ F)[j].f1.toNat (by omega)
      have hle := hws.2.2 _ hmem (show _ &&& _ = _ by rw [Nat.and_self])
      have hwb' := hwb (R ++ F)[j].f1.toNat (by omega)
      rw [show (((R ++ F)[j].f1.toNat : Nat) : Int) = (R ++ F)[j].f1 by omega] at hle hwb'
      have hpay : payS (R ++ F) ((val ((R ++ F).map toOf) s : Nat) : Int) (j : Int) = ((val (R.map toOf) u : Nat) : Int) - (((val ((R ++ F).map toOf) s : Nat) : Int) - (R ++ F)[j].f2) := by
        simp only [payS, rd_get _ j hj, hxb, wT]
      rw [er, e]
      refine ⟨rfl, ?_⟩
      dsimp only
      rw [hpay] at hpb ⊢
      unfold wrap64; omega
    · have := rest_same hvT b hs (t := u) (by rw [fT]; exact hu) hno
      rw [fT] at this
      rw [er, e]
      exact ⟨rfl, by dsimp only; omega⟩
  have liar : q.2 = 0 ∧ q.1 ≤ ((val ((R ++ F).map toOf) s : Nat) : Int) - ((val (R.map toOf) u : Nat) : Int) := by
    rcases gainL_cases (R ++ Y) b w ((val ((R ++ Y).map toOf) t : Nat) : Int) (idx 0 t) with ⟨x, hx, hxb, e⟩ | ⟨hno, e⟩
    · obtain ⟨j, rfl, _, hj, hsj⟩ := idx_mem t 0 x hx
      have hsl := feas_len _ _ _ _ _ ht.1
      rw [List.length_map] at hsl
      have hj : j < (R ++ Y).length := by omega
      rw [Nat.sub_zero] at hsj
      have hpb := pay_bd _ hvO.bv t ht j hj hsj
      rw [rd_get _ j hj] at hxb e
      have hall := hvO.all _ (List.getElem_mem hj)
      have hws := hw2 (R ++ Y)[j].f1.toNat (by omega)
      have hwb' := hwb (R ++ Y)[j].f1.toNat (by omega)
      rw [show (((R ++ Y)[j].f1.toNat : Nat) : Int) = (R ++ Y)[j].f1 by omega] at hws hwb'
      have hpay : payS (R ++ Y) ((val ((R ++ Y).map toOf) t : Nat) : Int) (j : Int) = ((val (R.map toOf) u : Nat) : Int) - (((val ((R ++ Y).map toOf) t : Nat) : Int) - (R ++ Y)[j].f2) := by
        simp only [payS, rd_get _ j hj, hxb, wO]
      have hsw : ((val ((R ++ Y).map toOf) t : Nat) : Int) - (R ++ Y)[j].f2 + rd w (R ++ Y)[j].f1 ≤ ((val ((R ++ F).map toOf) s : Nat) : Int) := by
        have hbn : ∀ o : S50, o.f0 = b → (toOf o).b = b.toNat := fun o ho => by show o.f0.toNat = _; rw [ho]
        have hpn : ((toOf (R ++ Y)[j]).p : Int) = (R ++ Y)[j].f2 := by show (((R ++ Y)[j].f2.toNat : Nat) : Int) = _; omega
        have hlf := lie_fact b.toNat (Y.map toOf) (F.map toOf) (fun o ho => by obtain ⟨y, hy, rfl⟩ := List.mem_map.1 ho; exact hbn y (hY y hy)) (fun o ho => by obtain ⟨y, hy, rfl⟩ := List.mem_map.1 ho; exact hbn y (hF y hy))
          (R.map toOf) t 0 0 j (toOf (R ++ Y)[j]) (fun o ho => by
            obtain ⟨y, hy, rfl⟩ := List.mem_map.1 ho
            have h1 := hR y hy
            have h2 := hvR.all y hy
            show y.f0.toNat ≠ b.toNat
            omega) (by rw [← List.map_append]; exact ht.1) hsj (by rw [← List.map_append, List.getElem?_map, List.getElem?_eq_getElem hj]; rfl) (hbn _ hxb)
        simp only [← List.map_append] at hlf
        rcases hws.1 with e0 | ⟨f, hf, hfw, e0⟩
        · obtain ⟨z, hz1, hz2⟩ := hlf.1
          have := hs.2 z hz1
          rw [e0]; omega
        · obtain ⟨z, hz1, hz2⟩ := hlf.2 (toOf f) (List.mem_map_of_mem hf) hfw
          have := hs.2 z hz1
          have hfb := hFb f hf
          have hfp : ((toOf f).p : Int) = f.f2 := by show ((f.f2.toNat : Nat) : Int) = _; omega
          rw [e0]; omega
      rw [eq, e]
      refine ⟨rfl, ?_⟩
      dsimp only
      rw [hpay] at hpb ⊢
      unfold wrap64; omega
    · rw [eq, e]
      exact ⟨rfl, by dsimp only; omega⟩
  refine Ev.step (f := fun k => (kimberlitelaw05_worths.f k lots F).bind fun t417 => ((tender_Gain.f k lots (R ++ F) b t417).bind fun bt420 => ((tender_Gain.f k lots (R ++ Y) b t417).bind fun bt422 => (if bt420.2 = 0 then (if bt422.2 = 0 then (if bt420.1 ≥ 0 then (if bt420.1 ≥ bt422.1 then ((kimberlitelaw05_alive.f k).bind fun t424 => (some t424)) else (some false)) else (some false)) else (some false)) else (some false))))) (fun k => by simp [kimberlitelaw05_TenderTruth.j3]) ?_
  refine Ev.bind hW (Ev.bind (ev_Gain lots _ b w r hr) (Ev.bind (ev_Gain lots _ b w q hq) ?_))
  simp only [if_pos honest.1, if_pos liar.1, if_pos (show r.1 ≥ 0 by omega), if_pos (show r.1 ≥ q.1 by omega)]
  exact truth_alive
theorem ev_truth_j3t (lots b : Int) (T O F : List S50) : Ev (fun k => kimberlitelaw05_TenderTruth.j3 k lots b T O F true) true :=
  Ev.step (fun k => by simp only [kimberlitelaw05_TenderTruth.j3, if_true]) truth_alive
theorem ev_truth_j0 (lots b : Int) (hb : 0 ≤ b ∧ b ≤ 7) (x m y : List S50) (hx : x.length ≤ 12) (hm : m.length ≤ 4) (hy : y.length ≤ 4) : Ev (fun k => kimberlitelaw05_TenderTruth.j0 k lots x m y b false) true := by
  refine Ev.step (f := fun k => (kimberlitelaw05_without.f k x b).bind fun t392 => ((kimberlitelaw05_own.f k t392).bind fun t395 => ((kimberlitelaw05_own.f k t392).bind fun t398 => (kimberlitelaw05_TenderTruth.l0 k lots m y b t395 t398 ([] : List S50) ((0 : Nat) : Int))))) (fun k => by simp [kimberlitelaw05_TenderTruth.j0]) ?_
  refine Ev.bind (ev_without x b (by omega)) ?_
  have hl := List.length_filter_le (fun o : S50 => o.f0 != b) x
  have hR : ∀ r ∈ x.filter (fun o => o.f0 != b), r.f0 ≠ b := fun r hr => by simpa using (List.mem_filter.1 hr).2
  generalize x.filter (fun o => o.f0 != b) = R at hl hR
  refine Ev.bind (ev_own R (by omega)) (Ev.bind (ev_own R (by omega)) ?_)
  have h := ev_truth_l0 lots m y hm b R R (by omega) ?_ m.length 0 (by omega)
  · simpa using h
  have h := ev_truth_l1 lots y hy b (R ++ m.map (mine b)) (m.map (mine b)) R (by omega) ?_ y.length 0 (by omega)
  · simpa using h
  refine Ev.bind (ev_Offers lots _) ?_
  by_cases c : errS lots (R ++ m.map (mine b)) = 0
  · simp only [if_pos c]
    refine Ev.bind (ev_Offers lots _) ?_
    by_cases d : errS lots (R ++ y.map (mine b)) = 0
    · simp only [d, bne_self_eq_false]
      exact ev_truth_j3 lots b hb R _ _ hR (fun f hf => by obtain ⟨z, _, rfl⟩ := List.mem_map.1 hf; rfl) (fun f hf => by obtain ⟨z, _, rfl⟩ := List.mem_map.1 hf; rfl) (errS_zero.1 c) (errS_zero.1 d)
    · rw [show (errS lots (R ++ y.map (mine b)) != 0) = true by simpa using d]
      exact ev_truth_j3t _ _ _ _ _
  · simp only [if_neg c]
    exact ev_truth_j3t _ _ _ _ _
theorem tenderTruth_pure : kimberlitelaw05_TenderTruth.Pure2 := by
  intro lots x m y b _ _ _ _ _
  apply Ev.rounds
  have hT : Ev (fun k => kimberlitelaw05_TenderTruth.j0 k lots x m y b true) true := Ev.step (fun k => by simp only [kimberlitelaw05_TenderTruth.j0, if_true]) truth_alive
  unfold kimberlitelaw05_TenderTruth.f
  by_cases c1 : lots < 1
  · simpa only [if_pos c1] using hT
  by_cases c2 : lots > 8
  · simpa only [if_neg c1, if_pos c2] using hT
  by_cases c3 : b < 0
  · simpa only [if_neg c1, if_neg c2, if_pos c3] using hT
  by_cases c4 : b > 7
  · simpa only [if_neg c1, if_neg c2, if_neg c3, if_pos c4] using hT
  by_cases c5 : (x.length : Int) > 12
  · simpa only [if_neg c1, if_neg c2, if_neg c3, if_neg c4, if_pos c5] using hT
  by_cases c6 : (m.length : Int) > 4
  · simpa only [if_neg c1, if_neg c2, if_neg c3, if_neg c4, if_neg c5, if_pos c6] using hT
  simp only [if_neg c1, if_neg c2, if_neg c3, if_neg c4, if_neg c5, if_neg c6]
  by_cases c7 : (y.length : Int) > 4
  · simpa only [decide_eq_true c7] using hT
  · simp only [decide_eq_false c7]
    exact ev_truth_j0 lots b (by omega) x m y (by omega) (by omega) (by omega)
end Go.Proofs.Ythfdjccdelbeeaa.PT
