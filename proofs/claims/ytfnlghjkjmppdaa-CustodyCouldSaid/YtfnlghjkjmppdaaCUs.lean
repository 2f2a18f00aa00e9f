/-
  Uses: what is left of a bound is the bound less the uses.
-/
import Derived.Test.YtfnlghjkjmppdaaCNa
import Derived.Test.YtfnlghjkjmppdaaPCx20
namespace Go.Proofs.Ytfnlghjkjmppdaa.PC
open Go.RowKit Go.Proofs.YtfnlghjkjmppdaaW.PrintWords Go.Proofs.YtfnlghjkjmppdaaW.PrintLast Go.Proofs.YtfnlghjkjmppdaaW.PrintMore
set_option linter.unusedVariables false
set_option linter.unusedSimpArgs false
/-- Grants that differ neither in numbers nor in what is above have the same above them. -/
theorem up_same {G H : List S39} (hT : Tree G) (hT2 : Tree H) (hl : H.length = G.length) (h : ∀ n, 1 ≤ n → n ≤ G.length → (gr H n).f1 = (gr G n).f1) : ∀ (b n : Nat), n ≤ b → n ≤ G.length → up H n = up G n
  | 0, n, hb, hn => by
    have : n = 0 := by omega
    subst this; rw [up_zero, up_zero]
  | b + 1, n, hb, hn => by
    by_cases c : n = 0
    · subst c; rw [up_zero, up_zero]
    · have ht := (hT.2 n (by omega) hn).2
      rw [up_succ hT2 (by omega) (by omega), up_succ hT (by omega) hn, h n (by omega) hn, up_same hT hT2 hl h b _ (by omega) (by omega)]
theorem up_app2 {G : List S39} {x : S39} (hT : Tree G) (hT2 : Tree (G ++ [x])) : ∀ (b n : Nat), n ≤ b → n ≤ G.length → up (G ++ [x]) n = up G n
  | 0, n, hb, hn => by
    have : n = 0 := by omega
    subst this; rw [up_zero, up_zero]
  | b + 1, n, hb, hn => by
    by_cases c : n = 0
    · subst c; rw [up_zero, up_zero]
    · have ht := (hT.2 n (by omega) hn).2
      rw [up_succ hT2 (by omega) (by simp; omega), up_succ hT (by omega) hn, gr_app_old G x n (by omega) hn, up_app2 hT hT2 b _ (by omega) (by omega)]
theorem up_nodup {G : List S39} (hT : Tree G) : ∀ (b n : Nat), n ≤ b → n ≤ G.length → (up G n).Nodup
  | 0, n, hb, hn => by
    have : n = 0 := by omega
    subst this; rw [up_zero]; exact List.nodup_nil
  | b + 1, n, hb, hn => by
    by_cases c : n = 0
    · subst c; rw [up_zero]; exact List.nodup_nil
    · have ht := (hT.2 n (by omega) hn).2
      rw [up_succ hT (by omega) hn, List.nodup_cons]
      refine ⟨fun hm => ?_, up_nodup hT b _ (by omega) (by omega)⟩
      have := up_mem hT b _ (show (gr G n).f1.toNat ≤ b by omega) (by omega) n hm
      omega
/-- All above a grant have its root. -/
theorem up_root_same {G : List S39} (h : Nar G) : ∀ (b n : Nat), n ≤ b → 1 ≤ n → n ≤ G.length → ∀ m ∈ up G n, (gr G m).f2 = (gr G n).f2
  | 0, n, hb, h1, hn, m, hm => by omega
  | b + 1, n, hb, h1, hn, m, hm => by
    have ht := (h.1.1.2 n h1 hn).2
    rw [up_succ h.1.1 h1 hn, List.mem_cons] at hm
    rcases hm with rfl | hm
    · rfl
    · by_cases c : (gr G n).f1 = 0
      · rw [c, show (0 : Int).toNat = 0 from rfl, up_zero] at hm; simp at hm
      · rw [((h.2 n h1 hn).2 c).1]
        exact up_root_same h b _ (by omega) (by omega) (by omega) m hm
theorem gr_uses : ∀ (ms : List Nat) (G : List S39) (n : Nat), ms.Nodup → (∀ m ∈ ms, 1 ≤ m ∧ m ≤ G.length) → 1 ≤ n → gr (ms.foldl use1 G) n = { gr G n with f7 := if n ∈ ms ∧ 0 < (gr G n).f7 then (gr G n).f7 - 1 else (gr G n).f7 }
  | [], G, n, _, _, _ => by simp
  | m :: ms, G, n, hd, hm, hn => by
    rw [List.nodup_cons] at hd
    have h1 := hm m (by simp)
    rw [List.foldl_cons, gr_uses ms (use1 G m) n hd.2 (fun q hq => by rw [use1_len]; exact hm q (by simp [hq])) hn, gr_use1 G m n h1.1 h1.2 hn]
    by_cases c : n = m
    · subst c
      simp only [List.mem_cons, true_or, true_and]
      rw [if_neg (fun q => hd.1 q.1)]
    · have c2 : ¬ (n = m ∧ 0 < (gr G m).f7) := fun q => c q.1
      simp only [List.mem_cons, if_neg c2]
      simp only [c, false_or, false_and, if_false]
/-- How often a grant, or one beneath it, was used by an entry; by all. -/
def use2 (G : List S39) (n : Nat) (e : S44) : Nat := (if n ∈ up G e.f2.toNat then 1 else 0) + (if n ∈ up G e.f3.toNat then 1 else 0)
def usedN (G : List S39) (E : List S44) (n : Nat) : Nat := (E.map (use2 G n)).sum
def EIn (G : List S39) (E : List S44) : Prop := ∀ e ∈ E, (1 ≤ e.f2 ∧ e.f2 ≤ G.length) ∧ (1 ≤ e.f3 ∧ e.f3 ≤ G.length)
/-- What is left, by what was made. -/
def UsI (s : St) (M : List Int) : Prop := Nar s.G ∧ EIn s.G s.E ∧ M.length = s.G.length ∧ ∀ n, 1 ≤ n → n ≤ s.G.length → (M.getD (n - 1) 0 < 0 → (gr s.G n).f7 = -1) ∧ (0 ≤ M.getD (n - 1) 0 → (gr s.G n).f7 = M.getD (n - 1) 0 - usedN s.G s.E n ∧ 0 ≤ (gr s.G n).f7)
theorem sum_same {α : Type} {f g : α → Nat} : ∀ {l : List α}, (∀ x ∈ l, f x = g x) → (l.map f).sum = (l.map g).sum
  | [], _ => rfl
  | x :: l, h => by
    rw [List.map_cons, List.map_cons, List.sum_cons, List.sum_cons, h x (by simp), sum_same (fun y hy => h y (by simp [hy]))]
theorem used_same {G H : List S39} {E : List S44} {n : Nat} (hE : EIn G E) (hu : ∀ m, m ≤ G.length → up H m = up G m) : usedN H E n = usedN G E n := by
  unfold usedN
  refine sum_same (fun e he => ?_)
  obtain ⟨⟨a1, a2⟩, b1, b2⟩ := hE e he
  unfold use2
  rw [hu e.f2.toNat (by omega), hu e.f3.toNat (by omega)]
theorem used_new {G : List S39} {E : List S44} (hT : Tree G) (hE : EIn G E) {n : Nat} (hn : G.length < n) : usedN G E n = 0 := by
  have hz : ∀ l : List S44, (∀ e ∈ l, (1 ≤ e.f2 ∧ e.f2 ≤ G.length) ∧ (1 ≤ e.f3 ∧ e.f3 ≤ G.length)) → (l.map (use2 G n)).sum = 0 := by
    intro l
    induction l with
    | nil => intro _; rfl
    | cons e l ih =>
      intro h
      obtain ⟨⟨a1, a2⟩, b1, b2⟩ := h e (by simp)
      rw [List.map_cons, List.sum_cons, ih (fun q hq => h q (by simp [hq]))]
      unfold use2
      rw [if_neg (fun hm => by have := up_mem hT _ _ (Nat.le_refl _) (show e.f2.toNat ≤ G.length by omega) n hm; omega), if_neg (fun hm => by have := up_mem hT _ _ (Nat.le_refl _) (show e.f3.toNat ≤ G.length by omega) n hm; omega)]
  exact hz E hE
theorem usi_app {s : St} {M : List Int} (h : UsI s M) (x : S39) (hN : Nar (s.G ++ [x])) (hx : x.f7 = -1 ∨ 1 ≤ x.f7) : UsI ⟨s.day, s.G ++ [x], s.E⟩ (M ++ [x.f7]) := by
  obtain ⟨h1, h2, h3, h4⟩ := h
  have hup : ∀ m, m ≤ s.G.length → up (s.G ++ [x]) m = up s.G m := fun m hm => up_app2 h1.1.1 hN.1.1 m m (Nat.le_refl _) hm
  refine ⟨hN, fun e he => ?_, by simp [h3], fun n q1 q2 => ?_⟩
  · have := h2 e he
    show (1 ≤ e.f2 ∧ e.f2 ≤ ((s.G ++ [x]).length : Nat)) ∧ (1 ≤ e.f3 ∧ e.f3 ≤ ((s.G ++ [x]).length : Nat))
    rw [List.length_append]; simp only [List.length_singleton]; omega
  · have q2' : n ≤ (s.G ++ [x]).length := q2
    rw [List.length_append, List.length_singleton] at q2'
    show (_ → (gr (s.G ++ [x]) n).f7 = -1) ∧ (_ → (gr (s.G ++ [x]) n).f7 = _ - (usedN (s.G ++ [x]) s.E n : Nat) ∧ 0 ≤ (gr (s.G ++ [x]) n).f7)
    rw [used_same h2 hup]
    by_cases c : n ≤ s.G.length
    · rw [gr_app_old _ _ n q1 c, show (M ++ [x.f7]).getD (n - 1) 0 = M.getD (n - 1) 0 by
        rw [List.getD_eq_getElem?_getD, List.getD_eq_getElem?_getD, List.getElem?_append_left (by omega)]]
      exact h4 n q1 c
    · have : n = s.G.length + 1 := by omega
      subst this
      rw [gr_app_new, used_new h1.1.1 h2 (by omega), show (M ++ [x.f7]).getD (s.G.length + 1 - 1) 0 = x.f7 by
        rw [List.getD_eq_getElem?_getD, List.getElem?_append_right (by omega), h3]; simp]
      refine ⟨fun _ => by omega, fun _ => ⟨by simp, by omega⟩⟩
theorem usi_same {s t : St} {M : List Int} (h : UsI s M) (hN : Nar t.G) (hl : t.G.length = s.G.length) (hE : t.E = s.E) (hg : ∀ n, 1 ≤ n → n ≤ s.G.length → (gr t.G n).f1 = (gr s.G n).f1 ∧ (gr t.G n).f7 = (gr s.G n).f7) : UsI t M := by
  obtain ⟨h1, h2, h3, h4⟩ := h
  have hup : ∀ m, m ≤ s.G.length → up t.G m = up s.G m := fun m hm => up_same h1.1.1 hN.1.1 hl (fun n q1 q2 => (hg n q1 q2).1) m m (Nat.le_refl _) hm
  refine ⟨hN, by rw [hE]; intro e he; rw [hl]; exact h2 e he, by rw [hl]; exact h3, fun n q1 q2 => ?_⟩
  rw [hl] at q2
  rw [hE, used_same h2 hup, (hg n q1 q2).2]
  exact h4 n q1 q2
theorem key_free {day : Int} {G : List S39} {v n by_ : Int} (hc : keyC day G v n by_ = 0) : ∀ m ∈ up G n.toNat, (gr G m).f7 ≠ 0 := by
  have hr := keyC_in hc
  unfold keyC at hc
  rw [if_neg (fun q => q hr)] at hc
  by_cases c1 : badB day G v n.toNat by_ = true
  · rw [if_pos c1] at hc; omega
  · rw [if_neg c1] at hc
    by_cases c2 : spB G n.toNat = true
    · rw [if_pos c2] at hc; omega
    · intro m hm e
      apply c2
      unfold spB
      exact List.any_eq_true.2 ⟨m, hm, beq_iff_eq.2 e⟩
theorem usi_open {s : St} {M : List Int} (h : UsI s M) {v n nb m mb : Int} (hc : openC s.day s.G s.E v n nb m mb = 0) : UsI ⟨s.day, openG s.G n m, s.E ++ [⟨s.day, v, n, m⟩]⟩ M := by
  obtain ⟨h1, h2, h3, h4⟩ := h
  obtain ⟨r1, r2, r3⟩ := open_rng h1.1.1 hc
  obtain ⟨_, _, k1, k2, _, hroot, _⟩ := openC_zero hc
  have hdis : ∀ q ∈ up s.G n.toNat, q ∉ up s.G m.toNat := fun q hq hq2 => by
    have e1 := up_root_same h1 _ n.toNat (Nat.le_refl _) (by omega) (by omega) q hq
    have e2 := up_root_same h1 _ m.toNat (Nat.le_refl _) (by omega) (by omega) q hq2
    exact hroot (by rw [← e1, ← e2])
  have hnd : (up s.G n.toNat ++ up s.G m.toNat).Nodup := List.nodup_append.2 ⟨up_nodup h1.1.1 _ _ (Nat.le_refl _) (by omega), up_nodup h1.1.1 _ _ (Nat.le_refl _) (by omega), fun a ha b hb e => hdis a ha (e ▸ hb)⟩
  have hlen : (openG s.G n m).length = s.G.length := uses_len _ _
  have hN : Nar (openG s.G n m) := nar_uses h1 _ r3
  have hgr : ∀ q, 1 ≤ q → gr (openG s.G n m) q = { gr s.G q with f7 := if q ∈ up s.G n.toNat ++ up s.G m.toNat ∧ 0 < (gr s.G q).f7 then (gr s.G q).f7 - 1 else (gr s.G q).f7 } := fun q hq => gr_uses _ s.G q hnd r3 hq
  have hup : ∀ q, q ≤ s.G.length → up (openG s.G n m) q = up s.G q := fun q hq => up_same h1.1.1 hN.1.1 hlen (fun j q1 q2 => by rw [hgr j q1]) q q (Nat.le_refl _) hq
  refine ⟨hN, ?_, by rw [hlen]; exact h3, fun q q1 q2 => ?_⟩
  · intro e he
    rw [hlen]
    rcases List.mem_append.1 he with he | he
    · exact h2 e he
    · simp only [List.mem_singleton] at he; subst he; exact ⟨r1, r2⟩
  · have q2' : q ≤ s.G.length := by rw [← hlen]; exact q2
    obtain ⟨a1, a2⟩ := h4 q q1 q2'
    have hadd : usedN (openG s.G n m) (s.E ++ [⟨s.day, v, n, m⟩]) q = usedN s.G s.E q + ((if q ∈ up s.G n.toNat then 1 else 0) + (if q ∈ up s.G m.toNat then 1 else 0)) := by
      have e1 : usedN (openG s.G n m) (s.E ++ [⟨s.day, v, n, m⟩]) q = usedN (openG s.G n m) s.E q + use2 (openG s.G n m) q ⟨s.day, v, n, m⟩ := by
        unfold usedN; rw [List.map_append, List.sum_append]; simp
      rw [e1, used_same h2 hup]
      unfold use2
      rw [hup n.toNat (by omega), hup m.toNat (by omega)]
    show (_ → (gr (openG s.G n m) q).f7 = -1) ∧ (_ → (gr (openG s.G n m) q).f7 = _ - (usedN (openG s.G n m) (s.E ++ [⟨s.day, v, n, m⟩]) q : Nat) ∧ 0 ≤ (gr (openG s.G n m) q).f7)
    rw [hadd, hgr q q1]
    simp only
    have hfree : q ∈ up s.G n.toNat ++ up s.G m.toNat → (gr s.G q).f7 ≠ 0 := fun hq => by
      rcases List.mem_append.1 hq with hq | hq
      · exact key_free k1 q hq
      · exact key_free k2 q hq
    by_cases cn : q ∈ up s.G n.toNat
    · have cm := hdis q cn
      have hf := hfree (List.mem_append_left _ cn)
      rw [if_pos cn, if_neg cm]
      refine ⟨fun hM => ?_, fun hM => ?_⟩
      · rw [a1 hM, if_neg (fun z => by omega)]
      · obtain ⟨b1, b2⟩ := a2 hM
        rw [if_pos ⟨List.mem_append_left _ cn, by omega⟩]
        omega
    · by_cases cm : q ∈ up s.G m.toNat
      · have hf := hfree (List.mem_append_right _ cm)
        rw [if_neg cn, if_pos cm]
        refine ⟨fun hM => ?_, fun hM => ?_⟩
        · rw [a1 hM, if_neg (fun z => by omega)]
        · obtain ⟨b1, b2⟩ := a2 hM
          rw [if_pos ⟨List.mem_append_right _ cm, by omega⟩]
          omega
      · rw [if_neg cn, if_neg cm, if_neg (fun z => (List.mem_append.1 z.1).elim cn cm)]
        exact ⟨a1, fun hM => by have := a2 hM; omega⟩
/-- The uses of the grants that a step makes. -/
def madeS (s : St) (M : List Int) (a : S37) : List Int := M ++ ((stepS s a).G.drop s.G.length).map (·.f7)
theorem drop_app (G : List S39) (x : S39) : (G ++ [x]).drop G.length = [x] := by rw [List.drop_left]
theorem usi_step {s : St} {M : List Int} (h : UsI s M) (a : S37) : UsI (stepS s a) (madeS s M a) := by
  have hsame : ∀ t : St, t.G.length = s.G.length → UsI t M → UsI t (M ++ (t.G.drop s.G.length).map (·.f7)) := fun t hl ht => by
    rw [← hl, List.drop_length]; simpa using ht
  unfold madeS
  refine step_cases (P := fun t => UsI t (M ++ (t.G.drop s.G.length).map (·.f7))) a (hsame s rfl h) (fun h_ v r u t hc => ?_) (fun n by_ h_ v r u t hc => ?_) (fun n by_ hc => ?_) (fun d hc => ?_) (fun v n nb m mb hc => ?_)
  · have hm : mayB h_ v r u t = true := by
      unfold grantC at hc
      exact Classical.byContradiction fun q => by rw [if_neg q] at hc; omega
    obtain ⟨_, _, _, _, _, _, _, _, m9⟩ := mayB_iff.1 hm
    show UsI ⟨s.day, rootG s.G h_ v r u t, s.E⟩ (M ++ ((rootG s.G h_ v r u t).drop s.G.length).map (·.f7))
    unfold rootG
    rw [drop_app]
    exact usi_app h _ (nar_root h.1 hc) (by show t = -1 ∨ 1 ≤ t; omega)
  · obtain ⟨c1, c2, _⟩ := passC_zero hc
    obtain ⟨_, _, _, _, _, _, _, _, m9⟩ := mayB_iff.1 c2
    show UsI ⟨s.day, passG s.G n h_ v r u t, s.E⟩ (M ++ ((passG s.G n h_ v r u t).drop s.G.length).map (·.f7))
    unfold passG
    rw [drop_app]
    exact usi_app h _ (nar_pass h.1 hc) (by show t = -1 ∨ 1 ≤ t; omega)
  · obtain ⟨c1, _⟩ := revC_zero hc
    refine hsame ⟨s.day, put8 s.G n.toNat true, s.E⟩ (put8_len _ _ _) (usi_same h (nar_put8 h.1 (by omega) (by omega) true) (put8_len _ _ _) rfl (fun q q1 q2 => ?_))
    show (gr (put8 s.G n.toNat true) q).f1 = _ ∧ (gr (put8 s.G n.toNat true) q).f7 = _
    rw [gr_put8 s.G n.toNat q true (by omega) (by omega) q1]
    split
    · rename_i e; subst e; exact ⟨rfl, rfl⟩
    · exact ⟨rfl, rfl⟩
  · exact hsame ⟨d, s.G, s.E⟩ rfl (usi_same h h.1 rfl rfl (fun _ _ _ => ⟨rfl, rfl⟩))
  · exact hsame ⟨s.day, openG s.G n m, _⟩ (uses_len _ _) (usi_open h hc)
/-- under, by what is above. -/
theorem under_l0 {G : List S39} (hT : Tree G) (ab : Int) : ∀ (b n : Nat), n ≤ b → n ≤ G.length → ∀ i : Nat, i + n ≤ G.length → kimberlitelaw06_under.l0 (2 * b + 2) G n ab i = some ((up G n).any fun m => (m : Int) == ab)
  | 0, n, hb, hn, i, hi => by
    have : n = 0 := by omega
    subst this
    rw [up_zero]
    show (if (i : Int) ≤ (G.length : Int) then (if ((0 : Nat) : Int) ≥ 1 then _ else kimberlitelaw06_under.j1 1 G _ ab i false) else _) = _
    rw [if_pos (by omega), if_neg (by omega)]
    rfl
  | b + 1, n, hb, hn, i, hi => by
    by_cases c : n = 0
    · subst c
      rw [up_zero]
      show (if (i : Int) ≤ (G.length : Int) then (if ((0 : Nat) : Int) ≥ 1 then _ else kimberlitelaw06_under.j1 (2 * b + 3) G _ ab i false) else _) = _
      rw [if_pos (by omega), if_neg (by omega)]
      rfl
    · have ht := (hT.2 n (by omega) hn).2
      have hl := hT.1
      rw [up_succ hT (by omega) hn, List.any_cons]
      show (if (i : Int) ≤ (G.length : Int) then (if (n : Int) ≥ 1 then kimberlitelaw06_under.j1 (2 * b + 3) G n ab i (decide ((n : Int) ≤ (G.length : Int))) else _) else _) = _
      rw [if_pos (by omega), if_pos (by omega), decide_eq_true (by omega)]
      show (if True then (if (n : Int) = ab then some true else (if 0 ≤ (wrap64 ((n : Int) - 1)) then (if (wrap64 ((n : Int) - 1)) < (G.length : Int) then (kimberlitelaw06_under.l0 (2 * b + 2) G ((rd_T39 G (wrap64 ((n : Int) - 1))).f1) ab (wrap64 ((i : Int) + 1))) else none) else none)) else some false) = _
      have hw : wrap64 ((n : Int) - 1) = (n : Int) - 1 := by unfold wrap64; omega
      have hw2 : wrap64 ((i : Int) + 1) = ((i + 1 : Nat) : Int) := by unfold wrap64; omega
      rw [if_pos trivial, hw, hw2]
      by_cases e : (n : Int) = ab
      · rw [if_pos e, beq_iff_eq.2 e]; rfl
      · rw [if_neg e, beq_eq_false_iff_ne.2 e, if_pos (by omega), if_pos (by omega), Bool.false_or]
        have hf : (rd_T39 G ((n : Int) - 1)).f1 = ((gr G n).f1.toNat : Int) := by
          show (gr G n).f1 = _
          omega
        rw [hf]
        exact under_l0 hT ab b _ (by omega) (by omega) (i + 1) (by omega)
theorem under_f {G : List S39} (hT : Tree G) {n ab : Int} (h1 : 1 ≤ n) (h2 : n ≤ G.length) : kimberlitelaw06_under.f (2 * n.toNat + 2) G n ab = some ((up G n.toNat).any fun m => (m : Int) == ab) := by
  have := under_l0 hT ab n.toNat n.toNat (Nat.le_refl _) (by omega) 0 (by omega)
  unfold kimberlitelaw06_under.f
  rw [show ((n.toNat : Nat) : Int) = n by omega] at this
  exact this
end Go.Proofs.Ytfnlghjkjmppdaa.PC
