/-
  The texts that the theorem in YtfnlghjkjmppdaaZRowLk rests on, merged (part 9); only what it reaches.
-/
import Derived.Test.YtfnlghjkjmppdaaZLk1
import Derived.Test.YtfnlghjkjmppdaaZLk7
section
namespace Go.Proofs.Ytfnlghjkjmppdaa.PC
open Go.RowKit Go.Proofs.YtfnlghjkjmppdaaW.PrintWords Go.Proofs.YtfnlghjkjmppdaaW.PrintLast Go.Proofs.YtfnlghjkjmppdaaW.PrintMore
attribute [local go_sem] max2_int min2_int max_two min_two max_three min_three max_four min_four   -- for this text's walks alone
set_option linter.unusedVariables false
set_option linter.unusedSimpArgs false
mutual
def kimberlitelaw06_under.l0 : Nat → List (S39) → Int → Int → Int → Option (Bool)
  | 0, _, _, _, _ => none
  | k + 1, x0, x1, x2, x7 => if x7 ≤ (x0.length : Int) then (if x1 ≥ 1 then (kimberlitelaw06_under.j1 k x0 x1 x2 x7 (decide (x1 ≤ (x0.length : Int)))) else (kimberlitelaw06_under.j1 k x0 x1 x2 x7 false)) else (kimberlitelaw06_under.j1 k x0 x1 x2 x7 false)
def kimberlitelaw06_under.j1 : Nat → List (S39) → Int → Int → Int → Bool → Option (Bool)
  | 0, _, _, _, _, _ => none
  | k + 1, x0, x1, x2, x7, x21 => if x21 = true then (if x1 = x2 then (some true) else (if 0 ≤ (wrap64 (x1 - 1)) then (if (wrap64 (x1 - 1)) < (x0.length : Int) then (kimberlitelaw06_under.l0 k x0 ((rd_T39 x0 (wrap64 (x1 - 1))).f1) x2 (wrap64 (x7 + 1))) else (none)) else (none))) else (some false)
end
def kimberlitelaw06_under.f (k : Nat) (l0 : List (S39)) (a1 : Int) (a2 : Int) : Option (Bool) := kimberlitelaw06_under.l0 k l0 a1 a2 0
theorem kimberlitelaw06_under.mono_l : ∀ k, (∀ y0 y1 y2 y3, LeO (kimberlitelaw06_under.l0 k y0 y1 y2 y3) (kimberlitelaw06_under.l0 (k + 1) y0 y1 y2 y3)) ∧ (∀ y0 y1 y2 y3 y4, LeO (kimberlitelaw06_under.j1 k y0 y1 y2 y3 y4) (kimberlitelaw06_under.j1 (k + 1) y0 y1 y2 y3 y4))
  | 0 => ⟨fun _ _ _ _ r h => by simp [kimberlitelaw06_under.l0] at h, fun _ _ _ _ _ r h => by simp [kimberlitelaw06_under.j1] at h⟩
  | k + 1 => by
    obtain ⟨ih0, ih1⟩ := kimberlitelaw06_under.mono_l k
    refine ⟨?_, ?_⟩
    · intro y0 y1 y2 y3
      unfold kimberlitelaw06_under.l0
      repeat' first
      | (with_reducible exact ih0 _ _ _ _)
      | (with_reducible exact ih1 _ _ _ _ _)
      | (with_reducible exact LeO.refl _)
      | (with_reducible exact LeO.none _)
      | (with_reducible refine LeO.ite ?_ ?_)
      | (with_reducible refine LeO.bind ?_ (fun _ => ?_))
      | exact ih0 _ _ _ _
      | exact ih1 _ _ _ _ _
      | exact LeO.none _
      | refine LeO.ite ?_ ?_
      | refine LeO.bind ?_ (fun _ => ?_)
    · intro y0 y1 y2 y3 y4
      unfold kimberlitelaw06_under.j1
      repeat' first
      | (with_reducible exact ih0 _ _ _ _)
      | (with_reducible exact ih1 _ _ _ _ _)
      | (with_reducible exact LeO.refl _)
      | (with_reducible exact LeO.none _)
      | (with_reducible refine LeO.ite ?_ ?_)
      | (with_reducible refine LeO.bind ?_ (fun _ => ?_))
      | exact ih0 _ _ _ _
      | exact ih1 _ _ _ _ _
      | exact LeO.none _
      | refine LeO.ite ?_ ?_
      | refine LeO.bind ?_ (fun _ => ?_)
theorem kimberlitelaw06_under.mono : ∀ a0 a1 a2 k, LeO (kimberlitelaw06_under.f k a0 a1 a2) (kimberlitelaw06_under.f (k + 1) a0 a1 a2) := by
  intro a0 a1 a2 k
  obtain ⟨ih0, ih1⟩ := kimberlitelaw06_under.mono_l k
  unfold kimberlitelaw06_under.f
  repeat' first
      | (with_reducible exact ih0 _ _ _ _)
      | (with_reducible exact ih1 _ _ _ _ _)
      | (with_reducible exact LeO.refl _)
      | (with_reducible exact LeO.none _)
      | (with_reducible refine LeO.ite ?_ ?_)
      | (with_reducible refine LeO.bind ?_ (fun _ => ?_))
      | exact ih0 _ _ _ _
      | exact ih1 _ _ _ _ _
      | exact LeO.none _
      | refine LeO.ite ?_ ?_
      | refine LeO.bind ?_ (fun _ => ?_)
set_option maxHeartbeats 8000000 in
set_option maxRecDepth 100000 in
theorem kimberlitelaw06_under.calls (k : Nat) (A0 : Option Addr) (c0 : Nat) (l0 : List (S39)) (a1 : Int) (a2 : Int) (r : Bool) (w : World) (hr0 : Kd.C k39 w A0 l0.length l0) (hc0 : l0.length ≤ c0) (h : kimberlitelaw06_under.f k l0 a1 a2 = some r) :
    Calls Try.prog 22 #[.slice A0 l0.length c0, .int .i64 a1, .int .i64 a2] w fun e w' => e = .returned (.bool r) ∧ Drawn0 w w' := by
  have HR0 := Aside0.mk hr0
  have HC0 := Aside0.mk hc0
  clear hr0 hc0
  have H : (kimberlitelaw06_under.l0 k l0 a1 a2 0) = some r := h
  clear h
  have H' := Aside0.mk H
  clear H
  go_enter Try.func22, Try.ntmps22
  go_wp2
  go_loopg [1, 7] k (fun kq v1 v7 w' => ∃ (x1_1 : Int) (x7_1 : Int), v1 = .int .i64 x1_1 ∧ v7 = .int .i64 x7_1 ∧ Aside0 (kimberlitelaw06_under.l0 kq l0 x1_1 a2 x7_1 = some r) ∧ Aside0 (kq ≤ k) ∧ Drawn0 w w')
  case atStart => exact ⟨(a1), (0), (by first | rfl | (simp; done) | (simp [*]; done)), (by first | rfl | (simp; done) | (simp [*]; done)), H', ⟨Nat.le_refl _⟩, by repeat (first | exact Drawn0.refl _ | apply Drawn0.step)⟩
  case round =>
    clear H'
    try clear c2
    try clear p2
    obtain ⟨x1_1, x7_1, rfl, rfl, HA, HK1, ⟨m1, rfl⟩⟩ := hrel
    cases gk with
    | zero => exact absurd HA.out (by simp [kimberlitelaw06_under.l0])
    | succ k1 =>
      have H := HA.out
      clear HA
      simp only [kimberlitelaw06_under.l0] at H
      have HC4 := Aside0.mk H
      clear H
      go_upto_region 2 with (fail)
      go_cut [21] (fun v21 wc => ∃ (kq : Nat) (x21_3 : Bool), v21 = .bool x21_3 ∧ Aside0 (kimberlitelaw06_under.j1 kq l0 x1_1 a2 x7_1 x21_3 = some r) ∧ Aside0 (kq ≤ k1) ∧ Drawn0 w wc)
      case first =>
        have H := HC4.out
        clear HC4
        by_cases c5 : x7_1 ≤ (l0.length : Int)
        · rw [if_pos c5] at H
          have c5b0 : decide (x7_1 ≤ (l0.length : Int)) = true := decide_eq_true c5
          clear c5
          (first | rw [c5b0] | (simp only [i64_w, i32_w]; rw [c5b0]) | skip)
          by_cases c6 : x1_1 ≥ 1
          · rw [if_pos c6] at H
            have c6b0 : decide (1 ≤ x1_1) = true := decide_eq_true c6
            clear c6
            have H' := Aside0.mk H
            clear H
            go_wp2
            go_meet
            case rel => exact ⟨_, (decide (x1_1 ≤ (l0.length : Int))), (by first | rfl | (simp; done) | (simp [*]; done)), H', ⟨by have := HK1.out; first | omega | exact Nat.le_refl _⟩, by repeat (first | exact Drawn0.refl _ | apply Drawn0.step)⟩
          · rw [if_neg c6] at H
            have c6b0 : decide (1 ≤ x1_1) = false := decide_eq_false c6
            clear c6
            have H' := Aside0.mk H
            clear H
            go_wp2
            go_meet
            case rel => exact ⟨_, (false), (by first | rfl | (simp; done) | (simp [*]; done)), H', ⟨by have := HK1.out; first | omega | exact Nat.le_refl _⟩, by repeat (first | exact Drawn0.refl _ | apply Drawn0.step)⟩
        · rw [if_neg c5] at H
          have c5b0 : decide (x7_1 ≤ (l0.length : Int)) = false := decide_eq_false c5
          clear c5
          (first | rw [c5b0] | (simp only [i64_w, i32_w]; rw [c5b0]) | skip)
          have H' := Aside0.mk H
          clear H
          go_wp2
          go_meet
          case rel => exact ⟨_, (false), (by first | rfl | (simp; done) | (simp [*]; done)), H', ⟨by have := HK1.out; first | omega | exact Nat.le_refl _⟩, by repeat (first | exact Drawn0.refl _ | apply Drawn0.step)⟩
      case rest =>
        clear HC4
        try clear c2
        try clear p2
        try clear c5
        try clear c5b0
        try clear c6
        try clear c6b0
        try clear p2
        obtain ⟨kq, x21_3, rfl, HA, HJ3, ⟨mc3, rfl⟩⟩ := hcut
        cases kq with
        | zero => exact absurd HA.out (by simp [kimberlitelaw06_under.j1])
        | succ kj3 =>
          have H := HA.out
          clear HA
          simp only [kimberlitelaw06_under.j1] at H
          by_cases c7 : x21_3 = true
          · subst c7
            have H1 : (if x1_1 = a2 then (some true) else (if 0 ≤ (wrap64 (x1_1 - 1)) then (if (wrap64 (x1_1 - 1)) < (l0.length : Int) then (kimberlitelaw06_under.l0 kj3 l0 ((rd_T39 l0 (wrap64 (x1_1 - 1))).f1) a2 (wrap64 (x7_1 + 1))) else (none)) else (none))) = some r := by rw [if_pos rfl] at H; exact H
            clear H
            have H := H1
            clear H1
            by_cases c8 : x1_1 = a2
            · rw [if_pos c8] at H
              have c8b0 : (x1_1 == a2) = true := beq_iff_eq.mpr c8
              have c8b1 : (x1_1 != a2) = false := bne_eq_false_iff_eq.mpr c8
              clear c8
              obtain rfl := Option.some.inj H
              go_wp2
              go_ret
              exact ⟨by first | rfl | (simp; done) | (simp [*]; done), by repeat (first | exact Drawn0.refl _ | apply Drawn0.step)⟩
            · rw [if_neg c8] at H
              have c8b0 : (x1_1 == a2) = false := beq_eq_false_iff_ne.mpr c8
              have c8b1 : (x1_1 != a2) = true := bne_iff_ne.mpr c8
              obtain ⟨ji9, hji9⟩ : ∃ j_ : Int, (wrap64 (x1_1 - 1)) = j_ := ⟨_, rfl⟩
              replace H : (if 0 ≤ (ji9) then (if (ji9) < (l0.length : Int) then (kimberlitelaw06_under.l0 kj3 l0 ((rd_T39 l0 (ji9)).f1) a2 (wrap64 (x7_1 + 1))) else (none)) else (none)) = some r := by first | (rw [hji9] at H; exact H) | (simp only [hji9] at H ⊢; exact H)
              have hji9w : (IntKind.i64.wrap (x1_1 - 1)) = ji9 := (i64_w _).trans hji9
              by_cases c10 : 0 ≤ (ji9)
              · rw [if_pos c10] at H
                have c10b0 : decide (0 ≤ (ji9)) = true := decide_eq_true c10
                clear c10
                by_cases c11 : (ji9) < (l0.length : Int)
                · rw [if_pos c11] at H
                  have c11b0 : decide ((ji9) < (l0.length : Int)) = true := decide_eq_true c11
                  clear c11
                  have H' := Aside0.mk H
                  clear H
                  have p311 : 0 ≤ ((ji9) : Int) := of_decide_eq_true (by first | (with_reducible assumption) | assumption)
                  have q311 : (ji9) < (l0.length : Int) := of_decide_eq_true (by first | (with_reducible assumption) | assumption)
                  obtain ⟨ad311, e311, hx311_0, hx311_1, hx311_2, hx311_3, hx311_4, hx311_5, hx311_6, hx311_7, hx311_8⟩ := at_T39 HR0.out (ji9) p311 q311
                  cases e311
                  replace p311 := eq_true p311
                  replace q311 := eq_true q311
                  go_wp2
                  go_roundg kj3
                  case measure => have := HK1.out; have := HJ3.out; omega
                  case rel => exact ⟨((rd_T39 l0 (ji9)).f1), (wrap64 (x7_1 + 1)), (by first | rfl | (simp; done) | (simp only [← hji9] <;> (first | rfl | simp)) | (simp [*]; done)), (by first | rfl | (simp; done) | (simp [*]; done)), H', ⟨by have := HK1.out; have := HJ3.out; omega⟩, by repeat (first | exact Drawn0.refl _ | apply Drawn0.step)⟩
                · rw [if_neg c11] at H
                  exact absurd H (by simp)
              · rw [if_neg c10] at H
                exact absurd H (by simp)
          · replace c7 := Bool.eq_false_iff.mpr c7
            subst c7
            have H1 : (some false) = some r := by rw [if_neg (show ¬ (false = true) by decide)] at H; exact H
            clear H
            have H := H1
            clear H1
            obtain rfl := Option.some.inj H
            go_wp2
            go_ret
            exact ⟨by first | rfl | (simp; done) | (simp [*]; done), by repeat (first | exact Drawn0.refl _ | apply Drawn0.step)⟩
def kimberlitelaw06_in.f (a0 : Int) (a1 : Int) : Option (Bool) := if a1 ≥ 0 then (if a1 ≤ 15 then (if 0 ≤ a1 then (some ((Int.tmod (shr .i64 a0 a1) 2) == 1)) else (none)) else (some false)) else (some false)
set_option maxHeartbeats 8000000 in
set_option maxRecDepth 100000 in
theorem kimberlitelaw06_in.calls (a0 : Int) (a1 : Int) (r : Bool) (w : World) (h : kimberlitelaw06_in.f a0 a1 = some r) :
    Calls Try.prog 25 #[.int .i64 a0, .int .i64 a1] w fun e w' => e = .returned (.bool r) ∧ Drawn0 w w' := by
  have H : (if a1 ≥ 0 then (if a1 ≤ 15 then (if 0 ≤ a1 then (some ((Int.tmod (shr .i64 a0 a1) 2) == 1)) else (none)) else (some false)) else (some false)) = some r := h
  clear h
  by_cases c3 : a1 ≥ 0
  · rw [if_pos c3] at H
    have c3b0 : decide (0 ≤ a1) = true := decide_eq_true c3
    clear c3
    by_cases c4 : a1 ≤ 15
    · rw [if_pos c4] at H
      have c4b0 : decide (a1 ≤ 15) = true := decide_eq_true c4
      clear c4
      by_cases c5 : 0 ≤ a1
      · rw [if_pos c5] at H
        have c5b0 := eq_true c5
        have c5b1 : decide (0 ≤ a1) = true := decide_eq_true c5
        clear c5
        obtain ⟨ji6, hji6⟩ : ∃ j_ : Int, (shr .i64 a0 a1) = j_ := ⟨_, rfl⟩
        replace H : (some ((Int.tmod (ji6) 2) == 1)) = some r := by first | (rw [hji6] at H; exact H) | (simp only [hji6] at H ⊢; exact H)
        have hji6_ : (a0 / 2 ^ min a1.toNat 64) = ji6 := hji6
        have hji6z : a1 ≤ 64 → (a0 / 2 ^ a1.toNat) = ji6 := shr_small hji6
        obtain rfl := Option.some.inj H
        go_enter Try.func25, Try.ntmps25
        go_wp2
        go_ret
        exact ⟨by first | rfl | (simp; done) | (simp only [← hji6] <;> (first | rfl | simp)) | (simp [*]; done), by repeat (first | exact Drawn0.refl _ | apply Drawn0.step)⟩
      · rw [if_neg c5] at H
        exact absurd H (by simp)
    · rw [if_neg c4] at H
      have c4b0 : decide (a1 ≤ 15) = false := decide_eq_false c4
      clear c4
      obtain rfl := Option.some.inj H
      go_enter Try.func25, Try.ntmps25
      go_wp2
      go_ret
      exact ⟨by first | rfl | (simp; done) | (simp [*]; done), by repeat (first | exact Drawn0.refl _ | apply Drawn0.step)⟩
  · rw [if_neg c3] at H
    have c3b0 : decide (0 ≤ a1) = false := decide_eq_false c3
    clear c3
    obtain rfl := Option.some.inj H
    go_enter Try.func25, Try.ntmps25
    go_wp2
    go_ret
    exact ⟨by first | rfl | (simp; done) | (simp [*]; done), by repeat (first | exact Drawn0.refl _ | apply Drawn0.step)⟩
end Go.Proofs.Ytfnlghjkjmppdaa.PC
end
section
namespace Go.Proofs.Ytfnlghjkjmppdaa.PC
open Go.RowKit Go.Proofs.YtfnlghjkjmppdaaW.PrintWords Go.Proofs.YtfnlghjkjmppdaaW.PrintLast Go.Proofs.YtfnlghjkjmppdaaW.PrintMore
set_option linter.unusedVariables false
set_option linter.unusedSimpArgs false
theorem up_same {G H : List S39} (hT : Tree G) (hT2 : Tree H) (hl : H.length = G.length) (h : ∀ n, 1 ≤ n → n ≤ G.length → (gr H n).f1 = (gr G n).f1) : ∀ (b n : Nat), n ≤ b → n ≤ G.length → up H n = up G n
  | 0, n, hb, hn => by
    have : n = 0 := by omega
    subst this; rw [up_zero, up_zero]
  | b + 1, n, hb, hn => by
    by_cases c : n = 0
    · subst c; rw [up_zero, up_zero]
    · have ht := (hT.2 n (by omega) hn).2
      rw [up_succ hT2 (by omega) (by omega), up_succ hT (by omega) hn, h n (by omega) hn, up_same hT hT2 hl h b _ (by omega) (by omega)]
theorem up_app2 {G : List S39} {x : S39} (hT : Tree G) (hT2 : Tree (G ++ [x])) : ∀ (b n : Nat), n ≤ b → n ≤ G.length → up (G ++ [x]) n = up G n
  | 0, n, hb, hn => by
    have : n = 0 := by omega
    subst this; rw [up_zero, up_zero]
  | b + 1, n, hb, hn => by
    by_cases c : n = 0
    · subst c; rw [up_zero, up_zero]
    · have ht := (hT.2 n (by omega) hn).2
      rw [up_succ hT2 (by omega) (by simp; omega), up_succ hT (by omega) hn, gr_app_old G x n (by omega) hn, up_app2 hT hT2 b _ (by omega) (by omega)]
theorem up_nodup {G : List S39} (hT : Tree G) : ∀ (b n : Nat), n ≤ b → n ≤ G.length → (up G n).Nodup
  | 0, n, hb, hn => by
    have : n = 0 := by omega
    subst this; rw [up_zero]; exact List.nodup_nil
  | b + 1, n, hb, hn => by
    by_cases c : n = 0
    · subst c; rw [up_zero]; exact List.nodup_nil
    · have ht := (hT.2 n (by omega) hn).2
      rw [up_succ hT (by omega) hn, List.nodup_cons]
      refine ⟨fun hm => ?_, up_nodup hT b _ (by omega) (by omega)⟩
      have := up_mem hT b _ (show (gr G n).f1.toNat ≤ b by omega) (by omega) n hm
      omega
theorem up_root_same {G : List S39} (h : Nar G) : ∀ (b n : Nat), n ≤ b → 1 ≤ n → n ≤ G.length → ∀ m ∈ up G n, (gr G m).f2 = (gr G n).f2
  | 0, n, hb, h1, hn, m, hm => by omega
  | b + 1, n, hb, h1, hn, m, hm => by
    have ht := (h.1.1.2 n h1 hn).2
    rw [up_succ h.1.1 h1 hn, List.mem_cons] at hm
    rcases hm with rfl | hm
    · rfl
    · by_cases c : (gr G n).f1 = 0
      · rw [c, show (0 : Int).toNat = 0 from rfl, up_zero] at hm; simp at hm
      · rw [((h.2 n h1 hn).2 c).1]
        exact up_root_same h b _ (by omega) (by omega) (by omega) m hm
theorem gr_uses : ∀ (ms : List Nat) (G : List S39) (n : Nat), ms.Nodup → (∀ m ∈ ms, 1 ≤ m ∧ m ≤ G.length) → 1 ≤ n → gr (ms.foldl use1 G) n = { gr G n with f7 := if n ∈ ms ∧ 0 < (gr G n).f7 then (gr G n).f7 - 1 else (gr G n).f7 }
  | [], G, n, _, _, _ => by simp
  | m :: ms, G, n, hd, hm, hn => by
    rw [List.nodup_cons] at hd
    have h1 := hm m (by simp)
    rw [List.foldl_cons, gr_uses ms (use1 G m) n hd.2 (fun q hq => by rw [use1_len]; exact hm q (by simp [hq])) hn, gr_use1 G m n h1.1 h1.2 hn]
    by_cases c : n = m
    · subst c
      simp only [List.mem_cons, true_or, true_and]
      rw [if_neg (fun q => hd.1 q.1)]
    · have c2 : ¬ (n = m ∧ 0 < (gr G m).f7) := fun q => c q.1
      simp only [List.mem_cons, if_neg c2]
      simp only [c, false_or, false_and, if_false]
def use2 (G : List S39) (n : Nat) (e : S44) : Nat := (if n ∈ up G e.f2.toNat then 1 else 0) + (if n ∈ up G e.f3.toNat then 1 else 0)
def usedN (G : List S39) (E : List S44) (n : Nat) : Nat := (E.map (use2 G n)).sum
def EIn (G : List S39) (E : List S44) : Prop := ∀ e ∈ E, (1 ≤ e.f2 ∧ e.f2 ≤ G.length) ∧ (1 ≤ e.f3 ∧ e.f3 ≤ G.length)
def UsI (s : St) (M : List Int) : Prop := Nar s.G ∧ EIn s.G s.E ∧ M.length = s.G.length ∧ ∀ n, 1 ≤ n → n ≤ s.G.length → (M.getD (n - 1) 0 < 0 → (gr s.G n).f7 = -1) ∧ (0 ≤ M.getD (n - 1) 0 → (gr s.G n).f7 = M.getD (n - 1) 0 - usedN s.G s.E n ∧ 0 ≤ (gr s.G n).f7)
theorem sum_same {α : Type} {f g : α → Nat} : ∀ {l : List α}, (∀ x ∈ l, f x = g x) → (l.map f).sum = (l.map g).sum
  | [], _ => rfl
  | x :: l, h => by
    rw [List.map_cons, List.map_cons, List.sum_cons, List.sum_cons, h x (by simp), sum_same (fun y hy => h y (by simp [hy]))]
theorem used_same {G H : List S39} {E : List S44} {n : Nat} (hE : EIn G E) (hu : ∀ m, m ≤ G.length → up H m = up G m) : usedN H E n = usedN G E n := by
  unfold usedN
  refine sum_same (fun e he => ?_)
  obtain ⟨⟨a1, a2⟩, b1, b2⟩ := hE e he
  unfold use2
  rw [hu e.f2.toNat (by omega), hu e.f3.toNat (by omega)]
theorem used_new {G : List S39} {E : List S44} (hT : Tree G) (hE : EIn G E) {n : Nat} (hn : G.length < n) : usedN G E n = 0 := by
  have hz : ∀ l : List S44, (∀ e ∈ l, (1 ≤ e.f2 ∧ e.f2 ≤ G.length) ∧ (1 ≤ e.f3 ∧ e.f3 ≤ G.length)) → (l.map (use2 G n)).sum = 0 := by
    intro l
    induction l with
    | nil => intro _; rfl
    | cons e l ih =>
      intro h
      obtain ⟨⟨a1, a2⟩, b1, b2⟩ := h e (by simp)
      rw [List.map_cons, List.sum_cons, ih (fun q hq => h q (by simp [hq]))]
      unfold use2
      rw [if_neg (fun hm => by have := up_mem hT _ _ (Nat.le_refl _) (show e.f2.toNat ≤ G.length by omega) n hm; omega), if_neg (fun hm => by have := up_mem hT _ _ (Nat.le_refl _) (show e.f3.toNat ≤ G.length by omega) n hm; omega)]
  exact hz E hE
theorem usi_app {s : St} {M : List Int} (h : UsI s M) (x : S39) (hN : Nar (s.G ++ [x])) (hx : x.f7 = -1 ∨ 1 ≤ x.f7) : UsI ⟨s.day, s.G ++ [x], s.E⟩ (M ++ [x.f7]) := by
  obtain ⟨h1, h2, h3, h4⟩ := h
  have hup : ∀ m, m ≤ s.G.length → up (s.G ++ [x]) m = up s.G m := fun m hm => up_app2 h1.1.1 hN.1.1 m m (Nat.le_refl _) hm
  refine ⟨hN, fun e he => ?_, by simp [h3], fun n q1 q2 => ?_⟩
  · have := h2 e he
    show (1 ≤ e.f2 ∧ e.f2 ≤ ((s.G ++ [x]).length : Nat)) ∧ (1 ≤ e.f3 ∧ e.f3 ≤ ((s.G ++ [x]).length : Nat))
    rw [List.length_append]; simp only [List.length_singleton]; omega
  · have q2' : n ≤ (s.G ++ [x]).length := q2
    rw [List.length_append, List.length_singleton] at q2'
    show (_ → (gr (s.G ++ [x]) n).f7 = -1) ∧ (_ → (gr (s.G ++ [x]) n).f7 = _ - (usedN (s.G ++ [x]) s.E n : Nat) ∧ 0 ≤ (gr (s.G ++ [x]) n).f7)
    rw [used_same h2 hup]
    by_cases c : n ≤ s.G.length
    · rw [gr_app_old _ _ n q1 c, show (M ++ [x.f7]).getD (n - 1) 0 = M.getD (n - 1) 0 by
        rw [List.getD_eq_getElem?_getD, List.getD_eq_getElem?_getD, List.getElem?_append_left (by omega)]]
      exact h4 n q1 c
    · have : n = s.G.length + 1 := by omega
      subst this
      rw [gr_app_new, used_new h1.1.1 h2 (by omega), show (M ++ [x.f7]).getD (s.G.length + 1 - 1) 0 = x.f7 by
        rw [List.getD_eq_getElem?_getD, List.getElem?_append_right (by omega), h3]; simp]
      refine ⟨fun _ => by omega, fun _ => ⟨by simp, by omega⟩⟩
theorem usi_same {s t : St} {M : List Int} (h : UsI s M) (hN : Nar t.G) (hl : t.G.length = s.G.length) (hE : t.E = s.E) (hg : ∀ n, 1 ≤ n → n ≤ s.G.length → (gr t.G n).f1 = (gr s.G n).f1 ∧ (gr t.G n).f7 = (gr s.G n).f7) : UsI t M := by
  obtain ⟨h1, h2, h3, h4⟩ := h
  have hup : ∀ m, m ≤ s.G.length → up t.G m = up s.G m := fun m hm => up_same h1.1.1 hN.1.1 hl (fun n q1 q2 => (hg n q1 q2).1) m m (Nat.le_refl _) hm
  refine ⟨hN, by rw [hE]; intro e he; rw [hl]; exact h2 e he, by rw [hl]; exact h3, fun n q1 q2 => ?_⟩
  rw [hl] at q2
  rw [hE, used_same h2 hup, (hg n q1 q2).2]
  exact h4 n q1 q2
theorem key_free {day : Int} {G : List S39} {v n by_ : Int} (hc : keyC day G v n by_ = 0) : ∀ m ∈ up G n.toNat, (gr G m).f7 ≠ 0 := by
  have hr := keyC_in hc
  unfold keyC at hc
  rw [if_neg (fun q => q hr)] at hc
  by_cases c1 : badB day G v n.toNat by_ = true
  · rw [if_pos c1] at hc; omega
  · rw [if_neg c1] at hc
    by_cases c2 : spB G n.toNat = true
    · rw [if_pos c2] at hc; omega
    · intro m hm e
      apply c2
      unfold spB
      exact List.any_eq_true.2 ⟨m, hm, beq_iff_eq.2 e⟩
theorem usi_open {s : St} {M : List Int} (h : UsI s M) {v n nb m mb : Int} (hc : openC s.day s.G s.E v n nb m mb = 0) : UsI ⟨s.day, openG s.G n m, s.E ++ [⟨s.day, v, n, m⟩]⟩ M := by
  obtain ⟨h1, h2, h3, h4⟩ := h
  obtain ⟨r1, r2, r3⟩ := open_rng h1.1.1 hc
  obtain ⟨_, _, k1, k2, _, hroot, _⟩ := openC_zero hc
  have hdis : ∀ q ∈ up s.G n.toNat, q ∉ up s.G m.toNat := fun q hq hq2 => by
    have e1 := up_root_same h1 _ n.toNat (Nat.le_refl _) (by omega) (by omega) q hq
    have e2 := up_root_same h1 _ m.toNat (Nat.le_refl _) (by omega) (by omega) q hq2
    exact hroot (by rw [← e1, ← e2])
  have hnd : (up s.G n.toNat ++ up s.G m.toNat).Nodup := List.nodup_append.2 ⟨up_nodup h1.1.1 _ _ (Nat.le_refl _) (by omega), up_nodup h1.1.1 _ _ (Nat.le_refl _) (by omega), fun a ha b hb e => hdis a ha (e ▸ hb)⟩
  have hlen : (openG s.G n m).length = s.G.length := uses_len _ _
  have hN : Nar (openG s.G n m) := nar_uses h1 _ r3
  have hgr : ∀ q, 1 ≤ q → gr (openG s.G n m) q = { gr s.G q with f7 := if q ∈ up s.G n.toNat ++ up s.G m.toNat ∧ 0 < (gr s.G q).f7 then (gr s.G q).f7 - 1 else (gr s.G q).f7 } := fun q hq => gr_uses _ s.G q hnd r3 hq
  have hup : ∀ q, q ≤ s.G.length → up (openG s.G n m) q = up s.G q := fun q hq => up_same h1.1.1 hN.1.1 hlen (fun j q1 q2 => by rw [hgr j q1]) q q (Nat.le_refl _) hq
  refine ⟨hN, ?_, by rw [hlen]; exact h3, fun q q1 q2 => ?_⟩
  · intro e he
    rw [hlen]
    rcases List.mem_append.1 he with he | he
    · exact h2 e he
    · simp only [List.mem_singleton] at he; subst he; exact ⟨r1, r2⟩
  · have q2' : q ≤ s.G.length := by rw [← hlen]; exact q2
    obtain ⟨a1, a2⟩ := h4 q q1 q2'
    have hadd : usedN (openG s.G n m) (s.E ++ [⟨s.day, v, n, m⟩]) q = usedN s.G s.E q + ((if q ∈ up s.G n.toNat then 1 else 0) + (if q ∈ up s.G m.toNat then 1 else 0)) := by
      have e1 : usedN (openG s.G n m) (s.E ++ [⟨s.day, v, n, m⟩]) q = usedN (openG s.G n m) s.E q + use2 (openG s.G n m) q ⟨s.day, v, n, m⟩ := by
        unfold usedN; rw [List.map_append, List.sum_append]; simp
      rw [e1, used_same h2 hup]
      unfold use2
      rw [hup n.toNat (by omega), hup m.toNat (by omega)]
    show (_ → (gr (openG s.G n m) q).f7 = -1) ∧ (_ → (gr (openG s.G n m) q).f7 = _ - (usedN (openG s.G n m) (s.E ++ [⟨s.day, v, n, m⟩]) q : Nat) ∧ 0 ≤ (gr (openG s.G n m) q).f7)
    rw [hadd, hgr q q1]
    simp only
    have hfree : q ∈ up s.G n.toNat ++ up s.G m.toNat → (gr s.G q).f7 ≠ 0 := fun hq => by
      rcases List.mem_append.1 hq with hq | hq
      · exact key_free k1 q hq
      · exact key_free k2 q hq
    by_cases cn : q ∈ up s.G n.toNat
    · have cm := hdis q cn
      have hf := hfree (List.mem_append_left _ cn)
      rw [if_pos cn, if_neg cm]
      refine ⟨fun hM => ?_, fun hM => ?_⟩
      · rw [a1 hM, if_neg (fun z => by omega)]
      · obtain ⟨b1, b2⟩ := a2 hM
        rw [if_pos ⟨List.mem_append_left _ cn, by omega⟩]
        omega
    · by_cases cm : q ∈ up s.G m.toNat
      · have hf := hfree (List.mem_append_right _ cm)
        rw [if_neg cn, if_pos cm]
        refine ⟨fun hM => ?_, fun hM => ?_⟩
        · rw [a1 hM, if_neg (fun z => by omega)]
        · obtain ⟨b1, b2⟩ := a2 hM
          rw [if_pos ⟨List.mem_append_right _ cm, by omega⟩]
          omega
      · rw [if_neg cn, if_neg cm, if_neg (fun z => (List.mem_append.1 z.1).elim cn cm)]
        exact ⟨a1, fun hM => by have := a2 hM; omega⟩
def madeS (s : St) (M : List Int) (a : S37) : List Int := M ++ ((stepS s a).G.drop s.G.length).map (·.f7)
theorem drop_app (G : List S39) (x : S39) : (G ++ [x]).drop G.length = [x] := by rw [List.drop_left]
theorem usi_step {s : St} {M : List Int} (h : UsI s M) (a : S37) : UsI (stepS s a) (madeS s M a) := by
  have hsame : ∀ t : St, t.G.length = s.G.length → UsI t M → UsI t (M ++ (t.G.drop s.G.length).map (·.f7)) := fun t hl ht => by
    rw [← hl, List.drop_length]; simpa using ht
  unfold madeS
  refine step_cases (P := fun t => UsI t (M ++ (t.G.drop s.G.length).map (·.f7))) a (hsame s rfl h) (fun h_ v r u t hc => ?_) (fun n by_ h_ v r u t hc => ?_) (fun n by_ hc => ?_) (fun d hc => ?_) (fun v n nb m mb hc => ?_)
  · have hm : mayB h_ v r u t = true := by
      unfold grantC at hc
      exact Classical.byContradiction fun q => by rw [if_neg q] at hc; omega
    obtain ⟨_, _, _, _, _, _, _, _, m9⟩ := mayB_iff.1 hm
    show UsI ⟨s.day, rootG s.G h_ v r u t, s.E⟩ (M ++ ((rootG s.G h_ v r u t).drop s.G.length).map (·.f7))
    unfold rootG
    rw [drop_app]
    exact usi_app h _ (nar_root h.1 hc) (by show t = -1 ∨ 1 ≤ t; omega)
  · obtain ⟨c1, c2, _⟩ := passC_zero hc
    obtain ⟨_, _, _, _, _, _, _, _, m9⟩ := mayB_iff.1 c2
    show UsI ⟨s.day, passG s.G n h_ v r u t, s.E⟩ (M ++ ((passG s.G n h_ v r u t).drop s.G.length).map (·.f7))
    unfold passG
    rw [drop_app]
    exact usi_app h _ (nar_pass h.1 hc) (by show t = -1 ∨ 1 ≤ t; omega)
  · obtain ⟨c1, _⟩ := revC_zero hc
    refine hsame ⟨s.day, put8 s.G n.toNat true, s.E⟩ (put8_len _ _ _) (usi_same h (nar_put8 h.1 (by omega) (by omega) true) (put8_len _ _ _) rfl (fun q q1 q2 => ?_))
    show (gr (put8 s.G n.toNat true) q).f1 = _ ∧ (gr (put8 s.G n.toNat true) q).f7 = _
    rw [gr_put8 s.G n.toNat q true (by omega) (by omega) q1]
    split
    · rename_i e; subst e; exact ⟨rfl, rfl⟩
    · exact ⟨rfl, rfl⟩
  · exact hsame ⟨d, s.G, s.E⟩ rfl (usi_same h h.1 rfl rfl (fun _ _ _ => ⟨rfl, rfl⟩))
  · exact hsame ⟨s.day, openG s.G n m, _⟩ (uses_len _ _) (usi_open h hc)
end Go.Proofs.Ytfnlghjkjmppdaa.PC
end
section
namespace Go.Proofs.Ytfnlghjkjmppdaa.PC
open Go.RowKit Go.Proofs.YtfnlghjkjmppdaaW.PrintWords Go.Proofs.YtfnlghjkjmppdaaW.PrintLast Go.Proofs.YtfnlghjkjmppdaaW.PrintMore
set_option linter.unusedVariables false
set_option linter.unusedSimpArgs false
def HasM (base : Nat) (w0 w : World) (g : Nat) (s : St) (v : Value) (M : List Int) : Prop := ∃ F, Bk base F w g s ∧ Below base w0 w ∧ base ≤ w0.heap.size ∧ Kd.R (Kd.int .i64) 3 w base (fun k => ¬ F k) v M
theorem HasM.has {base : Nat} {w0 w : World} {g : Nat} {s : St} {v : Value} {M : List Int} (h : HasM base w0 w g s v M) : Has base w0 w g s := by
  obtain ⟨F, h1, h2, h3, h4⟩ := h
  exact ⟨⟨F, h1⟩, h2, h3⟩
theorem Bk.sz {base : Nat} {F : Nat → Prop} {w : World} {g : Nat} {s : St} (h : Bk base F w g s) : base ≤ w.heap.size := BK.size h
theorem HasM.below {base : Nat} {w0 w : World} {g : Nat} {s : St} {v : Value} {M : List Int} (h : HasM base w0 w g s v M) : Below base w0 w := h.has.2.1
theorem HasM.next {base : Nat} {w0 w w' : World} {g : Nat} {s : St} {v : Value} {M : List Int} (h : HasM base w0 w g s v M) (hb : Below w.heap.size w w') : HasM base w0 w' g s v M := by
  obtain ⟨F, h1, h2, h3, h4⟩ := h
  exact ⟨F, BK.next h1 hb, below_then h2 h1.sz hb, h3, Kd.R_below h4 hb⟩
def madeL (l : List S37) : Nat → List Int
  | 0 => []
  | i + 1 => madeS (runS s0 (l.take i)) (madeL l i) (l.getD i z37)
theorem usi_run (l : List S37) : ∀ i, i ≤ l.length → UsI (runS s0 (l.take i)) (madeL l i)
  | 0, _ => show UsI ⟨0, [], []⟩ [] from ⟨nil_nar, (show EIn [] [] from fun e he => absurd he (by simp)), rfl, fun n h1 h2 => by have : n ≤ 0 := h2; omega⟩
  | i + 1, h => by
    rw [runS_take s0 l i (by omega)]
    exact usi_step (usi_run l i (by omega)) _
theorem used_le (G : List S39) (E : List S44) (n : Nat) : usedN G E n ≤ 2 * E.length := by
  unfold usedN
  induction E with
  | nil => simp
  | cons e E ih =>
    rw [List.map_cons, List.sum_cons, List.length_cons]
    have : use2 G n e ≤ 2 := by unfold use2; split <;> split <;> omega
    omega
theorem used_snoc (G : List S39) (E : List S44) (n k : Nat) (h : k < E.length) : usedN G (E.take (k + 1)) n = usedN G (E.take k) n + use2 G n (E[k]) := by
  unfold usedN
  rw [List.take_succ_eq_append_getElem h, List.map_append, List.sum_append]; simp
end Go.Proofs.Ytfnlghjkjmppdaa.PC
end
section
namespace Go.Proofs.Ytfnlghjkjmppdaa.PC
open Go.RowKit Go.Proofs.YtfnlghjkjmppdaaW.PrintWords Go.Proofs.YtfnlghjkjmppdaaW.PrintLast Go.Proofs.YtfnlghjkjmppdaaW.PrintMore
set_option linter.unusedVariables false
set_option linter.unusedSimpArgs false
def RB (w : World) (AG : Option Addr) (cG : Nat) (G : List S39) (AE : Option Addr) (cE : Nat) (E : List S44) : Prop := Kd.C k39 w AG G.length G ∧ G.length ≤ cG ∧ Kd.C k44 w AE E.length E ∧ E.length ≤ cE
theorem RB.next {w w' : World} {AG : Option Addr} {cG : Nat} {G : List S39} {AE : Option Addr} {cE : Nat} {E : List S44} (h : RB w AG cG G AE cE E) (hb : Below w.heap.size w w') : RB w' AG cG G AE cE E := ⟨Kd.C_below h.1 hb, h.2.1, Kd.C_below h.2.2.1 hb, h.2.2.2⟩
theorem RB.c {w : World} {AG : Option Addr} {cG : Nat} {G : List S39} {AE : Option Addr} {cE : Nat} {E : List S44} (h : RB w AG cG G AE cE E) : Kd.C k39 w AG G.length G := h.1
theorem three {W : World} {b : Nat} {v0 v1 v2 : Value} {ty : Nat} (h : W.heap[b]? = some (.cells #[v0, v1, v2] ty)) : W.cell? ⟨b, 0, none⟩ = some v0 ∧ W.cell? ⟨b, 1, none⟩ = some v1 ∧ W.cell? ⟨b, 2, none⟩ = some v2 :=
  ⟨by rw [blk_cell h 0]; rfl, by rw [blk_cell h 1]; rfl, by rw [blk_cell h 2]; rfl⟩
def undR (G : List S39) (n : Nat) (ab : Int) : Bool := (up G n).any fun m => (m : Int) == ab
theorem rd_gr (G : List S39) (m : Nat) : rd_T39 G (m : Int) = gr G (m + 1) := by
  unfold gr
  rw [show (((m + 1 : Nat) : Int) - 1) = (m : Int) by omega]
set_option maxHeartbeats 12800000 in
set_option maxRecDepth 100000 in
theorem Under_r (w : World) (AG : Option Addr) (cG : Nat) (G : List S39) (AE : Option Addr) (cE : Nat) (E : List S44) (day : Int) (n ab : Int) (h : RB w AG cG G AE cE E) (hT : Tree G) (h0 : 0 ≤ n) (h1 : n ≤ G.length) : Calls Try.prog 83 #[.agg #[.slice AG G.length cG, .slice AE E.length cE, .int .i64 day], .int .i64 n, .int .i64 ab] w fun e w' => e = .returned (.bool (undR G n.toNat ab)) ∧ Below w.heap.size w w' := by
  have hu51 := Try.underlying51
  have hu39 := Try.underlying39
  have hu44 := Try.underlying44
  have HR0 := lhid h
  have HT := lhid hT
  have hgl := hT.1
  clear h hT
  go_enter Try.func83, Try.ntmps83
  have HB_1 := lhid (Below.refl w.heap.size w)
  go_upto_region 1 with (fail)
  have hb := below_alloc (Below.refl w.heap.size w) (.cells #[.slice AG G.length cG, .slice AE E.length cE, .int .i64 day] 51)
  have hn := blk_new w (.cells #[.slice AG G.length cG, .slice AE E.length cE, .int .i64 day] 51)
  have HZ1 := lhid (show (World.alloc w (.cells #[.slice AG G.length cG, .slice AE E.length cE, .int .i64 day] 51)).heap.size = w.heap.size + 1 from by simp)
  generalize hq : World.alloc w (.cells #[.slice AG G.length cG, .slice AE E.length cE, .int .i64 day] 51) = w1 at hb hn HZ1 ⊢
  clear hq
  have HR_2 := lhid (HR0.out.next hb)
  have HB_3 := lhid (below_then HB_1.out HB_1.out.size hb)
  clear HR0 HB_1 hb
  have XB_4 := lhid (hn)
  clear hn
  obtain ⟨xb, hxb⟩ : ∃ q, q = w.heap.size := ⟨_, rfl⟩
  rw [← hxb] at XB_4 ⊢
  clear hxb
  go_loopw [1] (fun t wr => ∃ m : Nat, m ≤ G.length ∧ t = .int .i64 (m : Int) ∧ undR G m ab = undR G n.toNat ab ∧ Hid (RB wr AG cG G AE cE E) ∧ Hid (Below w.heap.size w wr) ∧ Hid (wr.heap[xb]? = some (.cells #[.slice AG G.length cG, .slice AE E.length cE, .int .i64 day] 51))) (fun t _ => (intOf t).toNat)
  case atStart => exact ⟨n.toNat, by omega, by rw [show ((n.toNat : Nat) : Int) = n by omega], rfl, HR_2, HB_3, XB_4⟩
  case round =>
    obtain ⟨m, hm, rfl, hu, HRr_5, HBr_6, XBr_7⟩ := hrel
    clear HR_2 HB_3 XB_4
    by_cases c0 : m = 0
    · subst c0
      have hr : undR G n.toNat ab = false := by rw [← hu]; unfold undR; rw [up_zero]; rfl
      go_wp2_with fail
      go_ret
      exact ⟨by first | (rw [hr]; rfl) | rfl, HBr_6.out⟩
    · obtain ⟨q, rfl⟩ : ∃ q, m = q + 1 := ⟨m - 1, by omega⟩
      have HU := lhid hu
      clear hu
      have hm0 : (((q + 1 : Nat) : Int) != 0) = true := bne_iff_ne.mpr (by omega)
      have hus := up_succ HT.out (n := q + 1) (by omega) hm
      have ht := HT.out.2 (q + 1) (by omega) hm
      obtain ⟨a, ha⟩ : ∃ a : Nat, (gr G (q + 1)).f1 = (a : Int) := ⟨(gr G (q + 1)).f1.toNat, by omega⟩
      rw [ha] at hus ht
      rw [Int.toNat_natCast] at hus
      have HUS := lhid hus
      have HTQ := lhid ht
      clear hus ht
      by_cases ca : ((q + 1 : Nat) : Int) = ab
      · have hr : undR G n.toNat ab = true := by rw [← HU.out]; unfold undR; rw [HUS.out, List.any_cons, ca]; simp
        have hab : (((q + 1 : Nat) : Int) == ab) = true := beq_iff_eq.mpr ca
        go_wp2_with fail
        go_ret
        exact ⟨by first | (rw [hr]; rfl) | rfl, HBr_6.out⟩
      · have hab : (((q + 1 : Nat) : Int) == ab) = false := beq_eq_false_iff_ne.mpr ca
        obtain ⟨ad, eA, x0, x1, x2, x3, x4, x5, x6, x7, x8⟩ := at_T39 (HRr_5.out).1 (q : Int) (by omega) (by omega)
        subst eA
        simp only [rd_gr, Int.toNat_natCast] at x0 x1 x2 x3 x4 x5 x6 x7 x8
        rw [ha] at x1
        obtain ⟨z0, z1, z2⟩ := three XBr_7.out
        have hq1 : (0 : Int) ≤ (q : Int) := by omega
        have hq2 : (q : Int) < (G.length : Int) := by omega
        go_wp2_with fail
        try any_goals (exfalso; omega)
        clear z0 z1 z2
        clear x0 x1 x2 x3 x4 x5 x6 x7 x8
        have hun : undR G a ab = undR G n.toNat ab := by rw [← HU.out]; unfold undR; rw [HUS.out, List.any_cons, hab]; rfl
        have hlt := HTQ.out.2.2
        go_roundw
        case rel => exact ⟨a, by omega, rfl, hun, HRr_5, HBr_6, XBr_7⟩
        case measure => simp [intOf]; omega
theorem undR_mem (G : List S39) (k : Nat) {n : Int} (h : 0 ≤ n) : undR G k n = decide (n.toNat ∈ up G k) := by
  unfold undR
  rw [Bool.eq_iff_iff, List.any_eq_true, decide_eq_true_eq]
  constructor
  · rintro ⟨m, h1, h2⟩
    have := beq_iff_eq.1 h2
    have : m = n.toNat := by omega
    subst this; exact h1
  · intro h1
    exact ⟨n.toNat, h1, beq_iff_eq.2 (by omega)⟩
theorem RB.e {w : World} {AG : Option Addr} {cG : Nat} {G : List S39} {AE : Option Addr} {cE : Nat} {E : List S44} (h : RB w AG cG G AE cE E) : Kd.C k44 w AE E.length E := h.2.2.1
theorem ein_at {G : List S39} {E : List S44} (h : EIn G E) {i : Nat} (hi : i < E.length) : (1 ≤ (E.getD i z44).f2 ∧ (E.getD i z44).f2 ≤ G.length) ∧ (1 ≤ (E.getD i z44).f3 ∧ (E.getD i z44).f3 ≤ G.length) := by
  rw [List.getD_eq_getElem?_getD, List.getElem?_eq_getElem hi]
  exact h _ (List.getElem_mem _)
theorem used_step {G : List S39} {E : List S44} {i : Nat} {n : Int} (hn : 0 ≤ n) (hi : i < E.length) : usedN G (E.take (i + 1)) n.toNat = usedN G (E.take i) n.toNat + ((if undR G (E.getD i z44).f2.toNat n = true then 1 else 0) + (if undR G (E.getD i z44).f3.toNat n = true then 1 else 0)) := by
  rw [used_snoc G E n.toNat i hi, undR_mem _ _ hn, undR_mem _ _ hn, List.getD_eq_getElem?_getD, List.getElem?_eq_getElem hi]
  unfold use2
  simp
def leftN (G : List S39) (E : List S44) (n : Nat) : Int := if (gr G n).f7 < 0 then -1 else (gr G n).f7 - (usedN G E n : Nat)
set_option maxHeartbeats 12800000 in
set_option maxRecDepth 100000 in
theorem used_r (w : World) (AG : Option Addr) (cG : Nat) (G : List S39) (AE : Option Addr) (cE : Nat) (E : List S44) (day : Int) (n : Int) (h : RB w AG cG G AE cE E) (hT : Tree G) (hE : EIn G E) (hEl : E.length ≤ 100) (h0 : 1 ≤ n) : Calls Try.prog 92 #[.agg #[.slice AG G.length cG, .slice AE E.length cE, .int .i64 day], .int .i64 n] w fun e w' => e = .returned (.int .i64 (usedN G E n.toNat : Nat)) ∧ Below w.heap.size w w' := by
  have HE := lhid hE
  clear hE
  have hu51 := Try.underlying51
  have hu39 := Try.underlying39
  have hu44 := Try.underlying44
  have HR0 := lhid h
  have HT := lhid hT
  have hgl := hT.1
  clear h hT
  go_enter Try.func92, Try.ntmps92
  have HB_1 := lhid (Below.refl w.heap.size w)
  go_upto_region 1 with (fail)
  have hb := below_alloc (Below.refl w.heap.size w) (.cells #[.slice AG G.length cG, .slice AE E.length cE, .int .i64 day] 51)
  have hn := blk_new w (.cells #[.slice AG G.length cG, .slice AE E.length cE, .int .i64 day] 51)
  have HZ1 := lhid (show (World.alloc w (.cells #[.slice AG G.length cG, .slice AE E.length cE, .int .i64 day] 51)).heap.size = w.heap.size + 1 from by simp)
  generalize hq : World.alloc w (.cells #[.slice AG G.length cG, .slice AE E.length cE, .int .i64 day] 51) = w1 at hb hn HZ1 ⊢
  clear hq
  have HR_2 := lhid (HR0.out.next hb)
  have HB_3 := lhid (below_then HB_1.out HB_1.out.size hb)
  clear HR0 HB_1 hb
  have XB_4 := lhid (hn)
  clear hn
  obtain ⟨xb, hxb⟩ : ∃ q, q = w.heap.size := ⟨_, rfl⟩
  rw [← hxb] at XB_4 ⊢
  clear hxb
  go_upto_region 3 with (fail)
  go_loopw [5, 6] (fun c t wr => ∃ i : Nat, i ≤ E.length ∧ t = .int .i64 (i : Int) ∧ c = .int .i64 (usedN G (E.take i) n.toNat : Nat) ∧ Hid (RB wr AG cG G AE cE E) ∧ Hid (Below w.heap.size w wr) ∧ Hid (wr.heap[xb]? = some (.cells #[.slice AG G.length cG, .slice AE E.length cE, .int .i64 day] 51))) (fun c t _ => E.length - (intOf t).toNat)
  case atStart => exact ⟨0, Nat.zero_le _, rfl, rfl, HR_2, HB_3, XB_4⟩
  case round =>
    obtain ⟨i, hi, rfl, rfl, HRr_5, HBr_6, XBr_7⟩ := hrel
    clear HR_2 HB_3 XB_4
    have hul := used_le G (E.take i) n.toNat
    rw [List.length_take] at hul
    by_cases hlt : i < E.length
    · have hlt2 : (i : Int) < (E.length : Int) := by omega
      have HUS := lhid (used_step (G := G) (n := n) (by omega) hlt)
      obtain ⟨u, hu⟩ : ∃ q : Nat, q = usedN G (E.take i) n.toNat := ⟨_, rfl⟩
      rw [← hu] at hul HUS ⊢
      clear hu
      obtain ⟨⟨p1, p2⟩, ⟨p3, p4⟩⟩ := ein_at HE.out hlt
      obtain ⟨e2, he2⟩ : ∃ q, q = (E.getD i z44).f2 := ⟨_, rfl⟩
      obtain ⟨e3, he3⟩ : ∃ q, q = (E.getD i z44).f3 := ⟨_, rfl⟩
      rw [← he2, ← he3] at HUS
      rw [← he2] at p1 p2
      rw [← he3] at p3 p4
      have HE2 := lhid he2
      have HE3 := lhid he3
      clear he2 he3
      obtain ⟨ad, eA, -⟩ := at_T44 (HRr_5.out).e (i : Int) (by omega) (by omega)
      subst eA
      obtain ⟨z0, z1, z2⟩ := three XBr_7.out
      go_upto_region 5 with (fail)
      try any_goals (exfalso; omega)
      clear z0 z1 z2
      have hb := below_drew1 (Below.refl wr.heap.size wr)
      have HR_8 := lhid (HRr_5.out.next hb)
      have HB_9 := lhid (below_then HBr_6.out HBr_6.out.size hb)
      have XB_10 := lhid (blk_below XBr_7.out hb)
      clear HRr_5 HBr_6 XBr_7 hb
      refine start_ (n := 9) (S := fun w' => w'.cell? ⟨xb, 0, none⟩ = some (.slice AG G.length cG) ∧ w'.cell? ⟨xb, 1, none⟩ = some (.slice (some ad) E.length cE) ∧ w'.cell? ⟨xb, 2, none⟩ = some (.int .i64 day) ∧ w'.cell? ⟨(ad.add (i * 4)).block, (ad.add (i * 4)).off + 2, none⟩ = some (.int .i64 e2)) (ds := [8]) (lsb 9 0) (by kernel_rfl) rfl (by kernel_rfl) ⟨(three XB_10.out).1, (three XB_10.out).2.1, (three XB_10.out).2.2, (by obtain ⟨ad', eA', x0, x1, x2, x3⟩ := at_T44 (HR_8.out).e (i : Int) (by omega) (by omega); cases eA'; rw [Int.toNat_natCast] at x2 x3; rw [HE2.out]; exact x2)⟩ (fun hHeld => ?_)
      generalize wr.drew = w2 at HR_8 HB_9 XB_10 hHeld ⊢
      refine pu 1 (some 15) 9 2 rfl rfl (v := ?_) (a' := ?_) ?_ ?_ ?_; rotate_left; (intro w'; go_simp; with_reducible rfl); rotate_left; (simp only [Act.put, pS]; rfl)
      refine pu 3 (some 17) 9 10 rfl rfl (v := ?_) (a' := ?_) ?_ ?_ ?_; rotate_left; (intro w'; go_simp; with_reducible rfl); rotate_left; (simp only [Act.put, pS]; rfl)
      refine pu 7 (some 21) 9 138 rfl rfl (v := ?_) (a' := ?_) ?_ ?_ ?_; rotate_left; (intro w'; go_simp; with_reducible rfl); rotate_left; (simp only [Act.put, pS]; rfl)
      refine tk 0 (some 14) 9 139 rfl rfl hHeld (v := ?_) (a' := ?_) ?_ ?_ ?_; rotate_left; (rintro w' ⟨s0, s1, s2, s3⟩; go_simp; with_reducible rfl); rotate_left; (simp only [Act.put, pS]; rfl)
      refine tk 2 (some 16) 9 143 rfl rfl hHeld (v := ?_) (a' := ?_) ?_ ?_ ?_; rotate_left; (rintro w' ⟨s0, s1, s2, s3⟩; go_simp; with_reducible rfl); rotate_left; (simp only [Act.put, pS]; rfl)
      refine pu 4 (some 18) 9 159 rfl rfl (v := ?_) (a' := ?_) ?_ ?_ ?_; rotate_left; (intro w'; go_simp; with_reducible rfl); rotate_left; (simp only [Act.put, pS]; rfl)
      refine pu 5 (some 19) 9 191 rfl rfl (v := ?_) (a' := ?_) ?_ ?_ ?_; rotate_left; (intro w'; go_simp; with_reducible rfl); rotate_left; (simp only [Act.put, pS]; rfl)
      refine tk 6 (some 20) 9 255 rfl rfl hHeld (v := ?_) (a' := ?_) ?_ ?_ ?_; rotate_left; (rintro w' ⟨s0, s1, s2, s3⟩; go_simp; with_reducible rfl); rotate_left; (simp only [Act.put, pS]; rfl)
      refine last_ (i := 8) (N := some 22) (lsb 9 511) rfl rfl (by kernel_rfl) (by decide) (fun K hK => ?_)
      refine goes_ Try.func83 (by kernel_rfl) rfl #[.agg #[.slice AG G.length cG, .slice (some ad) E.length cE, .int .i64 day], .int .i64 e2, .int .i64 n] (by rfl) rfl rfl (by (try simp only [List.map_toArray, List.map_cons, List.map_nil]); first | done | rfl) ?_
      with_reducible refine (Under_r _ AG cG G (some ad) cE E day e2 n HR_8.out HT.out (by omega) (by omega)).mono ?_
      rintro e w92 ⟨rfl, hb⟩
      refine ⟨_, rfl, ?_⟩
      refine hK.out _ _ ?_
      clear hK K
      refine norm_ (a' := ?_) ?_ ?_
      rotate_left
      · show Act.put _ (some 22) _ = _
        simp only [Act.put, pS]
        rfl
      refine done_ (by kernel_rfl) ?_
      
      have HR_11 := lhid (HR_8.out.next hb)
      have HB_12 := lhid (below_then HB_9.out HB_9.out.size hb)
      have XB_13 := lhid (blk_below XB_10.out hb)
      clear HR_8 HB_9 XB_10 hb
      obtain ⟨b, hb2⟩ : ∃ q, q = undR G e2.toNat n := ⟨_, rfl⟩
      rw [← hb2] at HUS ⊢
      clear hb2
      cases b
      · go_upto_region 7 with (fail)
        try any_goals (exfalso; omega)
        have hb := below_drew1 (Below.refl w92.heap.size w92)
        have HR_14 := lhid (HR_11.out.next hb)
        have HB_15 := lhid (below_then HB_12.out HB_12.out.size hb)
        have XB_16 := lhid (blk_below XB_13.out hb)
        clear HR_11 HB_12 XB_13 hb
        refine start_ (n := 9) (S := fun w' => w'.cell? ⟨xb, 0, none⟩ = some (.slice AG G.length cG) ∧ w'.cell? ⟨xb, 1, none⟩ = some (.slice (some ad) E.length cE) ∧ w'.cell? ⟨xb, 2, none⟩ = some (.int .i64 day) ∧ w'.cell? ⟨(ad.add (i * 4)).block, (ad.add (i * 4)).off + 3, none⟩ = some (.int .i64 e3)) (ds := [8]) (lsb 9 0) (by kernel_rfl) rfl (by kernel_rfl) ⟨(three XB_16.out).1, (three XB_16.out).2.1, (three XB_16.out).2.2, (by obtain ⟨ad', eA', x0, x1, x2, x3⟩ := at_T44 (HR_14.out).e (i : Int) (by omega) (by omega); cases eA'; rw [Int.toNat_natCast] at x2 x3; rw [HE3.out]; exact x3)⟩ (fun hHeld => ?_)
        generalize w92.drew = w3 at HR_14 HB_15 XB_16 hHeld ⊢
        refine pu 1 (some 26) 9 2 rfl rfl (v := ?_) (a' := ?_) ?_ ?_ ?_; rotate_left; (intro w'; go_simp; with_reducible rfl); rotate_left; (simp only [Act.put, pS]; rfl)
        refine pu 3 (some 28) 9 10 rfl rfl (v := ?_) (a' := ?_) ?_ ?_ ?_; rotate_left; (intro w'; go_simp; with_reducible rfl); rotate_left; (simp only [Act.put, pS]; rfl)
        refine pu 7 (some 32) 9 138 rfl rfl (v := ?_) (a' := ?_) ?_ ?_ ?_; rotate_left; (intro w'; go_simp; with_reducible rfl); rotate_left; (simp only [Act.put, pS]; rfl)
        refine tk 0 (some 25) 9 139 rfl rfl hHeld (v := ?_) (a' := ?_) ?_ ?_ ?_; rotate_left; (rintro w' ⟨s0, s1, s2, s3⟩; go_simp; with_reducible rfl); rotate_left; (simp only [Act.put, pS]; rfl)
        refine tk 2 (some 27) 9 143 rfl rfl hHeld (v := ?_) (a' := ?_) ?_ ?_ ?_; rotate_left; (rintro w' ⟨s0, s1, s2, s3⟩; go_simp; with_reducible rfl); rotate_left; (simp only [Act.put, pS]; rfl)
        refine pu 4 (some 29) 9 159 rfl rfl (v := ?_) (a' := ?_) ?_ ?_ ?_; rotate_left; (intro w'; go_simp; with_reducible rfl); rotate_left; (simp only [Act.put, pS]; rfl)
        refine pu 5 (some 30) 9 191 rfl rfl (v := ?_) (a' := ?_) ?_ ?_ ?_; rotate_left; (intro w'; go_simp; with_reducible rfl); rotate_left; (simp only [Act.put, pS]; rfl)
        refine tk 6 (some 31) 9 255 rfl rfl hHeld (v := ?_) (a' := ?_) ?_ ?_ ?_; rotate_left; (rintro w' ⟨s0, s1, s2, s3⟩; go_simp; with_reducible rfl); rotate_left; (simp only [Act.put, pS]; rfl)
        refine last_ (i := 8) (N := some 33) (lsb 9 511) rfl rfl (by kernel_rfl) (by decide) (fun K hK => ?_)
        refine goes_ Try.func83 (by kernel_rfl) rfl #[.agg #[.slice AG G.length cG, .slice (some ad) E.length cE, .int .i64 day], .int .i64 e3, .int .i64 n] (by rfl) rfl rfl (by (try simp only [List.map_toArray, List.map_cons, List.map_nil]); first | done | rfl) ?_
        with_reducible refine (Under_r _ AG cG G (some ad) cE E day e3 n HR_14.out HT.out (by omega) (by omega)).mono ?_
        rintro e w93 ⟨rfl, hb⟩
        refine ⟨_, rfl, ?_⟩
        refine hK.out _ _ ?_
        clear hK K
        refine norm_ (a' := ?_) ?_ ?_
        rotate_left
        · show Act.put _ (some 33) _ = _
          simp only [Act.put, pS]
          rfl
        refine done_ (by kernel_rfl) ?_
        
        have HR_17 := lhid (HR_14.out.next hb)
        have HB_18 := lhid (below_then HB_15.out HB_15.out.size hb)
        have XB_19 := lhid (blk_below XB_16.out hb)
        clear HR_14 HB_15 XB_16 hb
        obtain ⟨c, hc2⟩ : ∃ q, q = undR G e3.toNat n := ⟨_, rfl⟩
        rw [← hc2] at HUS ⊢
        clear hc2
        cases c
        · go_wp2_with fail
          try any_goals (exfalso; omega)
          go_roundw
          case rel => exact ⟨i + 1, by omega, by simp, by rw [HUS.out]; simp; try omega, HR_17, HB_18, XB_19⟩
          case measure => simp [intOf]; omega
        · go_wp2_with fail
          try any_goals (exfalso; omega)
          go_roundw
          case rel => exact ⟨i + 1, by omega, by simp, by rw [HUS.out]; simp; try omega, HR_17, HB_18, XB_19⟩
          case measure => simp [intOf]; omega
      · go_upto_region 7 with (fail)
        try any_goals (exfalso; omega)
        have hb := below_drew1 (Below.refl w92.heap.size w92)
        have HR_20 := lhid (HR_11.out.next hb)
        have HB_21 := lhid (below_then HB_12.out HB_12.out.size hb)
        have XB_22 := lhid (blk_below XB_13.out hb)
        clear HR_11 HB_12 XB_13 hb
        refine start_ (n := 9) (S := fun w' => w'.cell? ⟨xb, 0, none⟩ = some (.slice AG G.length cG) ∧ w'.cell? ⟨xb, 1, none⟩ = some (.slice (some ad) E.length cE) ∧ w'.cell? ⟨xb, 2, none⟩ = some (.int .i64 day) ∧ w'.cell? ⟨(ad.add (i * 4)).block, (ad.add (i * 4)).off + 3, none⟩ = some (.int .i64 e3)) (ds := [8]) (lsb 9 0) (by kernel_rfl) rfl (by kernel_rfl) ⟨(three XB_22.out).1, (three XB_22.out).2.1, (three XB_22.out).2.2, (by obtain ⟨ad', eA', x0, x1, x2, x3⟩ := at_T44 (HR_20.out).e (i : Int) (by omega) (by omega); cases eA'; rw [Int.toNat_natCast] at x2 x3; rw [HE3.out]; exact x3)⟩ (fun hHeld => ?_)
        generalize w92.drew = w3 at HR_20 HB_21 XB_22 hHeld ⊢
        refine pu 1 (some 26) 9 2 rfl rfl (v := ?_) (a' := ?_) ?_ ?_ ?_; rotate_left; (intro w'; go_simp; with_reducible rfl); rotate_left; (simp only [Act.put, pS]; rfl)
        refine pu 3 (some 28) 9 10 rfl rfl (v := ?_) (a' := ?_) ?_ ?_ ?_; rotate_left; (intro w'; go_simp; with_reducible rfl); rotate_left; (simp only [Act.put, pS]; rfl)
        refine pu 7 (some 32) 9 138 rfl rfl (v := ?_) (a' := ?_) ?_ ?_ ?_; rotate_left; (intro w'; go_simp; with_reducible rfl); rotate_left; (simp only [Act.put, pS]; rfl)
        refine tk 0 (some 25) 9 139 rfl rfl hHeld (v := ?_) (a' := ?_) ?_ ?_ ?_; rotate_left; (rintro w' ⟨s0, s1, s2, s3⟩; go_simp; with_reducible rfl); rotate_left; (simp only [Act.put, pS]; rfl)
        refine tk 2 (some 27) 9 143 rfl rfl hHeld (v := ?_) (a' := ?_) ?_ ?_ ?_; rotate_left; (rintro w' ⟨s0, s1, s2, s3⟩; go_simp; with_reducible rfl); rotate_left; (simp only [Act.put, pS]; rfl)
        refine pu 4 (some 29) 9 159 rfl rfl (v := ?_) (a' := ?_) ?_ ?_ ?_; rotate_left; (intro w'; go_simp; with_reducible rfl); rotate_left; (simp only [Act.put, pS]; rfl)
        refine pu 5 (some 30) 9 191 rfl rfl (v := ?_) (a' := ?_) ?_ ?_ ?_; rotate_left; (intro w'; go_simp; with_reducible rfl); rotate_left; (simp only [Act.put, pS]; rfl)
        refine tk 6 (some 31) 9 255 rfl rfl hHeld (v := ?_) (a' := ?_) ?_ ?_ ?_; rotate_left; (rintro w' ⟨s0, s1, s2, s3⟩; go_simp; with_reducible rfl); rotate_left; (simp only [Act.put, pS]; rfl)
        refine last_ (i := 8) (N := some 33) (lsb 9 511) rfl rfl (by kernel_rfl) (by decide) (fun K hK => ?_)
        refine goes_ Try.func83 (by kernel_rfl) rfl #[.agg #[.slice AG G.length cG, .slice (some ad) E.length cE, .int .i64 day], .int .i64 e3, .int .i64 n] (by rfl) rfl rfl (by (try simp only [List.map_toArray, List.map_cons, List.map_nil]); first | done | rfl) ?_
        with_reducible refine (Under_r _ AG cG G (some ad) cE E day e3 n HR_20.out HT.out (by omega) (by omega)).mono ?_
        rintro e w93 ⟨rfl, hb⟩
        refine ⟨_, rfl, ?_⟩
        refine hK.out _ _ ?_
        clear hK K
        refine norm_ (a' := ?_) ?_ ?_
        rotate_left
        · show Act.put _ (some 33) _ = _
          simp only [Act.put, pS]
          rfl
        refine done_ (by kernel_rfl) ?_
        
        have HR_23 := lhid (HR_20.out.next hb)
        have HB_24 := lhid (below_then HB_21.out HB_21.out.size hb)
        have XB_25 := lhid (blk_below XB_22.out hb)
        clear HR_20 HB_21 XB_22 hb
        obtain ⟨c, hc2⟩ : ∃ q, q = undR G e3.toNat n := ⟨_, rfl⟩
        rw [← hc2] at HUS ⊢
        clear hc2
        cases c
        · go_wp2_with fail
          try any_goals (exfalso; omega)
          go_roundw
          case rel => exact ⟨i + 1, by omega, by simp, by rw [HUS.out]; simp; try omega, HR_23, HB_24, XB_25⟩
          case measure => simp [intOf]; omega
        · go_wp2_with fail
          try any_goals (exfalso; omega)
          go_roundw
          case rel => exact ⟨i + 1, by omega, by simp, by rw [HUS.out]; simp; try omega, HR_23, HB_24, XB_25⟩
          case measure => simp [intOf]; omega
    · have hie : i = E.length := by omega
      subst hie
      rw [List.take_length] at hul ⊢
      have hlt2 : ¬ (E.length : Int) < (E.length : Int) := by omega
      obtain ⟨z0, z1, z2⟩ := three XBr_7.out
      go_wp2_with fail
      go_ret
      exact ⟨by rfl, HBr_6.out⟩
end Go.Proofs.Ytfnlghjkjmppdaa.PC
end
section
namespace Go.Proofs.Ytfnlghjkjmppdaa.PC
open Go.RowKit Go.Proofs.YtfnlghjkjmppdaaW.PrintWords Go.Proofs.YtfnlghjkjmppdaaW.PrintLast Go.Proofs.YtfnlghjkjmppdaaW.PrintMore
set_option linter.unusedVariables false
set_option linter.unusedSimpArgs false
theorem rev_hit {G : List S39} {n i : Nat} (h1 : (gr G i).f8 = true) (h2 : undR G n (i : Int) = true) : revB G n = true := by
  rw [undR_mem _ _ (by omega), Int.toNat_natCast, decide_eq_true_eq] at h2
  exact List.any_eq_true.2 ⟨i, h2, h1⟩
theorem rev_not {G : List S39} (hT : Tree G) {n : Nat} (hn : n ≤ G.length) (h : ∀ i, 1 ≤ i → i ≤ G.length → ((gr G i).f8 && undR G n (i : Int)) = false) : revB G n = false := by
  rw [Bool.eq_false_iff]
  intro q
  obtain ⟨m, h1, h2⟩ := List.any_eq_true.1 q
  have hr := up_rng hT hn m h1
  have := h m hr.1 hr.2
  rw [undR_mem _ _ (by omega), Int.toNat_natCast, decide_eq_true h1, Bool.and_true] at this
  rw [this] at h2; cases h2
def spR (G : List S39) (E : List S44) (n : Nat) : Bool := (up G n).any fun m => leftN G E m == 0
theorem sp_hit {G : List S39} {E : List S44} {n i : Nat} (h1 : undR G n (i : Int) = true) (h2 : (leftN G E i == 0) = true) : spR G E n = true := by
  rw [undR_mem _ _ (by omega), Int.toNat_natCast, decide_eq_true_eq] at h1
  exact List.any_eq_true.2 ⟨i, h1, h2⟩
theorem sp_not {G : List S39} {E : List S44} (hT : Tree G) {n : Nat} (hn : n ≤ G.length) (h : ∀ i, 1 ≤ i → i ≤ G.length → (undR G n (i : Int) && (leftN G E i == 0)) = false) : spR G E n = false := by
  rw [Bool.eq_false_iff]
  intro q
  obtain ⟨m, h1, h2⟩ := List.any_eq_true.1 q
  have hr := up_rng hT hn m h1
  have := h m hr.1 hr.2
  rw [undR_mem _ _ (by omega), Int.toNat_natCast, decide_eq_true h1, Bool.true_and] at this
  rw [this] at h2; cases h2
set_option maxHeartbeats 12800000 in
set_option maxRecDepth 100000 in
theorem left_r (w : World) (AG : Option Addr) (cG : Nat) (G : List S39) (AE : Option Addr) (cE : Nat) (E : List S44) (day : Int) (n : Int) (h : RB w AG cG G AE cE E) (hT : Tree G) (hE : EIn G E) (hEl : E.length ≤ 100) (h0 : 1 ≤ n) (h1 : n ≤ G.length) (hf7 : (gr G n.toNat).f7 ≤ 1048576) : Calls Try.prog 81 #[.agg #[.slice AG G.length cG, .slice AE E.length cE, .int .i64 day], .int .i64 n] w fun e w' => e = .returned (.int .i64 (leftN G E n.toNat)) ∧ Below w.heap.size w w' := by
  obtain ⟨q, hq⟩ : ∃ q : Nat, n = (q : Int) + 1 := ⟨n.toNat - 1, by omega⟩
  have hnn : n.toNat = q + 1 := by omega
  rw [hnn]
  clear hnn
  subst hq
  have HE := lhid hE
  clear hE
  have hu51 := Try.underlying51
  have hu39 := Try.underlying39
  have hu44 := Try.underlying44
  have HR0 := lhid h
  have HT := lhid hT
  have hgl := hT.1
  clear h hT
  go_enter Try.func81, Try.ntmps81
  have HB_1 := lhid (Below.refl w.heap.size w)
  go_upto_region 1 with (fail)
  have hb := below_alloc (Below.refl w.heap.size w) (.cells #[.slice AG G.length cG, .slice AE E.length cE, .int .i64 day] 51)
  have hn := blk_new w (.cells #[.slice AG G.length cG, .slice AE E.length cE, .int .i64 day] 51)
  have HZ1 := lhid (show (World.alloc w (.cells #[.slice AG G.length cG, .slice AE E.length cE, .int .i64 day] 51)).heap.size = w.heap.size + 1 from by simp)
  generalize hq : World.alloc w (.cells #[.slice AG G.length cG, .slice AE E.length cE, .int .i64 day] 51) = w1 at hb hn HZ1 ⊢
  clear hq
  have HR_2 := lhid (HR0.out.next hb)
  have HB_3 := lhid (below_then HB_1.out HB_1.out.size hb)
  clear HR0 HB_1 hb
  have XB_4 := lhid (hn)
  clear hn
  obtain ⟨xb, hxb⟩ : ∃ q, q = w.heap.size := ⟨_, rfl⟩
  rw [← hxb] at XB_4 ⊢
  clear hxb
  obtain ⟨ad, eA, x0, x1, x2, x3, x4, x5, x6, x7, x8⟩ := at_T39 (HR_2.out).c (q : Int) (by omega) (by omega)
  subst eA
  simp only [rd_gr, Int.toNat_natCast] at x0 x1 x2 x3 x4 x5 x6 x7 x8
  obtain ⟨z0, z1, z2⟩ := three XB_4.out
  have hq1 : (0 : Int) ≤ (q : Int) := by omega
  have hq2 : (q : Int) < (G.length : Int) := by omega
  obtain ⟨f, hf⟩ : ∃ f, f = (gr G (q + 1)).f7 := ⟨_, rfl⟩
  rw [← hf] at x7
  have HF := lhid hf
  clear hf
  by_cases cf : f < 0
  · have hd : decide (f < 0) = true := decide_eq_true cf
    go_wp2_with fail
    try any_goals (exfalso; omega)
    go_ret
    exact ⟨by unfold leftN; rw [← HF.out, if_pos cf]; rfl, HB_3.out⟩
  · have hd : decide (f < 0) = false := decide_eq_false cf
    go_upto_region 3 with (fail)
    try any_goals (exfalso; omega)
    clear z0 z1 z2
    clear x0 x1 x2 x3 x4 x5 x6 x7 x8
    have hwz : wrap64 (q : Int) = (q : Int) := by unfold wrap64; omega
    have hq5 : q < G.length := by omega
    have hb := below_drew1 (Below.refl w1.heap.size w1)
    have HR_5 := lhid (HR_2.out.next hb)
    have HB_6 := lhid (below_then HB_3.out HB_3.out.size hb)
    have XB_7 := lhid (blk_below XB_4.out hb)
    clear HR_2 HB_3 XB_4 hb
    refine start_ (n := 12) (S := fun w' => w'.cell? ⟨xb, 0, none⟩ = some (.slice (some ad) G.length cG) ∧ w'.cell? ⟨xb, 1, none⟩ = some (.slice AE E.length cE) ∧ w'.cell? ⟨xb, 2, none⟩ = some (.int .i64 day) ∧ w'.cell? ⟨(ad.add (q * 9)).block, (ad.add (q * 9)).off + 7, none⟩ = some (.int .i64 f)) (ds := []) (lsb 12 0) (by kernel_rfl) rfl (by kernel_rfl) ⟨(three XB_7.out).1, (three XB_7.out).2.1, (three XB_7.out).2.2, (by obtain ⟨ad', eA', x0, x1, x2, x3, x4, x5, x6, x7, x8⟩ := at_T39 (HR_5.out).c (q : Int) (by omega) (by omega); cases eA'; rw [rd_gr, Int.toNat_natCast] at x7; rw [HF.out]; exact x7)⟩ (fun hHeld => ?_)
    generalize w1.drew = w2 at HR_5 HB_6 XB_7 hHeld ⊢
    refine pu 0 (some 13) 12 1 rfl rfl (v := ?_) (a' := ?_) ?_ ?_ ?_; rotate_left; (intro w'; go_simp; with_reducible rfl); rotate_left; (simp only [Act.put, pS]; rfl)
    refine pu 2 (some 15) 12 5 rfl rfl (v := ?_) (a' := ?_) ?_ ?_ ?_; rotate_left; (intro w'; go_simp; with_reducible rfl); rotate_left; (simp only [Act.put, pS]; rfl)
    refine pu 3 (some 16) 12 13 rfl rfl (v := ?_) (a' := ?_) ?_ ?_ ?_; rotate_left; (intro w'; go_simp; with_reducible rfl); rotate_left; (simp only [Act.put, pS]; rfl)
    refine pu 8 (some 21) 12 269 rfl rfl (v := ?_) (a' := ?_) ?_ ?_ ?_; rotate_left; (intro w'; go_simp; with_reducible rfl); rotate_left; (simp only [Act.put, pS]; rfl)
    refine tk 1 (some 14) 12 271 rfl rfl hHeld (v := ?_) (a' := ?_) ?_ ?_ ?_; rotate_left; (rintro w' ⟨s0, s1, s2, s3⟩; go_simp; with_reducible rfl); rotate_left; (simp only [Act.put, pS]; rfl)
    refine pu 4 (some 17) 12 287 rfl rfl (v := ?_) (a' := ?_) ?_ ?_ ?_; rotate_left; (intro w'; go_simp; with_reducible rfl); rotate_left; (simp only [Act.put, pS]; rfl)
    refine pu 5 (some 18) 12 319 rfl rfl (v := ?_) (a' := ?_) ?_ ?_ ?_; rotate_left; (intro w'; go_simp; with_reducible rfl); rotate_left; (simp only [Act.put, pS]; rfl)
    refine tk 6 (some 19) 12 383 rfl rfl hHeld (v := ?_) (a' := ?_) ?_ ?_ ?_; rotate_left; (rintro w' ⟨s0, s1, s2, s3⟩; go_simp; with_reducible rfl); rotate_left; (simp only [Act.put, pS]; rfl)
    refine tk 7 (some 20) 12 511 rfl rfl hHeld (v := ?_) (a' := ?_) ?_ ?_ ?_; rotate_left; (rintro w' ⟨s0, s1, s2, s3⟩; go_simp; with_reducible rfl); rotate_left; (simp only [Act.put, pS]; rfl)
    refine one_ (i := 9) (N := some 22) (lsb 12 1023) rfl rfl (by kernel_rfl) (by decide) (fun K hK => ?_)
    refine goes_ Try.func92 (by kernel_rfl) rfl #[.agg #[.slice (some ad) G.length cG, .slice AE E.length cE, .int .i64 day], .int .i64 ((q : Int) + 1)] (by rfl) rfl rfl (by (try simp only [List.map_toArray, List.map_cons, List.map_nil]); first | done | rfl) ?_
    with_reducible refine (used_r _ (some ad) cG G AE cE E day ((q : Int) + 1) HR_5.out HT.out HE.out (by omega) (by omega)).mono ?_
    rintro e w9 ⟨rfl, hb⟩
    refine ⟨_, rfl, ?_⟩
    refine hK.out _ _ ⟨(pw_cell_below hb (three XB_7.out).1), (pw_cell_below hb (three XB_7.out).2.1), (pw_cell_below hb (three XB_7.out).2.2), (pw_cell_below hb (by obtain ⟨ad', eA', x0, x1, x2, x3, x4, x5, x6, x7, x8⟩ := at_T39 (HR_5.out).c (q : Int) (by omega) (by omega); cases eA'; rw [rd_gr, Int.toNat_natCast] at x7; rw [HF.out]; exact x7))⟩ (fun hHeld => ?_)
    clear hK K
    refine norm_ (a' := ?_) ?_ ?_
    rotate_left
    · show Act.put _ (some 22) _ = _
      simp only [Act.put, pS]
      rfl
    refine pu 10 (some 23) 12 2047 rfl rfl (v := ?_) (a' := ?_) ?_ ?_ ?_; rotate_left; (intro w'; go_simp; with_reducible rfl); rotate_left; (simp only [Act.put, pS]; rfl)
    refine pu 11 (some 4) 12 4095 rfl rfl (v := ?_) (a' := ?_) ?_ ?_ ?_; rotate_left; (intro w'; go_simp; with_reducible rfl); rotate_left; (simp only [Act.put, pS]; rfl)
    refine done_ (by kernel_rfl) ?_
    
    have HR_8 := lhid (HR_5.out.next hb)
    have HB_9 := lhid (below_then HB_6.out HB_6.out.size hb)
    have XB_10 := lhid (blk_below XB_7.out hb)
    clear HR_5 HB_6 XB_7 hb
    rw [show ((q : Int) + 1).toNat = q + 1 by omega]
    have hul := used_le G E (q + 1)
    have hfb : f ≤ 1048576 := by have hq := hf7; rw [show ((q : Int) + 1).toNat = q + 1 by omega] at hq; rw [HF.out]; exact hq
    have hw : wrap64 (f - (usedN G E (q + 1) : Nat)) = f - (usedN G E (q + 1) : Nat) := by unfold wrap64; omega
    go_wp2_with fail
    try any_goals (exfalso; omega)
    go_ret
    exact ⟨by unfold leftN; rw [← HF.out, if_neg (by omega)]; first | rfl | (rw [hw]; rfl), HB_9.out⟩
set_option maxHeartbeats 12800000 in
set_option maxRecDepth 100000 in
theorem revoked_r (w : World) (AG : Option Addr) (cG : Nat) (G : List S39) (AE : Option Addr) (cE : Nat) (E : List S44) (day : Int) (n : Int) (h : RB w AG cG G AE cE E) (hT : Tree G) (h0 : 1 ≤ n) (h1 : n ≤ G.length) : Calls Try.prog 89 #[.agg #[.slice AG G.length cG, .slice AE E.length cE, .int .i64 day], .int .i64 n] w fun e w' => e = .returned (.bool (revB G n.toNat)) ∧ Below w.heap.size w w' := by
  have hu51 := Try.underlying51
  have hu39 := Try.underlying39
  have hu44 := Try.underlying44
  have HR0 := lhid h
  have HT := lhid hT
  have hgl := hT.1
  clear h hT
  go_enter Try.func89, Try.ntmps89
  have HB_1 := lhid (Below.refl w.heap.size w)
  go_upto_region 1 with (fail)
  have hb := below_alloc (Below.refl w.heap.size w) (.cells #[.slice AG G.length cG, .slice AE E.length cE, .int .i64 day] 51)
  have hn := blk_new w (.cells #[.slice AG G.length cG, .slice AE E.length cE, .int .i64 day] 51)
  have HZ1 := lhid (show (World.alloc w (.cells #[.slice AG G.length cG, .slice AE E.length cE, .int .i64 day] 51)).heap.size = w.heap.size + 1 from by simp)
  generalize hq : World.alloc w (.cells #[.slice AG G.length cG, .slice AE E.length cE, .int .i64 day] 51) = w1 at hb hn HZ1 ⊢
  clear hq
  have HR_2 := lhid (HR0.out.next hb)
  have HB_3 := lhid (below_then HB_1.out HB_1.out.size hb)
  clear HR0 HB_1 hb
  have XB_4 := lhid (hn)
  clear hn
  obtain ⟨xb, hxb⟩ : ∃ q, q = w.heap.size := ⟨_, rfl⟩
  rw [← hxb] at XB_4 ⊢
  clear hxb
  go_upto_region 2 with (fail)
  go_loopw [5] (fun t wr => ∃ i : Nat, i ≤ G.length ∧ t = .int .i64 ((i : Int) + 1) ∧ (∀ a, 1 ≤ a → a ≤ i → ((gr G a).f8 && undR G n.toNat (a : Int)) = false) ∧ Hid (RB wr AG cG G AE cE E) ∧ Hid (Below w.heap.size w wr) ∧ Hid (wr.heap[xb]? = some (.cells #[.slice AG G.length cG, .slice AE E.length cE, .int .i64 day] 51))) (fun t _ => G.length + 1 - (intOf t).toNat)
  case atStart => exact ⟨0, Nat.zero_le _, rfl, fun a h1 h2 => by omega, HR_2, HB_3, XB_4⟩
  case round =>
    obtain ⟨i, hi, rfl, hall, HRr_5, HBr_6, XBr_7⟩ := hrel
    clear HR_2 HB_3 XB_4
    by_cases hlt : i < G.length
    · have hlt2 : (i : Int) + 1 ≤ (G.length : Int) := by omega
      have HALL := lhid hall
      clear hall
      obtain ⟨ad, eA, x0, x1, x2, x3, x4, x5, x6, x7, x8⟩ := at_T39 (HRr_5.out).c (i : Int) (by omega) (by omega)
      subst eA
      simp only [rd_gr, Int.toNat_natCast] at x0 x1 x2 x3 x4 x5 x6 x7 x8
      obtain ⟨z0, z1, z2⟩ := three XBr_7.out
      have hq1 : (0 : Int) ≤ (i : Int) := by omega
      have hq2 : (i : Int) < (G.length : Int) := by omega
      cases hf8 : (gr G (i + 1)).f8
      · rw [hf8] at x8
        go_wp2_with fail
        try any_goals (exfalso; omega)
        clear z0 z1 z2
        clear x0 x1 x2 x3 x4 x5 x6 x7 x8
        go_roundw
        case rel => exact ⟨i + 1, by omega, by simp, fun a h1 h2 => by
          by_cases c : a = i + 1
          · subst c; rw [hf8]; rfl
          · exact HALL.out a h1 (by omega), HRr_5, HBr_6, XBr_7⟩
        case measure => simp [intOf]; omega
      · rw [hf8] at x8
        go_wp2_with fail
        try any_goals (exfalso; omega)
        with_reducible refine (Under_r wr (some ad) cG G AE cE E day n ((i : Int) + 1) HRr_5.out HT.out (by omega) (by omega)).mono ?_
        rintro e w9 ⟨rfl, hb⟩
        clear z0 z1 z2
        clear x0 x1 x2 x3 x4 x5 x6 x7 x8
        have HR_8 := lhid (HRr_5.out.next hb)
        have HB_9 := lhid (below_then HBr_6.out HBr_6.out.size hb)
        have XB_10 := lhid (blk_below XBr_7.out hb)
        clear HRr_5 HBr_6 XBr_7 hb
        cases hu : undR G n.toNat ((i : Int) + 1)
        · go_wp2_with fail
          try any_goals (exfalso; omega)
          go_roundw
          case rel => exact ⟨i + 1, by omega, by simp, fun a h1 h2 => by
            by_cases c : a = i + 1
            · subst c; rw [show ((i + 1 : Nat) : Int) = (i : Int) + 1 by omega, hu, Bool.and_false]
            · exact HALL.out a h1 (by omega), HR_8, HB_9, XB_10⟩
          case measure => simp [intOf]; omega
        · have hr : revB G n.toNat = true := rev_hit (i := i + 1) hf8 (by rw [show ((i + 1 : Nat) : Int) = (i : Int) + 1 by omega]; exact hu)
          go_wp2_with fail
          go_ret
          exact ⟨by first | (rw [hr]; rfl) | rfl, HB_9.out⟩
    · have hie : i = G.length := by omega
      subst hie
      have hlt2 : ¬ ((G.length : Int) + 1 ≤ (G.length : Int)) := by omega
      have hr : revB G n.toNat = false := rev_not HT.out (by omega) hall
      obtain ⟨z0, z1, z2⟩ := three XBr_7.out
      go_wp2_with fail
      go_ret
      exact ⟨by first | (rw [hr]; rfl) | rfl, HBr_6.out⟩
set_option maxHeartbeats 12800000 in
set_option maxRecDepth 100000 in
theorem stands_r (w : World) (AG : Option Addr) (cG : Nat) (G : List S39) (AE : Option Addr) (cE : Nat) (E : List S44) (day : Int) (n : Int) (h : RB w AG cG G AE cE E) (hT : Tree G) (h0 : 1 ≤ n) (h1 : n ≤ G.length) : Calls Try.prog 82 #[.agg #[.slice AG G.length cG, .slice AE E.length cE, .int .i64 day], .int .i64 n] w fun e w' => e = .returned (.bool (stB day G n.toNat)) ∧ Below w.heap.size w w' := by
  obtain ⟨q, hq⟩ : ∃ q : Nat, n = (q : Int) + 1 := ⟨n.toNat - 1, by omega⟩
  have hnn : n.toNat = q + 1 := by omega
  rw [hnn]
  clear hnn
  subst hq
  have hu51 := Try.underlying51
  have hu39 := Try.underlying39
  have hu44 := Try.underlying44
  have HR0 := lhid h
  have HT := lhid hT
  have hgl := hT.1
  clear h hT
  go_enter Try.func82, Try.ntmps82
  have HB_1 := lhid (Below.refl w.heap.size w)
  go_upto_region 1 with (fail)
  have hb := below_alloc (Below.refl w.heap.size w) (.cells #[.slice AG G.length cG, .slice AE E.length cE, .int .i64 day] 51)
  have hn := blk_new w (.cells #[.slice AG G.length cG, .slice AE E.length cE, .int .i64 day] 51)
  have HZ1 := lhid (show (World.alloc w (.cells #[.slice AG G.length cG, .slice AE E.length cE, .int .i64 day] 51)).heap.size = w.heap.size + 1 from by simp)
  generalize hq : World.alloc w (.cells #[.slice AG G.length cG, .slice AE E.length cE, .int .i64 day] 51) = w1 at hb hn HZ1 ⊢
  clear hq
  have HR_2 := lhid (HR0.out.next hb)
  have HB_3 := lhid (below_then HB_1.out HB_1.out.size hb)
  clear HR0 HB_1 hb
  have XB_4 := lhid (hn)
  clear hn
  obtain ⟨xb, hxb⟩ : ∃ q, q = w.heap.size := ⟨_, rfl⟩
  rw [← hxb] at XB_4 ⊢
  clear hxb
  have hwz : wrap64 (q : Int) = (q : Int) := by unfold wrap64; omega
  have hq5 : q < G.length := by omega
  obtain ⟨ad, eA, -⟩ := at_T39 (HR_2.out).c (q : Int) (by omega) (by omega)
  subst eA
  obtain ⟨f, hf⟩ : ∃ f, f = (gr G (q + 1)).f6 := ⟨_, rfl⟩
  have HF := lhid hf
  clear hf
  cases hrv : revB G (q + 1)
  · have hb := below_drew1 (Below.refl w1.heap.size w1)
    have HR_5 := lhid (HR_2.out.next hb)
    have HB_6 := lhid (below_then HB_3.out HB_3.out.size hb)
    have XB_7 := lhid (blk_below XB_4.out hb)
    clear HR_2 HB_3 XB_4 hb
    refine start_ (n := 17) (S := fun w' => w'.cell? ⟨xb, 0, none⟩ = some (.slice (some ad) G.length cG) ∧ w'.cell? ⟨xb, 1, none⟩ = some (.slice AE E.length cE) ∧ w'.cell? ⟨xb, 2, none⟩ = some (.int .i64 day) ∧ w'.cell? ⟨(ad.add (q * 9)).block, (ad.add (q * 9)).off + 6, none⟩ = some (.int .i64 f)) (ds := []) (lsb 17 0) (by kernel_rfl) rfl (by kernel_rfl) ⟨(three XB_7.out).1, (three XB_7.out).2.1, (three XB_7.out).2.2, (by obtain ⟨ad', eA', x0, x1, x2, x3, x4, x5, x6, x7, x8⟩ := at_T39 (HR_5.out).c (q : Int) (by omega) (by omega); cases eA'; rw [rd_gr, Int.toNat_natCast] at x6; rw [HF.out]; exact x6)⟩ (fun hHeld => ?_)
    generalize w1.drew = w2 at HR_5 HB_6 XB_7 hHeld ⊢
    refine pu 1 (some 6) 17 2 rfl rfl (v := ?_) (a' := ?_) ?_ ?_ ?_; rotate_left; (intro w'; go_simp; with_reducible rfl); rotate_left; (simp only [Act.put, pS]; rfl)
    refine tk 0 (some 5) 17 3 rfl rfl hHeld (v := ?_) (a' := ?_) ?_ ?_ ?_; rotate_left; (rintro w' ⟨s0, s1, s2, s3⟩; go_simp; with_reducible rfl); rotate_left; (simp only [Act.put, pS]; rfl)
    refine one_ (i := 2) (N := some 7) (lsb 17 7) rfl rfl (by kernel_rfl) (by decide) (fun K hK => ?_)
    refine goes_ Try.func89 (by kernel_rfl) rfl #[.agg #[.slice (some ad) G.length cG, .slice AE E.length cE, .int .i64 day], .int .i64 ((q : Int) + 1)] (by rfl) rfl rfl (by (try simp only [List.map_toArray, List.map_cons, List.map_nil]); first | done | rfl) ?_
    with_reducible refine (revoked_r _ (some ad) cG G AE cE E day ((q : Int) + 1) HR_5.out HT.out (by omega) (by omega)).mono ?_
    rintro e w9 ⟨rfl, hb⟩
    refine ⟨_, rfl, ?_⟩
    rw [show ((q : Int) + 1).toNat = q + 1 by omega, hrv]
    refine hK.out _ _ ⟨(pw_cell_below hb (three XB_7.out).1), (pw_cell_below hb (three XB_7.out).2.1), (pw_cell_below hb (three XB_7.out).2.2), (pw_cell_below hb (by obtain ⟨ad', eA', x0, x1, x2, x3, x4, x5, x6, x7, x8⟩ := at_T39 (HR_5.out).c (q : Int) (by omega) (by omega); cases eA'; rw [rd_gr, Int.toNat_natCast] at x6; rw [HF.out]; exact x6))⟩ (fun hHeld => ?_)
    clear hK K
    refine norm_ (a' := ?_) ?_ ?_
    rotate_left
    · show Act.put _ (some 7) _ = _
      simp only [Act.put, pS]
      rfl
    refine pu 3 (some 8) 17 15 rfl rfl (v := ?_) (a' := ?_) ?_ ?_ ?_; rotate_left; (intro w'; go_simp; with_reducible rfl); rotate_left; (simp only [Act.put, pS]; rfl)
    refine pu 4 (some 9) 17 31 rfl rfl (v := ?_) (a' := ?_) ?_ ?_ ?_; rotate_left; (intro w'; go_simp; with_reducible rfl); rotate_left; (simp only [Act.put, pS]; rfl)
    refine pu 5 (some 10) 17 63 rfl rfl (v := ?_) (a' := ?_) ?_ ?_ ?_; rotate_left; (intro w'; go_simp; with_reducible rfl); rotate_left; (simp only [Act.put, pS]; rfl)
    refine pu 7 (some 12) 17 191 rfl rfl (v := ?_) (a' := ?_) ?_ ?_ ?_; rotate_left; (intro w'; go_simp; with_reducible rfl); rotate_left; (simp only [Act.put, pS]; rfl)
    refine pu 9 (some 14) 17 703 rfl rfl (v := ?_) (a' := ?_) ?_ ?_ ?_; rotate_left; (intro w'; go_simp; with_reducible rfl); rotate_left; (simp only [Act.put, pS]; rfl)
    refine pu 10 (some 15) 17 1727 rfl rfl (v := ?_) (a' := ?_) ?_ ?_ ?_; rotate_left; (intro w'; go_simp; with_reducible rfl); rotate_left; (simp only [Act.put, pS]; rfl)
    refine tk 6 (some 11) 17 1791 rfl rfl hHeld (v := ?_) (a' := ?_) ?_ ?_ ?_; rotate_left; (rintro w' ⟨s0, s1, s2, s3⟩; go_simp; with_reducible rfl); rotate_left; (simp only [Act.put, pS]; rfl)
    refine tk 8 (some 13) 17 2047 rfl rfl hHeld (v := ?_) (a' := ?_) ?_ ?_ ?_; rotate_left; (rintro w' ⟨s0, s1, s2, s3⟩; go_simp; with_reducible rfl); rotate_left; (simp only [Act.put, pS]; rfl)
    refine pu 11 (some 16) 17 4095 rfl rfl (v := ?_) (a' := ?_) ?_ ?_ ?_; rotate_left; (intro w'; go_simp; with_reducible rfl); rotate_left; (simp only [Act.put, pS]; rfl)
    refine pu 12 (some 17) 17 8191 rfl rfl (v := ?_) (a' := ?_) ?_ ?_ ?_; rotate_left; (intro w'; go_simp; with_reducible rfl); rotate_left; (simp only [Act.put, pS]; rfl)
    refine tk 13 (some 18) 17 16383 rfl rfl hHeld (v := ?_) (a' := ?_) ?_ ?_ ?_; rotate_left; (rintro w' ⟨s0, s1, s2, s3⟩; go_simp; with_reducible rfl); rotate_left; (simp only [Act.put, pS]; rfl)
    refine pu 14 (some 19) 17 32767 rfl rfl (v := ?_) (a' := ?_) ?_ ?_ ?_; rotate_left; (intro w'; go_simp; with_reducible rfl); rotate_left; (simp only [Act.put, pS]; rfl)
    refine pu 15 (some 20) 17 65535 rfl rfl (v := ?_) (a' := ?_) ?_ ?_ ?_; rotate_left; (intro w'; go_simp; with_reducible rfl); rotate_left; (simp only [Act.put, pS]; rfl)
    refine pu 16 (some 4) 17 131071 rfl rfl (v := ?_) (a' := ?_) ?_ ?_ ?_; rotate_left; (intro w'; go_simp; with_reducible rfl); rotate_left; (simp only [Act.put, pS]; rfl)
    refine done_ (by kernel_rfl) ?_
    
    have HR_8 := lhid (HR_5.out.next hb)
    have HB_9 := lhid (below_then HB_6.out HB_6.out.size hb)
    have XB_10 := lhid (blk_below XB_7.out hb)
    clear HR_5 HB_6 XB_7 hb
    go_wp2_with fail
    go_ret
    exact ⟨by unfold stB; rw [← HF.out, hrv]; simp, HB_9.out⟩
  · have hb := below_drew1 (Below.refl w1.heap.size w1)
    have HR_11 := lhid (HR_2.out.next hb)
    have HB_12 := lhid (below_then HB_3.out HB_3.out.size hb)
    have XB_13 := lhid (blk_below XB_4.out hb)
    clear HR_2 HB_3 XB_4 hb
    refine start_ (n := 17) (S := fun w' => w'.cell? ⟨xb, 0, none⟩ = some (.slice (some ad) G.length cG) ∧ w'.cell? ⟨xb, 1, none⟩ = some (.slice AE E.length cE) ∧ w'.cell? ⟨xb, 2, none⟩ = some (.int .i64 day)) (ds := [2]) (lsb 17 0) (by kernel_rfl) rfl (by kernel_rfl) ⟨(three XB_13.out).1, (three XB_13.out).2.1, (three XB_13.out).2.2⟩ (fun hHeld => ?_)
    generalize w1.drew = w2 at HR_11 HB_12 XB_13 hHeld ⊢
    refine pu 1 (some 6) 17 2 rfl rfl (v := ?_) (a' := ?_) ?_ ?_ ?_; rotate_left; (intro w'; go_simp; with_reducible rfl); rotate_left; (simp only [Act.put, pS]; rfl)
    refine tk 0 (some 5) 17 3 rfl rfl hHeld (v := ?_) (a' := ?_) ?_ ?_ ?_; rotate_left; (rintro w' ⟨s0, s1, s2⟩; go_simp; with_reducible rfl); rotate_left; (simp only [Act.put, pS]; rfl)
    refine last_ (i := 2) (N := some 7) (lsb 17 7) rfl rfl (by kernel_rfl) (by decide) (fun K hK => ?_)
    refine goes_ Try.func89 (by kernel_rfl) rfl #[.agg #[.slice (some ad) G.length cG, .slice AE E.length cE, .int .i64 day], .int .i64 ((q : Int) + 1)] (by rfl) rfl rfl (by (try simp only [List.map_toArray, List.map_cons, List.map_nil]); first | done | rfl) ?_
    with_reducible refine (revoked_r _ (some ad) cG G AE cE E day ((q : Int) + 1) HR_11.out HT.out (by omega) (by omega)).mono ?_
    rintro e w9 ⟨rfl, hb⟩
    refine ⟨_, rfl, ?_⟩
    rw [show ((q : Int) + 1).toNat = q + 1 by omega, hrv]
    refine hK.out _ _ ?_
    clear hK K
    refine norm_ (a' := ?_) ?_ ?_
    rotate_left
    · show Act.put _ (some 7) _ = _
      simp only [Act.put, pS]
      rfl
    refine pu 3 (some 8) 17 15 rfl rfl (v := ?_) (a' := ?_) ?_ ?_ ?_; rotate_left; (intro w'; go_simp; with_reducible rfl); rotate_left; (simp only [Act.put, pS]; rfl)
    refine pu 4 (some 9) 17 31 rfl rfl (v := ?_) (a' := ?_) ?_ ?_ ?_; rotate_left; (intro w'; go_simp; with_reducible rfl); rotate_left; (simp only [Act.put, pS]; rfl)
    refine pf 5 (some 10) 17 63 rfl rfl (a' := ?_) ?_ ?_; rotate_left; (simp only [Act.put, pS]; rfl)
    refine pf 6 (some 11) 17 127 rfl rfl (a' := ?_) ?_ ?_; rotate_left; (simp only [Act.put, pS]; rfl)
    refine pf 7 (some 12) 17 255 rfl rfl (a' := ?_) ?_ ?_; rotate_left; (simp only [Act.put, pS]; rfl)
    refine pf 8 (some 13) 17 511 rfl rfl (a' := ?_) ?_ ?_; rotate_left; (simp only [Act.put, pS]; rfl)
    refine pf 9 (some 14) 17 1023 rfl rfl (a' := ?_) ?_ ?_; rotate_left; (simp only [Act.put, pS]; rfl)
    refine pf 10 (some 15) 17 2047 rfl rfl (a' := ?_) ?_ ?_; rotate_left; (simp only [Act.put, pS]; rfl)
    refine pf 11 (some 16) 17 4095 rfl rfl (a' := ?_) ?_ ?_; rotate_left; (simp only [Act.put, pS]; rfl)
    refine pf 12 (some 17) 17 8191 rfl rfl (a' := ?_) ?_ ?_; rotate_left; (simp only [Act.put, pS]; rfl)
    refine pf 13 (some 18) 17 16383 rfl rfl (a' := ?_) ?_ ?_; rotate_left; (simp only [Act.put, pS]; rfl)
    refine pf 14 (some 19) 17 32767 rfl rfl (a' := ?_) ?_ ?_; rotate_left; (simp only [Act.put, pS]; rfl)
    refine pu 15 (some 20) 17 65535 rfl rfl (v := ?_) (a' := ?_) ?_ ?_ ?_; rotate_left; (intro w'; go_simp; with_reducible rfl); rotate_left; (simp only [Act.put, pS]; rfl)
    refine pu 16 (some 4) 17 131071 rfl rfl (v := ?_) (a' := ?_) ?_ ?_ ?_; rotate_left; (intro w'; go_simp; with_reducible rfl); rotate_left; (simp only [Act.put, pS]; rfl)
    refine done_ (by kernel_rfl) ?_
    
    have HR_14 := lhid (HR_11.out.next hb)
    have HB_15 := lhid (below_then HB_12.out HB_12.out.size hb)
    have XB_16 := lhid (blk_below XB_13.out hb)
    clear HR_11 HB_12 XB_13 hb
    go_wp2_with fail
    go_ret
    exact ⟨by unfold stB; rw [hrv]; simp, HB_15.out⟩
set_option maxHeartbeats 12800000 in
set_option maxRecDepth 100000 in
theorem spent_r (w : World) (AG : Option Addr) (cG : Nat) (G : List S39) (AE : Option Addr) (cE : Nat) (E : List S44) (day : Int) (n : Int) (h : RB w AG cG G AE cE E) (hT : Tree G) (hE : EIn G E) (hEl : E.length ≤ 100) (hU : ∀ m : Nat, 1 ≤ m → m ≤ G.length → (gr G m).f7 ≤ 1048576) (h0 : 1 ≤ n) (h1 : n ≤ G.length) : Calls Try.prog 93 #[.agg #[.slice AG G.length cG, .slice AE E.length cE, .int .i64 day], .int .i64 n] w fun e w' => e = .returned (.bool (spR G E n.toNat)) ∧ Below w.heap.size w w' := by
  have HE := lhid hE
  have HU := lhid hU
  clear hE hU
  have hu51 := Try.underlying51
  have hu39 := Try.underlying39
  have hu44 := Try.underlying44
  have HR0 := lhid h
  have HT := lhid hT
  have hgl := hT.1
  clear h hT
  go_enter Try.func93, Try.ntmps93
  have HB_1 := lhid (Below.refl w.heap.size w)
  go_upto_region 1 with (fail)
  have hb := below_alloc (Below.refl w.heap.size w) (.cells #[.slice AG G.length cG, .slice AE E.length cE, .int .i64 day] 51)
  have hn := blk_new w (.cells #[.slice AG G.length cG, .slice AE E.length cE, .int .i64 day] 51)
  have HZ1 := lhid (show (World.alloc w (.cells #[.slice AG G.length cG, .slice AE E.length cE, .int .i64 day] 51)).heap.size = w.heap.size + 1 from by simp)
  generalize hq : World.alloc w (.cells #[.slice AG G.length cG, .slice AE E.length cE, .int .i64 day] 51) = w1 at hb hn HZ1 ⊢
  clear hq
  have HR_2 := lhid (HR0.out.next hb)
  have HB_3 := lhid (below_then HB_1.out HB_1.out.size hb)
  clear HR0 HB_1 hb
  have XB_4 := lhid (hn)
  clear hn
  obtain ⟨xb, hxb⟩ : ∃ q, q = w.heap.size := ⟨_, rfl⟩
  rw [← hxb] at XB_4 ⊢
  clear hxb
  go_upto_region 2 with (fail)
  go_loopw [5] (fun t wr => ∃ i : Nat, i ≤ G.length ∧ t = .int .i64 ((i : Int) + 1) ∧ (∀ a, 1 ≤ a → a ≤ i → (undR G n.toNat (a : Int) && (leftN G E a == 0)) = false) ∧ Hid (RB wr AG cG G AE cE E) ∧ Hid (Below w.heap.size w wr) ∧ Hid (wr.heap[xb]? = some (.cells #[.slice AG G.length cG, .slice AE E.length cE, .int .i64 day] 51))) (fun t _ => G.length + 1 - (intOf t).toNat)
  case atStart => exact ⟨0, Nat.zero_le _, rfl, fun a h1 h2 => by omega, HR_2, HB_3, XB_4⟩
  case round =>
    obtain ⟨i, hi, rfl, hall, HRr_5, HBr_6, XBr_7⟩ := hrel
    clear HR_2 HB_3 XB_4
    by_cases hlt : i < G.length
    · have hlt2 : (i : Int) + 1 ≤ (G.length : Int) := by omega
      have HALL := lhid hall
      clear hall
      obtain ⟨z0, z1, z2⟩ := three XBr_7.out
      go_wp2_with fail
      try any_goals (exfalso; omega)
      with_reducible refine (Under_r wr AG cG G AE cE E day n ((i : Int) + 1) HRr_5.out HT.out (by omega) (by omega)).mono ?_
      rintro e w9 ⟨rfl, hb⟩
      clear z0 z1 z2
      have HR_8 := lhid (HRr_5.out.next hb)
      have HB_9 := lhid (below_then HBr_6.out HBr_6.out.size hb)
      have XB_10 := lhid (blk_below XBr_7.out hb)
      clear HRr_5 HBr_6 XBr_7 hb
      cases hu : undR G n.toNat ((i : Int) + 1)
      · go_wp2_with fail
        try any_goals (exfalso; omega)
        go_roundw
        case rel => exact ⟨i + 1, by omega, by simp, fun a h1 h2 => by
          by_cases c : a = i + 1
          · subst c; rw [show ((i + 1 : Nat) : Int) = (i : Int) + 1 by omega, hu, Bool.false_and]
          · exact HALL.out a h1 (by omega), HR_8, HB_9, XB_10⟩
        case measure => simp [intOf]; omega
      · obtain ⟨z0, z1, z2⟩ := three XB_10.out
        go_wp2_with fail
        try any_goals (exfalso; omega)
        with_reducible refine (left_r w9 AG cG G AE cE E day ((i : Int) + 1) HR_8.out HT.out HE.out (by omega) (by omega) (by omega) (HU.out _ (by omega) (by omega))).mono ?_
        rintro e w10 ⟨rfl, hb⟩
        clear z0 z1 z2
        have HR_11 := lhid (HR_8.out.next hb)
        have HB_12 := lhid (below_then HB_9.out HB_9.out.size hb)
        have XB_13 := lhid (blk_below XB_10.out hb)
        clear HR_8 HB_9 XB_10 hb
        rw [show ((i : Int) + 1).toNat = i + 1 by omega]
        obtain ⟨l, hl⟩ : ∃ l, l = leftN G E (i + 1) := ⟨_, rfl⟩
        rw [← hl]
        by_cases cl : l = 0
        · have hz : (l == 0) = true := beq_iff_eq.2 cl
          have hr : spR G E n.toNat = true := sp_hit (i := i + 1) (by rw [show ((i + 1 : Nat) : Int) = (i : Int) + 1 by omega]; exact hu) (by rw [← hl]; exact hz)
          go_wp2_with fail
          go_ret
          exact ⟨by first | (rw [hr]; rfl) | rfl, HB_12.out⟩
        · have hz : (l == 0) = false := beq_eq_false_iff_ne.2 cl
          go_wp2_with fail
          try any_goals (exfalso; omega)
          go_roundw
          case rel => exact ⟨i + 1, by omega, by simp, fun a h1 h2 => by
            by_cases c : a = i + 1
            · subst c; rw [← hl, hz, Bool.and_false]
            · exact HALL.out a h1 (by omega), HR_11, HB_12, XB_13⟩
          case measure => simp [intOf]; omega
    · have hie : i = G.length := by omega
      subst hie
      have hlt2 : ¬ ((G.length : Int) + 1 ≤ (G.length : Int)) := by omega
      have hr : spR G E n.toNat = false := sp_not HT.out (by omega) hall
      obtain ⟨z0, z1, z2⟩ := three XBr_7.out
      go_wp2_with fail
      go_ret
      exact ⟨by first | (rw [hr]; rfl) | rfl, HBr_6.out⟩
end Go.Proofs.Ytfnlghjkjmppdaa.PC
end
section
namespace Go.Proofs.Ytfnlghjkjmppdaa.PC
open Go.RowKit Go.Proofs.YtfnlghjkjmppdaaW.PrintWords Go.Proofs.YtfnlghjkjmppdaaW.PrintLast Go.Proofs.YtfnlghjkjmppdaaW.PrintMore
set_option linter.unusedVariables false
set_option linter.unusedSimpArgs false
def hasB (G : List S39) (n : Int) : Bool := decide (1 ≤ n) && decide (n ≤ G.length)
theorem hasB_yes {G : List S39} {n : Int} (h : 1 ≤ n ∧ n ≤ G.length) : hasB G n = true := by unfold hasB; rw [decide_eq_true h.1, decide_eq_true h.2]; rfl
theorem hasB_no {G : List S39} {n : Int} (h : ¬ (1 ≤ n ∧ n ≤ G.length)) : hasB G n = false := by
  rw [Bool.eq_false_iff]
  intro q
  unfold hasB at q
  simp only [Bool.and_eq_true, decide_eq_true_eq] at q
  exact h q
def badR (day : Int) (G : List S39) (v : Int) (n : Nat) (by_ : Int) : Bool := ((gr G n).f3 != by_) || !stB day G n || (bits .and .i64 (gr G n).f5 1 == 0) || ((gr G n).f4 / 2 ^ v.toNat).tmod 2 == 0
def keyR (day : Int) (G : List S39) (E : List S44) (v n by_ : Int) : Int := if ¬ (1 ≤ n ∧ n ≤ G.length) then 6 else if badR day G v n.toNat by_ then 12 else if spR G E n.toNat then 8 else 0
def getR (G : List S39) (E : List S44) (n : Nat) : S39 := { gr G n with f7 := leftN G E n }
set_option maxHeartbeats 12800000 in
set_option maxRecDepth 100000 in
theorem has_r (w : World) (AG : Option Addr) (cG : Nat) (G : List S39) (AE : Option Addr) (cE : Nat) (E : List S44) (day : Int) (n : Int) (h : RB w AG cG G AE cE E) (hT : Tree G) : Calls Try.prog 80 #[.agg #[.slice AG G.length cG, .slice AE E.length cE, .int .i64 day], .int .i64 n] w fun e w' => e = .returned (.bool (hasB G n)) ∧ Below w.heap.size w w' := by
  have hu51 := Try.underlying51
  have hu39 := Try.underlying39
  have hu44 := Try.underlying44
  have HR0 := lhid h
  have HT := lhid hT
  have hgl := hT.1
  clear h hT
  go_enter Try.func80, Try.ntmps80
  have HB_1 := lhid (Below.refl w.heap.size w)
  go_upto_region 1 with (fail)
  have hb := below_alloc (Below.refl w.heap.size w) (.cells #[.slice AG G.length cG, .slice AE E.length cE, .int .i64 day] 51)
  have hn := blk_new w (.cells #[.slice AG G.length cG, .slice AE E.length cE, .int .i64 day] 51)
  have HZ1 := lhid (show (World.alloc w (.cells #[.slice AG G.length cG, .slice AE E.length cE, .int .i64 day] 51)).heap.size = w.heap.size + 1 from by simp)
  generalize hq : World.alloc w (.cells #[.slice AG G.length cG, .slice AE E.length cE, .int .i64 day] 51) = w1 at hb hn HZ1 ⊢
  clear hq
  have HR_2 := lhid (HR0.out.next hb)
  have HB_3 := lhid (below_then HB_1.out HB_1.out.size hb)
  clear HR0 HB_1 hb
  have XB_4 := lhid (hn)
  clear hn
  obtain ⟨xb, hxb⟩ : ∃ q, q = w.heap.size := ⟨_, rfl⟩
  rw [← hxb] at XB_4 ⊢
  clear hxb
  obtain ⟨z0, z1, z2⟩ := three XB_4.out
  by_cases c1 : n ≥ 1
  · have d1 : decide (n ≥ 1) = true := decide_eq_true c1
    by_cases c2 : n ≤ (G.length : Int)
    · have d2 : decide (n ≤ (G.length : Int)) = true := decide_eq_true c2
      have hr : hasB G n = true := hasB_yes ⟨c1, c2⟩
      go_wp2_with fail
      go_ret
      exact ⟨by first | (rw [hr]; rfl) | rfl, HB_3.out⟩
    · have d2 : decide (n ≤ (G.length : Int)) = false := decide_eq_false c2
      have hr : hasB G n = false := hasB_no (fun q => c2 q.2)
      go_wp2_with fail
      go_ret
      exact ⟨by first | (rw [hr]; rfl) | rfl, HB_3.out⟩
  · have d1 : decide (n ≥ 1) = false := decide_eq_false c1
    have hr : hasB G n = false := hasB_no (fun q => c1 q.1)
    go_wp2_with fail
    go_ret
    exact ⟨by first | (rw [hr]; rfl) | rfl, HB_3.out⟩
set_option maxHeartbeats 12800000 in
set_option maxRecDepth 100000 in
theorem Stands_r (w : World) (AG : Option Addr) (cG : Nat) (G : List S39) (AE : Option Addr) (cE : Nat) (E : List S44) (day : Int) (n : Int) (h : RB w AG cG G AE cE E) (hT : Tree G) : Calls Try.prog 53 #[.agg #[.slice AG G.length cG, .slice AE E.length cE, .int .i64 day], .int .i64 n] w fun e w' => e = .returned (.tuple (if 1 ≤ n ∧ n ≤ (G.length : Int) then #[.bool (stB day G n.toNat), .int .i64 0] else #[.bool false, .int .i64 6])) ∧ Below w.heap.size w w' := by
  by_cases hr : 1 ≤ n ∧ n ≤ (G.length : Int)
  · rw [if_pos hr]
    have hu51 := Try.underlying51
    have hu39 := Try.underlying39
    have hu44 := Try.underlying44
    have HR0 := lhid h
    have HT := lhid hT
    have hgl := hT.1
    clear h hT
    go_enter Try.func53, Try.ntmps53
    have HB_1 := lhid (Below.refl w.heap.size w)
    go_upto_region 1 with (fail)
    have hb := below_alloc (Below.refl w.heap.size w) (.cells #[.slice AG G.length cG, .slice AE E.length cE, .int .i64 day] 51)
    have hn := blk_new w (.cells #[.slice AG G.length cG, .slice AE E.length cE, .int .i64 day] 51)
    have HZ1 := lhid (show (World.alloc w (.cells #[.slice AG G.length cG, .slice AE E.length cE, .int .i64 day] 51)).heap.size = w.heap.size + 1 from by simp)
    generalize hq : World.alloc w (.cells #[.slice AG G.length cG, .slice AE E.length cE, .int .i64 day] 51) = w1 at hb hn HZ1 ⊢
    clear hq
    have HR_2 := lhid (HR0.out.next hb)
    have HB_3 := lhid (below_then HB_1.out HB_1.out.size hb)
    clear HR0 HB_1 hb
    have XB_4 := lhid (hn)
    clear hn
    obtain ⟨xb, hxb⟩ : ∃ q, q = w.heap.size := ⟨_, rfl⟩
    rw [← hxb] at XB_4 ⊢
    clear hxb
    obtain ⟨z0, z1, z2⟩ := three XB_4.out
    go_wp2_with fail
    have hq := has_r w1 AG cG G AE cE E day n HR_2.out HT.out
    rw [hasB_yes hr] at hq
    have HQ := lhid hq
    clear hq
    with_reducible refine HQ.out.mono ?_
    rintro e w5 ⟨rfl, hb⟩
    clear HQ
    clear z0 z1 z2
    have HR_5 := lhid (HR_2.out.next hb)
    have HB_6 := lhid (below_then HB_3.out HB_3.out.size hb)
    have XB_7 := lhid (blk_below XB_4.out hb)
    clear HR_2 HB_3 XB_4 hb
    obtain ⟨z0, z1, z2⟩ := three XB_7.out
    go_wp2_with fail
    with_reducible refine (stands_r w5 AG cG G AE cE E day n HR_5.out HT.out (by omega) (by omega)).mono ?_
    rintro e w6 ⟨rfl, hb⟩
    clear z0 z1 z2
    have HR_8 := lhid (HR_5.out.next hb)
    have HB_9 := lhid (below_then HB_6.out HB_6.out.size hb)
    have XB_10 := lhid (blk_below XB_7.out hb)
    clear HR_5 HB_6 XB_7 hb
    go_wp2_with fail
    go_ret2
    exact ⟨rfl, HB_9.out⟩
  · rw [if_neg hr]
    have hu51 := Try.underlying51
    have hu39 := Try.underlying39
    have hu44 := Try.underlying44
    have HR0 := lhid h
    have HT := lhid hT
    have hgl := hT.1
    clear h hT
    go_enter Try.func53, Try.ntmps53
    have HB_11 := lhid (Below.refl w.heap.size w)
    go_upto_region 1 with (fail)
    have hb := below_alloc (Below.refl w.heap.size w) (.cells #[.slice AG G.length cG, .slice AE E.length cE, .int .i64 day] 51)
    have hn := blk_new w (.cells #[.slice AG G.length cG, .slice AE E.length cE, .int .i64 day] 51)
    have HZ1 := lhid (show (World.alloc w (.cells #[.slice AG G.length cG, .slice AE E.length cE, .int .i64 day] 51)).heap.size = w.heap.size + 1 from by simp)
    generalize hq : World.alloc w (.cells #[.slice AG G.length cG, .slice AE E.length cE, .int .i64 day] 51) = w1 at hb hn HZ1 ⊢
    clear hq
    have HR_12 := lhid (HR0.out.next hb)
    have HB_13 := lhid (below_then HB_11.out HB_11.out.size hb)
    clear HR0 HB_11 hb
    have XB_14 := lhid (hn)
    clear hn
    obtain ⟨xb, hxb⟩ : ∃ q, q = w.heap.size := ⟨_, rfl⟩
    rw [← hxb] at XB_14 ⊢
    clear hxb
    obtain ⟨z0, z1, z2⟩ := three XB_14.out
    go_wp2_with fail
    have hq := has_r w1 AG cG G AE cE E day n HR_12.out HT.out
    rw [hasB_no hr] at hq
    have HQ := lhid hq
    clear hq
    with_reducible refine HQ.out.mono ?_
    rintro e w5 ⟨rfl, hb⟩
    clear HQ
    clear z0 z1 z2
    have HR_15 := lhid (HR_12.out.next hb)
    have HB_16 := lhid (below_then HB_13.out HB_13.out.size hb)
    have XB_17 := lhid (blk_below XB_14.out hb)
    clear HR_12 HB_13 XB_14 hb
    go_wp2_with fail
    go_ret2
    exact ⟨rfl, HB_16.out⟩
set_option maxHeartbeats 12800000 in
set_option maxRecDepth 100000 in
theorem key_r (w : World) (AG : Option Addr) (cG : Nat) (G : List S39) (AE : Option Addr) (cE : Nat) (E : List S44) (day : Int) (v n by_ : Int) (h : RB w AG cG G AE cE E) (hT : Tree G) (hE : EIn G E) (hEl : E.length ≤ 100) (hU : ∀ m : Nat, 1 ≤ m → m ≤ G.length → (gr G m).f7 ≤ 1048576) (hv0 : 0 ≤ v) (hv1 : v ≤ 15) : Calls Try.prog 84 #[.agg #[.slice AG G.length cG, .slice AE E.length cE, .int .i64 day], .int .i64 v, .int .i64 n, .int .i64 by_] w fun e w' => e = .returned (.int .i64 (keyR day G E v n by_)) ∧ Below w.heap.size w w' := by
  have HE := lhid hE
  have HU := lhid hU
  clear hE hU
  have hu51 := Try.underlying51
  have hu39 := Try.underlying39
  have hu44 := Try.underlying44
  have HR0 := lhid h
  have HT := lhid hT
  have hgl := hT.1
  clear h hT
  go_enter Try.func84, Try.ntmps84
  have HB_1 := lhid (Below.refl w.heap.size w)
  go_upto_region 1 with (fail)
  have hb := below_alloc (Below.refl w.heap.size w) (.cells #[.slice AG G.length cG, .slice AE E.length cE, .int .i64 day] 51)
  have hn := blk_new w (.cells #[.slice AG G.length cG, .slice AE E.length cE, .int .i64 day] 51)
  have HZ1 := lhid (show (World.alloc w (.cells #[.slice AG G.length cG, .slice AE E.length cE, .int .i64 day] 51)).heap.size = w.heap.size + 1 from by simp)
  generalize hq : World.alloc w (.cells #[.slice AG G.length cG, .slice AE E.length cE, .int .i64 day] 51) = w1 at hb hn HZ1 ⊢
  clear hq
  have HR_2 := lhid (HR0.out.next hb)
  have HB_3 := lhid (below_then HB_1.out HB_1.out.size hb)
  clear HR0 HB_1 hb
  have XB_4 := lhid (hn)
  clear hn
  obtain ⟨xb, hxb⟩ : ∃ q, q = w.heap.size := ⟨_, rfl⟩
  rw [← hxb] at XB_4 ⊢
  clear hxb
  by_cases hr : 1 ≤ n ∧ n ≤ (G.length : Int)
  · obtain ⟨z0, z1, z2⟩ := three XB_4.out
    go_wp2_with fail
    have hq := has_r w1 AG cG G AE cE E day n HR_2.out HT.out
    rw [hasB_yes hr] at hq
    have HQ := lhid hq
    clear hq
    with_reducible refine HQ.out.mono ?_
    rintro e w5 ⟨rfl, hb⟩
    clear HQ
    clear z0 z1 z2
    have HR_5 := lhid (HR_2.out.next hb)
    have HB_6 := lhid (below_then HB_3.out HB_3.out.size hb)
    have XB_7 := lhid (blk_below XB_4.out hb)
    clear HR_2 HB_3 XB_4 hb
    obtain ⟨q, hq⟩ : ∃ q : Nat, n = (q : Int) + 1 := ⟨n.toNat - 1, by omega⟩
    subst hq
    have HRG := lhid hr
    obtain ⟨r1, r2⟩ := hr
    have hq1 : (0 : Int) ≤ (q : Int) := by omega
    have hq2 : (q : Int) < (G.length : Int) := by omega
    obtain ⟨ad, eA, x0, x1, x2, x3, x4, x5, x6, x7, x8⟩ := at_T39 (HR_5.out).c (q : Int) (by omega) (by omega)
    subst eA
    simp only [rd_gr, Int.toNat_natCast] at x0 x1 x2 x3 x4 x5 x6 x7 x8
    obtain ⟨x, hx⟩ : ∃ x, x = gr G (q + 1) := ⟨_, rfl⟩
    rw [← hx] at x0 x1 x2 x3 x4 x5 x6 x7 x8
    have HX := lhid hx
    clear hx
    obtain ⟨z0, z1, z2⟩ := three XB_7.out
    go_upto_region 4 with (fail)
    try any_goals (exfalso; omega)
    clear z0 z1 z2
    clear x0 x1 x2 x3 x4 x5 x6 x7 x8
    have hb := below_alloc (Below.refl w5.heap.size w5) (.cells #[.int .i64 x.f0, .int .i64 x.f1, .int .i64 x.f2, .int .i64 x.f3, .int .i64 x.f4, .int .i64 x.f5, .int .i64 x.f6, .int .i64 x.f7, .bool x.f8] 39)
    have hn := blk_new w5 (.cells #[.int .i64 x.f0, .int .i64 x.f1, .int .i64 x.f2, .int .i64 x.f3, .int .i64 x.f4, .int .i64 x.f5, .int .i64 x.f6, .int .i64 x.f7, .bool x.f8] 39)
    have HZ2 := lhid (show (World.alloc w5 (.cells #[.int .i64 x.f0, .int .i64 x.f1, .int .i64 x.f2, .int .i64 x.f3, .int .i64 x.f4, .int .i64 x.f5, .int .i64 x.f6, .int .i64 x.f7, .bool x.f8] 39)).heap.size = w5.heap.size + 1 from by simp)
    generalize hq : World.alloc w5 (.cells #[.int .i64 x.f0, .int .i64 x.f1, .int .i64 x.f2, .int .i64 x.f3, .int .i64 x.f4, .int .i64 x.f5, .int .i64 x.f6, .int .i64 x.f7, .bool x.f8] 39) = w2 at hb hn HZ2 ⊢
    clear hq
    have HR_8 := lhid (HR_5.out.next hb)
    have HB_9 := lhid (below_then HB_6.out HB_6.out.size hb)
    have XB_10 := lhid (blk_below XB_7.out hb)
    clear HR_5 HB_6 XB_7 hb
    have NB_11 := lhid (hn)
    clear hn
    obtain ⟨nb, hnb⟩ : ∃ z, z = w5.heap.size := ⟨_, rfl⟩
    rw [← hnb] at NB_11 ⊢
    clear hnb
    by_cases b1 : x.f3 = by_
    · have d1 : (x.f3 != by_) = false := bne_eq_false_iff_eq.2 b1
      obtain ⟨y0, y1, y2, y3, y4, y5, y6, y7, y8⟩ := nine NB_11.out
      obtain ⟨z0, z1, z2⟩ := three XB_10.out
      go_wp2_with fail
      try any_goals (exfalso; omega)
      have hq := stands_r w2 (some ad) cG G AE cE E day ((q : Int) + 1) HR_8.out HT.out (by omega) (by omega)
      rw [show ((q : Int) + 1).toNat = q + 1 by omega] at hq
      have HQ := lhid hq
      clear hq
      with_reducible refine HQ.out.mono ?_
      rintro e w6 ⟨rfl, hb⟩
      clear HQ
      clear z0 z1 z2
      clear y0 y1 y2 y3 y4 y5 y6 y7 y8
      have HR_12 := lhid (HR_8.out.next hb)
      have HB_13 := lhid (below_then HB_9.out HB_9.out.size hb)
      have XB_14 := lhid (blk_below XB_10.out hb)
      have NB_15 := lhid (blk_below NB_11.out hb)
      clear HR_8 HB_9 XB_10 NB_11 hb
      cases b2 : stB day G (q + 1)
      · have hk : keyR day G E v ((q : Int) + 1) by_ = 12 := by unfold keyR badR; rw [if_neg (fun z => z HRG.out), show ((q : Int) + 1).toNat = q + 1 by omega, ← HX.out]; simp [d1, b2]
        obtain ⟨y0, y1, y2, y3, y4, y5, y6, y7, y8⟩ := nine NB_15.out
        obtain ⟨z0, z1, z2⟩ := three XB_14.out
        go_wp2_with fail
        try any_goals (exfalso; omega)
        go_ret
        exact ⟨by first | (rw [hk]; rfl) | rfl, HB_13.out⟩
      · by_cases b3 : bits .and .i64 x.f5 1 = 0
        · have d3 : (bits .and .i64 x.f5 1 == 0) = true := beq_iff_eq.2 b3
          have hk : keyR day G E v ((q : Int) + 1) by_ = 12 := by unfold keyR badR; rw [if_neg (fun z => z HRG.out), show ((q : Int) + 1).toNat = q + 1 by omega, ← HX.out]; simp [d1, b2, d3]
          obtain ⟨y0, y1, y2, y3, y4, y5, y6, y7, y8⟩ := nine NB_15.out
          obtain ⟨z0, z1, z2⟩ := three XB_14.out
          go_wp2_with fail
          try any_goals (exfalso; omega)
          go_ret
          exact ⟨by first | (rw [hk]; rfl) | rfl, HB_13.out⟩
        · have d3 : (bits .and .i64 x.f5 1 == 0) = false := beq_eq_false_iff_ne.2 b3
          by_cases b4 : (x.f4 / 2 ^ v.toNat).tmod 2 = 0
          · have d4 : ((x.f4 / 2 ^ v.toNat).tmod 2 == 0) = true := beq_iff_eq.2 b4
            have hk : keyR day G E v ((q : Int) + 1) by_ = 12 := by unfold keyR badR; rw [if_neg (fun z => z HRG.out), show ((q : Int) + 1).toNat = q + 1 by omega, ← HX.out]; simp [d1, b2, d3, d4]
            obtain ⟨y0, y1, y2, y3, y4, y5, y6, y7, y8⟩ := nine NB_15.out
            obtain ⟨z0, z1, z2⟩ := three XB_14.out
            go_wp2_with fail
            try any_goals (exfalso; omega)
            go_ret
            exact ⟨by first | (rw [hk]; rfl) | rfl, HB_13.out⟩
          · have d4 : ((x.f4 / 2 ^ v.toNat).tmod 2 == 0) = false := beq_eq_false_iff_ne.2 b4
            obtain ⟨y0, y1, y2, y3, y4, y5, y6, y7, y8⟩ := nine NB_15.out
            obtain ⟨z0, z1, z2⟩ := three XB_14.out
            go_wp2_with fail
            try any_goals (exfalso; omega)
            try any_goals (exfalso; contradiction)
            have hq := spent_r w6 (some ad) cG G AE cE E day ((q : Int) + 1) HR_12.out HT.out HE.out (by omega) HU.out (by omega) (by omega)
            rw [show ((q : Int) + 1).toNat = q + 1 by omega] at hq
            have HQ := lhid hq
            clear hq
            with_reducible refine HQ.out.mono ?_
            rintro e w7 ⟨rfl, hb⟩
            clear HQ
            clear z0 z1 z2
            clear y0 y1 y2 y3 y4 y5 y6 y7 y8
            have HR_16 := lhid (HR_12.out.next hb)
            have HB_17 := lhid (below_then HB_13.out HB_13.out.size hb)
            have XB_18 := lhid (blk_below XB_14.out hb)
            have NB_19 := lhid (blk_below NB_15.out hb)
            clear HR_12 HB_13 XB_14 NB_15 hb
            cases b5 : spR G E (q + 1)
            · have hk : keyR day G E v ((q : Int) + 1) by_ = 0 := by unfold keyR badR; rw [if_neg (fun z => z HRG.out), show ((q : Int) + 1).toNat = q + 1 by omega, ← HX.out]; simp [d1, b2, d3, d4, b5]
              obtain ⟨y0, y1, y2, y3, y4, y5, y6, y7, y8⟩ := nine NB_19.out
              obtain ⟨z0, z1, z2⟩ := three XB_18.out
              go_wp2_with fail
              try any_goals (exfalso; omega)
              go_ret
              exact ⟨by first | (rw [hk]; rfl) | rfl, HB_17.out⟩
            · have hk : keyR day G E v ((q : Int) + 1) by_ = 8 := by unfold keyR badR; rw [if_neg (fun z => z HRG.out), show ((q : Int) + 1).toNat = q + 1 by omega, ← HX.out]; simp [d1, b2, d3, d4, b5]
              obtain ⟨y0, y1, y2, y3, y4, y5, y6, y7, y8⟩ := nine NB_19.out
              obtain ⟨z0, z1, z2⟩ := three XB_18.out
              go_wp2_with fail
              try any_goals (exfalso; omega)
              go_ret
              exact ⟨by first | (rw [hk]; rfl) | rfl, HB_17.out⟩
    · have d1 : (x.f3 != by_) = true := bne_iff_ne.2 b1
      have hk : keyR day G E v ((q : Int) + 1) by_ = 12 := by unfold keyR badR; rw [if_neg (fun z => z HRG.out), show ((q : Int) + 1).toNat = q + 1 by omega, ← HX.out]; simp [d1]
      obtain ⟨y0, y1, y2, y3, y4, y5, y6, y7, y8⟩ := nine NB_11.out
      obtain ⟨z0, z1, z2⟩ := three XB_10.out
      go_wp2_with fail
      try any_goals (exfalso; omega)
      go_ret
      exact ⟨by first | (rw [hk]; rfl) | rfl, HB_9.out⟩
  · obtain ⟨z0, z1, z2⟩ := three XB_4.out
    go_wp2_with fail
    have hq := has_r w1 AG cG G AE cE E day n HR_2.out HT.out
    rw [hasB_no hr] at hq
    have HQ := lhid hq
    clear hq
    with_reducible refine HQ.out.mono ?_
    rintro e w5 ⟨rfl, hb⟩
    clear HQ
    clear z0 z1 z2
    have HR_20 := lhid (HR_2.out.next hb)
    have HB_21 := lhid (below_then HB_3.out HB_3.out.size hb)
    have XB_22 := lhid (blk_below XB_4.out hb)
    clear HR_2 HB_3 XB_4 hb
    have hk : keyR day G E v n by_ = 6 := by unfold keyR; rw [if_pos hr]
    go_wp2_with fail
    go_ret
    exact ⟨by first | (rw [hk]; rfl) | rfl, HB_21.out⟩
end Go.Proofs.Ytfnlghjkjmppdaa.PC
end
section
namespace Go.Proofs.Ytfnlghjkjmppdaa.PC
open Go.RowKit Go.Proofs.YtfnlghjkjmppdaaW.PrintWords Go.Proofs.YtfnlghjkjmppdaaW.PrintLast Go.Proofs.YtfnlghjkjmppdaaW.PrintMore
set_option linter.unusedVariables false
set_option linter.unusedSimpArgs false
theorem take_e (E : List S44) (i : Nat) (h : i < E.length) : E.take (i + 1) = E.take i ++ [E.getD i z44] := by
  rw [List.take_succ_eq_append_getElem h, List.getD_eq_getElem?_getD, List.getElem?_eq_getElem h]; rfl
theorem rd_e (E : List S44) (m : Nat) : rd_T44 E (m : Int) = E.getD m z44 := by unfold rd_T44; rw [Int.toNat_natCast]
set_option maxHeartbeats 12800000 in
set_option maxRecDepth 100000 in
theorem copied_r (w : World) (AG : Option Addr) (cG : Nat) (G : List S39) (AE : Option Addr) (cE : Nat) (E : List S44) (day : Int) (h : RB w AG cG G AE cE E) (hlG : G.length ≤ 128) (hlE : E.length ≤ 100) : Calls Try.prog 90 #[.agg #[.slice AG G.length cG, .slice AE E.length cE, .int .i64 day]] w fun e w' => ∃ A1 c1 A2 c2, e = .returned (.agg #[.slice A1 G.length c1, .slice A2 E.length c2, .int .i64 day]) ∧ Kd.R k39 39 w' w.heap.size (fun _ => True) (.slice A1 G.length c1) G ∧ Kd.R k44 44 w' w.heap.size (fun _ => True) (.slice A2 E.length c2) E ∧ Below w.heap.size w w' := by
  have hu51 := Try.underlying51
  have hu39 := Try.underlying39
  have hu44 := Try.underlying44
  have HRW := lhid h
  clear h
  go_enter Try.func90, Try.ntmps90
  have HB_1 := lhid (Below.refl w.heap.size w)
  go_upto_region 1 with (fail)
  have hb := below_alloc (Below.refl w.heap.size w) (.cells #[.slice AG G.length cG, .slice AE E.length cE, .int .i64 day] 51)
  have hn := blk_new w (.cells #[.slice AG G.length cG, .slice AE E.length cE, .int .i64 day] 51)
  have HZ1 := lhid (show (World.alloc w (.cells #[.slice AG G.length cG, .slice AE E.length cE, .int .i64 day] 51)).heap.size = w.heap.size + 1 from by simp)
  generalize hq : World.alloc w (.cells #[.slice AG G.length cG, .slice AE E.length cE, .int .i64 day] 51) = w1 at hb hn HZ1 ⊢
  clear hq
  have HB_2 := lhid (below_then HB_1.out HB_1.out.size hb)
  clear HB_1 hb
  have XB_3 := lhid (hn)
  clear hn
  obtain ⟨xb, hxb⟩ : ∃ q, q = w.heap.size := ⟨_, rfl⟩
  rw [← hxb] at XB_3 ⊢
  have hb := below_alloc (Below.refl w1.heap.size w1) (.cells #[.slice none 0 0, .slice none 0 0, .int .i64 0] 51)
  have hn := blk_new w1 (.cells #[.slice none 0 0, .slice none 0 0, .int .i64 0] 51)
  have HZ2 := lhid (show (World.alloc w1 (.cells #[.slice none 0 0, .slice none 0 0, .int .i64 0] 51)).heap.size = w1.heap.size + 1 from by simp)
  generalize hq : World.alloc w1 (.cells #[.slice none 0 0, .slice none 0 0, .int .i64 0] 51) = w2 at hb hn HZ2 ⊢
  clear hq
  have HB_4 := lhid (below_then HB_2.out HB_2.out.size hb)
  have XB_5 := lhid (blk_below XB_3.out hb)
  clear HB_2 XB_3 hb
  have RZ_6 := lhid (hn)
  clear hn
  obtain ⟨rb, hrb⟩ : ∃ q, q = xb + 1 := ⟨_, rfl⟩
  rw [show w1.heap.size = rb by rw [hrb, hxb]; exact HZ1.out] at RZ_6
  rw [← hrb]
  have HXE := lhid hxb
  have HRE := lhid hrb
  clear hxb hrb
  obtain ⟨z0, z1, z2⟩ := three XB_5.out
  go_upto_region 3 with (fail)
  clear z0 z1 z2
  have hb := below_alloc (Below.refl w2.heap.size w2) (.cells #[.slice none 0 0, .slice none 0 0, .int .i64 day] 51)
  have hn := blk_new w2 (.cells #[.slice none 0 0, .slice none 0 0, .int .i64 day] 51)
  have HZ3 := lhid (show (World.alloc w2 (.cells #[.slice none 0 0, .slice none 0 0, .int .i64 day] 51)).heap.size = w2.heap.size + 1 from by simp)
  generalize hq : World.alloc w2 (.cells #[.slice none 0 0, .slice none 0 0, .int .i64 day] 51) = w3 at hb hn HZ3 ⊢
  clear hq
  have HB_7 := lhid (below_then HB_4.out HB_4.out.size hb)
  have XB_8 := lhid (blk_below XB_5.out hb)
  have RZ_9 := lhid (blk_below RZ_6.out hb)
  clear HB_4 XB_5 RZ_6 hb
  have NB_10 := lhid (hn)
  clear hn
  obtain ⟨nb, hnb⟩ : ∃ q, q = w2.heap.size := ⟨_, rfl⟩
  rw [← hnb] at NB_10 ⊢
  have HNE := lhid (show w.heap.size ≤ xb ∧ w.heap.size ≤ rb ∧ w.heap.size ≤ nb ∧ xb ≠ nb ∧ rb ≠ nb ∧ xb ≠ rb by have h1 := HZ1.out; have h2 := HZ2.out; have h3 := HXE.out; have h4 := HRE.out; omega)
  clear HXE HRE hnb HZ1 HZ2 HZ3
  have HR0 := lhid (Kd.R_nil k39 39 w3 w.heap.size (fun _ => True))
  go_loopw [4] (fun t wr => ∃ i : Nat, ∃ An : Option Addr, ∃ cn : Nat, i ≤ G.length ∧ t = .int .i64 (i : Int) ∧ Hid (Below w.heap.size w wr) ∧ Hid (wr.heap[xb]? = some (.cells #[.slice AG G.length cG, .slice AE E.length cE, .int .i64 day] 51)) ∧ Hid (wr.heap[rb]? = some (.cells #[.slice none 0 0, .slice none 0 0, .int .i64 0] 51)) ∧ Hid (wr.heap[nb]? = some (.cells #[.slice An i cn, .slice none 0 0, .int .i64 day] 51)) ∧ Hid (Kd.R k39 39 wr w.heap.size (fun _ => True) (.slice An i cn) (G.take i))) (fun t _ => G.length - (intOf t).toNat)
  case atStart => exact ⟨0, none, 0, Nat.zero_le _, rfl, HB_7, XB_8, RZ_9, NB_10, HR0⟩
  case round =>
    obtain ⟨i, An, cn, hi, rfl, HBr_11, XBr_12, RZr_13, NBr_14, HRr_15⟩ := hrel
    clear HB_7 XB_8 RZ_9 NB_10 HR0
    by_cases hlt : i < G.length
    · have hlt2 : (i : Int) < (G.length : Int) := by omega
      obtain ⟨x, hx⟩ : ∃ x, x = gr G (i + 1) := ⟨_, rfl⟩
      have HX := lhid hx
      clear hx
      obtain ⟨ad, eA, -⟩ := at_T39 (RB.next HRW.out HBr_11.out).c (i : Int) (by omega) (by omega)
      subst eA
      obtain ⟨z0, z1, z2⟩ := three XBr_12.out
      go_upto_region 5 with (fail)
      try any_goals (exfalso; omega)
      clear z0 z1 z2
      have hb := below_drew1 (Below.refl wr.heap.size wr)
      have HB_16 := lhid (below_then HBr_11.out HBr_11.out.size hb)
      have XB_17 := lhid (blk_below XBr_12.out hb)
      have RZ_18 := lhid (blk_below RZr_13.out hb)
      have NB_19 := lhid (blk_below NBr_14.out hb)
      have HR_20 := lhid (Kd.R_below HRr_15.out hb)
      clear HBr_11 XBr_12 RZr_13 NBr_14 HRr_15 hb
      refine start_ (n := 11) (S := fun w' => w'.cell? ⟨nb, 0, none⟩ = some (.slice An i cn) ∧ w'.cell? ⟨xb, 0, none⟩ = some (.slice (some ad) G.length cG) ∧ w'.cell? (ad.add (i * 9)) = some (.int .i64 x.f0) ∧ w'.cell? ⟨(ad.add (i * 9)).block, (ad.add (i * 9)).off + 1, none⟩ = some (.int .i64 x.f1) ∧ w'.cell? ⟨(ad.add (i * 9)).block, (ad.add (i * 9)).off + 2, none⟩ = some (.int .i64 x.f2) ∧ w'.cell? ⟨(ad.add (i * 9)).block, (ad.add (i * 9)).off + 3, none⟩ = some (.int .i64 x.f3) ∧ w'.cell? ⟨(ad.add (i * 9)).block, (ad.add (i * 9)).off + 4, none⟩ = some (.int .i64 x.f4) ∧ w'.cell? ⟨(ad.add (i * 9)).block, (ad.add (i * 9)).off + 5, none⟩ = some (.int .i64 x.f5) ∧ w'.cell? ⟨(ad.add (i * 9)).block, (ad.add (i * 9)).off + 6, none⟩ = some (.int .i64 x.f6) ∧ w'.cell? ⟨(ad.add (i * 9)).block, (ad.add (i * 9)).off + 7, none⟩ = some (.int .i64 x.f7) ∧ w'.cell? ⟨(ad.add (i * 9)).block, (ad.add (i * 9)).off + 8, none⟩ = some (.bool x.f8)) (ds := [8, 10]) (lsb 11 0) (by kernel_rfl) rfl (by kernel_rfl) ⟨(three NB_19.out).1, (three XB_17.out).1, (by obtain ⟨ad', eA', x0, x1, x2, x3, x4, x5, x6, x7, x8⟩ := at_T39 (RB.next HRW.out HB_16.out).c (i : Int) (by omega) (by omega); cases eA'; rw [rd_gr, Int.toNat_natCast] at x0; rw [HX.out]; exact x0), (by obtain ⟨ad', eA', x0, x1, x2, x3, x4, x5, x6, x7, x8⟩ := at_T39 (RB.next HRW.out HB_16.out).c (i : Int) (by omega) (by omega); cases eA'; rw [rd_gr, Int.toNat_natCast] at x1; rw [HX.out]; exact x1), (by obtain ⟨ad', eA', x0, x1, x2, x3, x4, x5, x6, x7, x8⟩ := at_T39 (RB.next HRW.out HB_16.out).c (i : Int) (by omega) (by omega); cases eA'; rw [rd_gr, Int.toNat_natCast] at x2; rw [HX.out]; exact x2), (by obtain ⟨ad', eA', x0, x1, x2, x3, x4, x5, x6, x7, x8⟩ := at_T39 (RB.next HRW.out HB_16.out).c (i : Int) (by omega) (by omega); cases eA'; rw [rd_gr, Int.toNat_natCast] at x3; rw [HX.out]; exact x3), (by obtain ⟨ad', eA', x0, x1, x2, x3, x4, x5, x6, x7, x8⟩ := at_T39 (RB.next HRW.out HB_16.out).c (i : Int) (by omega) (by omega); cases eA'; rw [rd_gr, Int.toNat_natCast] at x4; rw [HX.out]; exact x4), (by obtain ⟨ad', eA', x0, x1, x2, x3, x4, x5, x6, x7, x8⟩ := at_T39 (RB.next HRW.out HB_16.out).c (i : Int) (by omega) (by omega); cases eA'; rw [rd_gr, Int.toNat_natCast] at x5; rw [HX.out]; exact x5), (by obtain ⟨ad', eA', x0, x1, x2, x3, x4, x5, x6, x7, x8⟩ := at_T39 (RB.next HRW.out HB_16.out).c (i : Int) (by omega) (by omega); cases eA'; rw [rd_gr, Int.toNat_natCast] at x6; rw [HX.out]; exact x6), (by obtain ⟨ad', eA', x0, x1, x2, x3, x4, x5, x6, x7, x8⟩ := at_T39 (RB.next HRW.out HB_16.out).c (i : Int) (by omega) (by omega); cases eA'; rw [rd_gr, Int.toNat_natCast] at x7; rw [HX.out]; exact x7), (by obtain ⟨ad', eA', x0, x1, x2, x3, x4, x5, x6, x7, x8⟩ := at_T39 (RB.next HRW.out HB_16.out).c (i : Int) (by omega) (by omega); cases eA'; rw [rd_gr, Int.toNat_natCast] at x8; rw [HX.out]; exact x8)⟩ (fun hHeld => ?_)
      generalize wr.drew = w4 at HB_16 XB_17 RZ_18 NB_19 HR_20 hHeld ⊢
      refine pu 0 (some 16) 11 1 rfl rfl (v := ?_) (a' := ?_) ?_ ?_ ?_; rotate_left; (intro w'; go_simp; with_reducible rfl); rotate_left; (simp only [Act.put, pS]; rfl)
      refine pu 2 (some 18) 11 5 rfl rfl (v := ?_) (a' := ?_) ?_ ?_ ?_; rotate_left; (intro w'; go_simp; with_reducible rfl); rotate_left; (simp only [Act.put, pS]; rfl)
      refine pu 4 (some 20) 11 21 rfl rfl (v := ?_) (a' := ?_) ?_ ?_ ?_; rotate_left; (intro w'; go_simp; with_reducible rfl); rotate_left; (simp only [Act.put, pS]; rfl)
      refine tk 1 (some 17) 11 23 rfl rfl hHeld (v := ?_) (a' := ?_) ?_ ?_ ?_; rotate_left; (rintro w' ⟨s0, s1, s2, s3, s4, s5, s6, s7, s8, s9, s10⟩; go_simp; with_reducible rfl); rotate_left; (simp only [Act.put, pS]; rfl)
      refine tk 3 (some 19) 11 31 rfl rfl hHeld (v := ?_) (a' := ?_) ?_ ?_ ?_; rotate_left; (rintro w' ⟨s0, s1, s2, s3, s4, s5, s6, s7, s8, s9, s10⟩; go_simp; with_reducible rfl); rotate_left; (simp only [Act.put, pS]; rfl)
      refine pu 5 (some 21) 11 63 rfl rfl (v := ?_) (a' := ?_) ?_ ?_ ?_; rotate_left; (intro w'; go_simp; with_reducible rfl); rotate_left; (simp only [Act.put, pS]; rfl)
      refine tk 6 (some 22) 11 127 rfl rfl hHeld (v := ?_) (a' := ?_) ?_ ?_ ?_; rotate_left; (rintro w' ⟨s0, s1, s2, s3, s4, s5, s6, s7, s8, s9, s10⟩; go_simp; with_reducible rfl); rotate_left; (simp only [Act.put, pS]; rfl)
      refine one_ (i := 7) (N := some 23) (lsb 11 255) rfl rfl (by kernel_rfl) (by decide) (fun K hK => ?_)
      refine value_ (w1 := ?_) (v := ?_) (by rfl) rfl ?_ ?_
      rotate_left 2
      · go_simp
        constructor
        · rfl
        · rfl
      refine hK.out _ _ ⟨(pw_cell_below (below_alloc (Below.refl _ _) _) (three NB_19.out).1), (pw_cell_below (below_alloc (Below.refl _ _) _) (three XB_17.out).1), (pw_cell_below (below_alloc (Below.refl _ _) _) (by obtain ⟨ad', eA', x0, x1, x2, x3, x4, x5, x6, x7, x8⟩ := at_T39 (RB.next HRW.out HB_16.out).c (i : Int) (by omega) (by omega); cases eA'; rw [rd_gr, Int.toNat_natCast] at x0; rw [HX.out]; exact x0)), (pw_cell_below (below_alloc (Below.refl _ _) _) (by obtain ⟨ad', eA', x0, x1, x2, x3, x4, x5, x6, x7, x8⟩ := at_T39 (RB.next HRW.out HB_16.out).c (i : Int) (by omega) (by omega); cases eA'; rw [rd_gr, Int.toNat_natCast] at x1; rw [HX.out]; exact x1)), (pw_cell_below (below_alloc (Below.refl _ _) _) (by obtain ⟨ad', eA', x0, x1, x2, x3, x4, x5, x6, x7, x8⟩ := at_T39 (RB.next HRW.out HB_16.out).c (i : Int) (by omega) (by omega); cases eA'; rw [rd_gr, Int.toNat_natCast] at x2; rw [HX.out]; exact x2)), (pw_cell_below (below_alloc (Below.refl _ _) _) (by obtain ⟨ad', eA', x0, x1, x2, x3, x4, x5, x6, x7, x8⟩ := at_T39 (RB.next HRW.out HB_16.out).c (i : Int) (by omega) (by omega); cases eA'; rw [rd_gr, Int.toNat_natCast] at x3; rw [HX.out]; exact x3)), (pw_cell_below (below_alloc (Below.refl _ _) _) (by obtain ⟨ad', eA', x0, x1, x2, x3, x4, x5, x6, x7, x8⟩ := at_T39 (RB.next HRW.out HB_16.out).c (i : Int) (by omega) (by omega); cases eA'; rw [rd_gr, Int.toNat_natCast] at x4; rw [HX.out]; exact x4)), (pw_cell_below (below_alloc (Below.refl _ _) _) (by obtain ⟨ad', eA', x0, x1, x2, x3, x4, x5, x6, x7, x8⟩ := at_T39 (RB.next HRW.out HB_16.out).c (i : Int) (by omega) (by omega); cases eA'; rw [rd_gr, Int.toNat_natCast] at x5; rw [HX.out]; exact x5)), (pw_cell_below (below_alloc (Below.refl _ _) _) (by obtain ⟨ad', eA', x0, x1, x2, x3, x4, x5, x6, x7, x8⟩ := at_T39 (RB.next HRW.out HB_16.out).c (i : Int) (by omega) (by omega); cases eA'; rw [rd_gr, Int.toNat_natCast] at x6; rw [HX.out]; exact x6)), (pw_cell_below (below_alloc (Below.refl _ _) _) (by obtain ⟨ad', eA', x0, x1, x2, x3, x4, x5, x6, x7, x8⟩ := at_T39 (RB.next HRW.out HB_16.out).c (i : Int) (by omega) (by omega); cases eA'; rw [rd_gr, Int.toNat_natCast] at x7; rw [HX.out]; exact x7)), (pw_cell_below (below_alloc (Below.refl _ _) _) (by obtain ⟨ad', eA', x0, x1, x2, x3, x4, x5, x6, x7, x8⟩ := at_T39 (RB.next HRW.out HB_16.out).c (i : Int) (by omega) (by omega); cases eA'; rw [rd_gr, Int.toNat_natCast] at x8; rw [HX.out]; exact x8))⟩ (fun hHeld => ?_)
      clear hK K
      refine norm_ (a' := ?_) ?_ ?_
      rotate_left
      · show Act.put _ (some 23) _ = _
        simp only [Act.put, pS]
        rfl
      refine last_ (i := 8) (N := some 24) (lsb 11 511) rfl rfl (by kernel_rfl) (by decide) (fun K hK => ?_)
      refine Kd.R_append_step k39 (w0 := w) w.heap.size (by rfl) (.tmp 17) (.tmp 23) 33 39 (.agg #[(.int .i64 0), (.int .i64 0), (.int .i64 0), (.int .i64 0), (.int .i64 0), (.int .i64 0), (.int .i64 0), (.int .i64 0), (.bool false)]) 72 rfl Try.underlying33 info39 rfl (by decide) (by omega) (.slice An i cn) (G.take i) x [.int .i64 x.f0, .int .i64 x.f1, .int .i64 x.f2, .int .i64 x.f3, .int .i64 x.f4, .int .i64 x.f5, .int .i64 x.f6, .int .i64 x.f7, .bool x.f8] (fun _ => True) (fun _ => False) rfl rfl ?aP ?aF0 ?aF ?aO ?aB ?aS ?aL ?_
      (case aP => exact k39_mkM _ _ _ x)
      (case aF0 => exact fun _ hk => hk.elim)
      (case aF => exact fun _ _ => trivial)
      (case aO => exact HR_20.out)
      (case aB => exact HB_16.out)
      (case aS => exact HB_16.out.size)
      (case aL => rw [List.length_take]; omega)
      intro v4 w4 ho4 hb4 hg4 hat4
      rw [HX.out, ← take_gr G i hlt] at ho4
      obtain ⟨A4, c4, hv4⟩ := Kd.R_slice ho4
      rw [List.length_take, Nat.min_eq_left (by omega)] at hv4
      subst hv4
      have HR4 := lhid ho4
      have HB4 := lhid hb4
      have NB4 := lhid (blk_grown NB_19.out hg4 (Kd.R_ne HR_20.out NB_19.out (by decide)))
      have XB4 := lhid (blk_grown XB_17.out hg4 (Kd.R_ne HR_20.out XB_17.out (by decide)))
      have RZ4 := lhid (blk_grown RZ_18.out hg4 (Kd.R_ne HR_20.out RZ_18.out (by decide)))
      clear ho4 hb4 hg4 hat4
      refine hK.out _ _ ?_
      clear hK K
      refine norm_ (a' := ?_) ?_ ?_
      rotate_left
      · show Act.put _ (some 24) _ = _
        simp only [Act.put, pS]
        rfl
      refine pu 9 (some 25) 11 1023 rfl rfl (v := ?_) (a' := ?_) ?_ ?_ ?_; rotate_left; (intro w'; go_simp; with_reducible rfl); rotate_left; (simp only [Act.put, pS]; rfl)
      refine last_ (i := 10) (N := none) (lsb 11 2047) rfl rfl (by kernel_rfl) (by decide) (fun K hK => ?_)
      have hk2 := (three NB4.out).1
      have hf2 := blk_frozen NB4.out 0
      refine skip_ (w1 := ?_) (by rfl) rfl ?_ ?_
      rotate_left
      · go_simp
        rfl
      clear hk2 hf2
      refine hK.out _ _ ?_
      clear hK K
      refine done_ (by kernel_rfl) ?_
      
      have NB6 := lhid (show (w4.setCell ⟨nb, 0, none⟩ (.slice A4 (i + 1) c4)).heap[nb]? = some (.cells #[.slice A4 (i + 1) c4, .slice none 0 0, .int .i64 day] 51) from blk_put NB4.out 0 (.slice A4 (i + 1) c4) rfl)
      have XB6 := lhid (blk_far XB4.out (p := ⟨nb, 0, none⟩) HNE.out.2.2.2.1 (.slice A4 (i + 1) c4))
      have RZ6 := lhid (blk_far RZ4.out (p := ⟨nb, 0, none⟩) HNE.out.2.2.2.2.1 (.slice A4 (i + 1) c4))
      have HR6 := lhid (Kd.R_set HR4.out NB4.out (by decide) 0 (.slice A4 (i + 1) c4))
      have HB6 := lhid (HB4.out.setCell (p := ⟨nb, 0, none⟩) HNE.out.2.2.1 (.slice A4 (i + 1) c4))
      generalize World.setCell w4 ⟨nb, 0, none⟩ (.slice A4 (i + 1) c4) = w6 at NB6 XB6 RZ6 HR6 HB6 ⊢
      go_wp2_with fail
      try any_goals (exfalso; omega)
      go_roundw
      case rel => exact ⟨i + 1, A4, c4, by omega, by simp, HB6, XB6, RZ6, NB6, HR6⟩
      case measure => simp [intOf]; omega
    · have hie : i = G.length := by omega
      subst hie
      rw [List.take_length] at HRr_15
      have hlt2 : ¬ (G.length : Int) < (G.length : Int) := by omega
      obtain ⟨A1, hA1⟩ : ∃ q, q = An := ⟨_, rfl⟩
      subst hA1
      obtain ⟨c1, hc1⟩ : ∃ q, q = cn := ⟨_, rfl⟩
      subst hc1
      obtain ⟨z0, z1, z2⟩ := three XBr_12.out
      go_upto_region 7 with (fail)
      clear hlt2 hlt hi
      clear z0 z1 z2
      have HR1 := lhid (Kd.R_nil k44 44 wr w.heap.size (fun _ => True))
      go_loopw [5] (fun t wr => ∃ i : Nat, ∃ An : Option Addr, ∃ cn : Nat, i ≤ E.length ∧ t = .int .i64 (i : Int) ∧ Hid (Below w.heap.size w wr) ∧ Hid (wr.heap[xb]? = some (.cells #[.slice AG G.length cG, .slice AE E.length cE, .int .i64 day] 51)) ∧ Hid (wr.heap[rb]? = some (.cells #[.slice none 0 0, .slice none 0 0, .int .i64 0] 51)) ∧ Hid (wr.heap[nb]? = some (.cells #[.slice A1 G.length c1, .slice An i cn, .int .i64 day] 51)) ∧ Hid (Kd.R k44 44 wr w.heap.size (fun _ => True) (.slice An i cn) (E.take i)) ∧ Hid (Kd.R k39 39 wr w.heap.size (fun _ => True) (.slice A1 G.length c1) G)) (fun t _ => E.length - (intOf t).toNat)
      case atStart => exact ⟨0, none, 0, Nat.zero_le _, rfl, HBr_11, XBr_12, RZr_13, NBr_14, HR1, HRr_15⟩
      case round =>
        obtain ⟨i, An, cn, hi, rfl, HBr_21, XBr_22, RZr_23, NBr_24, HRr_25, HGr_26⟩ := hrel
        clear HBr_11 XBr_12 RZr_13 NBr_14 HR1 HRr_15
        by_cases hlt : i < E.length
        · have hlt2 : (i : Int) < (E.length : Int) := by omega
          obtain ⟨x, hx⟩ : ∃ x, x = E.getD i z44 := ⟨_, rfl⟩
          have HX := lhid hx
          clear hx
          obtain ⟨ad, eA, -⟩ := at_T44 (RB.next HRW.out HBr_21.out).e (i : Int) (by omega) (by omega)
          subst eA
          obtain ⟨z0, z1, z2⟩ := three XBr_22.out
          go_upto_region 9 with (fail)
          try any_goals (exfalso; omega)
          clear z0 z1 z2
          have hb := below_drew1 (Below.refl wr.heap.size wr)
          have HB_27 := lhid (below_then HBr_21.out HBr_21.out.size hb)
          have XB_28 := lhid (blk_below XBr_22.out hb)
          have RZ_29 := lhid (blk_below RZr_23.out hb)
          have NB_30 := lhid (blk_below NBr_24.out hb)
          have HR_31 := lhid (Kd.R_below HRr_25.out hb)
          have HG_32 := lhid (Kd.R_below HGr_26.out hb)
          clear HBr_21 XBr_22 RZr_23 NBr_24 HRr_25 HGr_26 hb
          refine start_ (n := 11) (S := fun w' => w'.cell? ⟨nb, 1, none⟩ = some (.slice An i cn) ∧ w'.cell? ⟨xb, 1, none⟩ = some (.slice (some ad) E.length cE) ∧ w'.cell? (ad.add (i * 4)) = some (.int .i64 x.f0) ∧ w'.cell? ⟨(ad.add (i * 4)).block, (ad.add (i * 4)).off + 1, none⟩ = some (.int .i64 x.f1) ∧ w'.cell? ⟨(ad.add (i * 4)).block, (ad.add (i * 4)).off + 2, none⟩ = some (.int .i64 x.f2) ∧ w'.cell? ⟨(ad.add (i * 4)).block, (ad.add (i * 4)).off + 3, none⟩ = some (.int .i64 x.f3)) (ds := [8, 10]) (lsb 11 0) (by kernel_rfl) rfl (by kernel_rfl) ⟨(three NB_30.out).2.1, (three XB_28.out).2.1, (by obtain ⟨ad', eA', x0, x1, x2, x3⟩ := at_T44 (RB.next HRW.out HB_27.out).e (i : Int) (by omega) (by omega); cases eA'; rw [rd_e, Int.toNat_natCast] at x0; rw [HX.out]; exact x0), (by obtain ⟨ad', eA', x0, x1, x2, x3⟩ := at_T44 (RB.next HRW.out HB_27.out).e (i : Int) (by omega) (by omega); cases eA'; rw [rd_e, Int.toNat_natCast] at x1; rw [HX.out]; exact x1), (by obtain ⟨ad', eA', x0, x1, x2, x3⟩ := at_T44 (RB.next HRW.out HB_27.out).e (i : Int) (by omega) (by omega); cases eA'; rw [rd_e, Int.toNat_natCast] at x2; rw [HX.out]; exact x2), (by obtain ⟨ad', eA', x0, x1, x2, x3⟩ := at_T44 (RB.next HRW.out HB_27.out).e (i : Int) (by omega) (by omega); cases eA'; rw [rd_e, Int.toNat_natCast] at x3; rw [HX.out]; exact x3)⟩ (fun hHeld => ?_)
          generalize wr.drew = w4 at HB_27 XB_28 RZ_29 NB_30 HR_31 HG_32 hHeld ⊢
          refine pu 0 (some 33) 11 1 rfl rfl (v := ?_) (a' := ?_) ?_ ?_ ?_; rotate_left; (intro w'; go_simp; with_reducible rfl); rotate_left; (simp only [Act.put, pS]; rfl)
          refine pu 2 (some 35) 11 5 rfl rfl (v := ?_) (a' := ?_) ?_ ?_ ?_; rotate_left; (intro w'; go_simp; with_reducible rfl); rotate_left; (simp only [Act.put, pS]; rfl)
          refine pu 4 (some 37) 11 21 rfl rfl (v := ?_) (a' := ?_) ?_ ?_ ?_; rotate_left; (intro w'; go_simp; with_reducible rfl); rotate_left; (simp only [Act.put, pS]; rfl)
          refine tk 1 (some 34) 11 23 rfl rfl hHeld (v := ?_) (a' := ?_) ?_ ?_ ?_; rotate_left; (rintro w' ⟨s0, s1, s2, s3, s4, s5⟩; go_simp; with_reducible rfl); rotate_left; (simp only [Act.put, pS]; rfl)
          refine tk 3 (some 36) 11 31 rfl rfl hHeld (v := ?_) (a' := ?_) ?_ ?_ ?_; rotate_left; (rintro w' ⟨s0, s1, s2, s3, s4, s5⟩; go_simp; with_reducible rfl); rotate_left; (simp only [Act.put, pS]; rfl)
          refine pu 5 (some 38) 11 63 rfl rfl (v := ?_) (a' := ?_) ?_ ?_ ?_; rotate_left; (intro w'; go_simp; with_reducible rfl); rotate_left; (simp only [Act.put, pS]; rfl)
          refine tk 6 (some 39) 11 127 rfl rfl hHeld (v := ?_) (a' := ?_) ?_ ?_ ?_; rotate_left; (rintro w' ⟨s0, s1, s2, s3, s4, s5⟩; go_simp; with_reducible rfl); rotate_left; (simp only [Act.put, pS]; rfl)
          refine one_ (i := 7) (N := some 40) (lsb 11 255) rfl rfl (by kernel_rfl) (by decide) (fun K hK => ?_)
          refine value_ (w1 := ?_) (v := ?_) (by rfl) rfl ?_ ?_
          rotate_left 2
          · go_simp
            constructor
            · rfl
            · rfl
          refine hK.out _ _ ⟨(pw_cell_below (below_alloc (Below.refl _ _) _) (three NB_30.out).2.1), (pw_cell_below (below_alloc (Below.refl _ _) _) (three XB_28.out).2.1), (pw_cell_below (below_alloc (Below.refl _ _) _) (by obtain ⟨ad', eA', x0, x1, x2, x3⟩ := at_T44 (RB.next HRW.out HB_27.out).e (i : Int) (by omega) (by omega); cases eA'; rw [rd_e, Int.toNat_natCast] at x0; rw [HX.out]; exact x0)), (pw_cell_below (below_alloc (Below.refl _ _) _) (by obtain ⟨ad', eA', x0, x1, x2, x3⟩ := at_T44 (RB.next HRW.out HB_27.out).e (i : Int) (by omega) (by omega); cases eA'; rw [rd_e, Int.toNat_natCast] at x1; rw [HX.out]; exact x1)), (pw_cell_below (below_alloc (Below.refl _ _) _) (by obtain ⟨ad', eA', x0, x1, x2, x3⟩ := at_T44 (RB.next HRW.out HB_27.out).e (i : Int) (by omega) (by omega); cases eA'; rw [rd_e, Int.toNat_natCast] at x2; rw [HX.out]; exact x2)), (pw_cell_below (below_alloc (Below.refl _ _) _) (by obtain ⟨ad', eA', x0, x1, x2, x3⟩ := at_T44 (RB.next HRW.out HB_27.out).e (i : Int) (by omega) (by omega); cases eA'; rw [rd_e, Int.toNat_natCast] at x3; rw [HX.out]; exact x3))⟩ (fun hHeld => ?_)
          clear hK K
          refine norm_ (a' := ?_) ?_ ?_
          rotate_left
          · show Act.put _ (some 40) _ = _
            simp only [Act.put, pS]
            rfl
          refine last_ (i := 8) (N := some 41) (lsb 11 511) rfl rfl (by kernel_rfl) (by decide) (fun K hK => ?_)
          refine Kd.R_append_step k44 (w0 := w) w.heap.size (by rfl) (.tmp 34) (.tmp 40) 40 44 (.agg #[(.int .i64 0), (.int .i64 0), (.int .i64 0), (.int .i64 0)]) 32 rfl Try.underlying40 info44 rfl (by decide) (by omega) (.slice An i cn) (E.take i) x [.int .i64 x.f0, .int .i64 x.f1, .int .i64 x.f2, .int .i64 x.f3] (fun _ => True) (fun _ => False) rfl rfl ?aP ?aF0 ?aF ?aO ?aB ?aS ?aL ?_
          (case aP => exact k44_mkM _ _ _ x)
          (case aF0 => exact fun _ hk => hk.elim)
          (case aF => exact fun _ _ => trivial)
          (case aO => exact HR_31.out)
          (case aB => exact HB_27.out)
          (case aS => exact HB_27.out.size)
          (case aL => rw [List.length_take]; omega)
          intro v4 w4 ho4 hb4 hg4 hat4
          rw [HX.out, ← take_e E i hlt] at ho4
          obtain ⟨A4, c4, hv4⟩ := Kd.R_slice ho4
          rw [List.length_take, Nat.min_eq_left (by omega)] at hv4
          subst hv4
          have HR4 := lhid ho4
          have HB4 := lhid hb4
          have NB4 := lhid (blk_grown NB_30.out hg4 (Kd.R_ne HR_31.out NB_30.out (by decide)))
          have XB4 := lhid (blk_grown XB_28.out hg4 (Kd.R_ne HR_31.out XB_28.out (by decide)))
          have RZ4 := lhid (blk_grown RZ_29.out hg4 (Kd.R_ne HR_31.out RZ_29.out (by decide)))
          have HG4 := lhid (Kd.R_grown2 HG_32.out rfl hg4 (fun z hz e_ => by rcases own_type_ne (Kd.R_own HR_31.out).choose_spec (Kd.R_own HG_32.out).choose_spec (by decide) with q | q; (rw [q] at hz; cases hz); exact q (hz.trans e_)))
          clear ho4 hb4 hg4 hat4
          refine hK.out _ _ ?_
          clear hK K
          refine norm_ (a' := ?_) ?_ ?_
          rotate_left
          · show Act.put _ (some 41) _ = _
            simp only [Act.put, pS]
            rfl
          refine pu 9 (some 42) 11 1023 rfl rfl (v := ?_) (a' := ?_) ?_ ?_ ?_; rotate_left; (intro w'; go_simp; with_reducible rfl); rotate_left; (simp only [Act.put, pS]; rfl)
          refine last_ (i := 10) (N := none) (lsb 11 2047) rfl rfl (by kernel_rfl) (by decide) (fun K hK => ?_)
          have hk2 := (three NB4.out).2.1
          have hf2 := blk_frozen NB4.out 1
          refine skip_ (w1 := ?_) (by rfl) rfl ?_ ?_
          rotate_left
          · go_simp
            rfl
          clear hk2 hf2
          refine hK.out _ _ ?_
          clear hK K
          refine done_ (by kernel_rfl) ?_
          
          have NB6 := lhid (show (w4.setCell ⟨nb, 1, none⟩ (.slice A4 (i + 1) c4)).heap[nb]? = some (.cells #[.slice A1 G.length c1, .slice A4 (i + 1) c4, .int .i64 day] 51) from blk_put NB4.out 1 (.slice A4 (i + 1) c4) rfl)
          have XB6 := lhid (blk_far XB4.out (p := ⟨nb, 1, none⟩) HNE.out.2.2.2.1 (.slice A4 (i + 1) c4))
          have RZ6 := lhid (blk_far RZ4.out (p := ⟨nb, 1, none⟩) HNE.out.2.2.2.2.1 (.slice A4 (i + 1) c4))
          have HR6 := lhid (Kd.R_set HR4.out NB4.out (by decide) 1 (.slice A4 (i + 1) c4))
          have HB6 := lhid (HB4.out.setCell (p := ⟨nb, 1, none⟩) HNE.out.2.2.1 (.slice A4 (i + 1) c4))
          have HG6 := lhid (Kd.R_set HG4.out NB4.out (by decide) 1 (.slice A4 (i + 1) c4))
          generalize World.setCell w4 ⟨nb, 1, none⟩ (.slice A4 (i + 1) c4) = w6 at NB6 XB6 RZ6 HR6 HB6 HG6 ⊢
          go_wp2_with fail
          try any_goals (exfalso; omega)
          go_roundw
          case rel => exact ⟨i + 1, A4, c4, by omega, by simp, HB6, XB6, RZ6, NB6, HR6, HG6⟩
          case measure => simp [intOf]; omega
        · have hie : i = E.length := by omega
          subst hie
          rw [List.take_length] at HRr_25
          have hlt2 : ¬ (E.length : Int) < (E.length : Int) := by omega
          obtain ⟨n0, n1, n2⟩ := three NBr_24.out
          obtain ⟨r0, r1, r2⟩ := three RZr_23.out
          have hfz : ∀ o, wr.frozen? ⟨rb, o, none⟩ = false := fun o => blk_frozen RZr_23.out o
          obtain ⟨z0, z1, z2⟩ := three XBr_22.out
          go_wp2_with fail
          clear z0 z1 z2
          clear n0 n1 n2 r0 r1 r2 hfz hlt2
          have hz1 := blk_put RZr_23.out 0 (.slice A1 G.length c1) rfl
          have hz2 := blk_put hz1 1 (.slice An E.length cn) rfl
          have hz3 := blk_put hz2 2 (.int .i64 day) rfl
          have hHG := Kd.R_set (Kd.R_set (Kd.R_set HGr_26.out RZr_23.out (by decide) 0 (.slice A1 G.length c1)) hz1 (by decide) 1 (.slice An E.length cn)) hz2 (by decide) 2 (.int .i64 day)
          have hHR := Kd.R_set (Kd.R_set (Kd.R_set HRr_25.out RZr_23.out (by decide) 0 (.slice A1 G.length c1)) hz1 (by decide) 1 (.slice An E.length cn)) hz2 (by decide) 2 (.int .i64 day)
          have hB := ((HBr_21.out.setCell (p := ⟨rb, 0, none⟩) HNE.out.2.1 (.slice A1 G.length c1)).setCell (p := ⟨rb, 1, none⟩) HNE.out.2.1 (.slice An E.length cn)).setCell (p := ⟨rb, 2, none⟩) HNE.out.2.1 (.int .i64 day)
          clear hz1 hz2
          generalize (World.setCell (World.setCell (World.setCell wr ⟨rb, 0, none⟩ (.slice A1 G.length c1)) ⟨rb, 1, none⟩ (.slice An E.length cn)) ⟨rb, 2, none⟩ (.int .i64 day)) = w9 at hz3 hHG hHR hB ⊢
          refine bodyPost_ret (results_cell_row rfl _ _ rb 51 #[.slice A1 G.length c1, .slice An E.length cn, .int .i64 day] (0, 0) _ rfl hz3 Try.underlying51 rfl (by kernel_rfl)) rfl ?_
          exact ⟨A1, c1, An, cn, rfl, hHG, hHR, hB⟩
end Go.Proofs.Ytfnlghjkjmppdaa.PC
end
