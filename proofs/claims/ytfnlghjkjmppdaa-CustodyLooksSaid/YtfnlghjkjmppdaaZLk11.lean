/-
  The texts that the theorem in YtfnlghjkjmppdaaZRowLk rests on, merged (part 12); only what it reaches.
-/
import Derived.Test.YtfnlghjkjmppdaaZLk8
import Derived.Test.YtfnlghjkjmppdaaZLk9
import Derived.Test.YtfnlghjkjmppdaaZLk10
section
namespace Go.Proofs.Ytfnlghjkjmppdaa.PC
open Go.RowKit Go.Proofs.YtfnlghjkjmppdaaW.PrintWords Go.Proofs.YtfnlghjkjmppdaaW.PrintLast Go.Proofs.YtfnlghjkjmppdaaW.PrintMore
set_option linter.unusedVariables false
set_option linter.unusedSimpArgs false
theorem row_put8 {w : World} {base : Nat} {F : Nat → Prop} {b c : Nat} {G : List S39} (h : Kd.R k39 39 w base F (.slice (some ⟨b, 0, none⟩) G.length c) G) (m : Nat) (h1 : 1 ≤ m) (h2 : m ≤ G.length) (u : Bool) : Kd.R k39 39 (w.setCell ⟨b, (m - 1) * 9 + 8, none⟩ (.bool u)) base F (.slice (some ⟨b, 0, none⟩) G.length c) (PC.put8 G m u) := by
  obtain ⟨c0, c1, c2, c3, c4, c5, c6, c7, c8⟩ := row_cells h (m - 1) (by omega)
  rw [show G.getD (m - 1) z39 = gr G m by rw [← gr_getD, show m - 1 + 1 = m by omega]] at c0 c1 c2 c3 c4 c5 c6 c7 c8
  have hsz : k39.sz = 9 := rfl
  have hs := (Kd.R_seg h ((m : Int) - 1) (by omega) (by omega) (c := gcells (gr G m)) (seg := [.bool u]) (j := 8) (x' := { gr G m with f8 := u }) (okp := fun _ => False) rfl (fun j v hu => by
    rw [show ((m : Int) - 1).toNat = m - 1 by omega, hsz]
    match j with
    | 0 => injection hu with hu; rw [← hu]; exact c0
    | 1 => injection hu with hu; rw [← hu]; exact c1
    | 2 => injection hu with hu; rw [← hu]; exact c2
    | 3 => injection hu with hu; rw [← hu]; exact c3
    | 4 => injection hu with hu; rw [← hu]; exact c4
    | 5 => injection hu with hu; rw [← hu]; exact c5
    | 6 => injection hu with hu; rw [← hu]; exact c6
    | 7 => injection hu with hu; rw [← hu]; exact c7
    | 8 => injection hu with hu; rw [← hu]; exact c8
    | j + 9 => simp [gcells] at hu) (by rw [hsz]; simp) (by simpa [gcells] using k39_mkM w base (fun _ => False) { gr G m with f8 := u }) (fun _ hk => hk.elim)).1
  rw [show ((m : Int) - 1).toNat = m - 1 by omega, hsz] at hs
  exact hs
theorem row_blk {w : World} {base : Nat} {F : Nat → Prop} {b n c : Nat} {xs : List S39} (h : Kd.R k39 39 w base F (.slice (some ⟨b, 0, none⟩) n c) xs) (hx : 0 < xs.length) : base ≤ b ∧ ∃ cs, w.heap[b]? = some (.cells cs 39 (0, 0)) := by
  obtain ⟨inner, ho⟩ := Kd.R_own h
  rcases ho.2 with ⟨hv, h0⟩ | ⟨b', cap, cur, hv, _, hh, _⟩
  · injection hv with h1 h2
    cases h1
  · injection hv with h1 h2 h3
    injection h1 with h1
    injection h1 with h1
    subst h1
    exact ⟨own_base ho b rfl, cur, hh⟩
def mayK (G : List S39) (n : Nat) (by_ : Int) : Nat → Bool
  | 0 => false
  | k + 1 => mayK G n by_ k || (undR G n ((k : Int) + 1) && (gr G (k + 1)).f3 == by_)
theorem mayK_mem {G : List S39} {n : Nat} {by_ : Int} : ∀ k, mayK G n by_ k = true ↔ ∃ a, 1 ≤ a ∧ a ≤ k ∧ a ∈ up G n ∧ (gr G a).f3 = by_
  | 0 => by
    constructor
    · intro h; cases h
    · rintro ⟨a, h1, h2, _⟩; omega
  | k + 1 => by
    unfold mayK
    rw [Bool.or_eq_true, mayK_mem k, undR_mem _ _ (by omega), show ((k : Int) + 1).toNat = k + 1 by omega]
    simp only [Bool.and_eq_true, decide_eq_true_eq, beq_iff_eq]
    constructor
    · rintro (⟨a, h1, h2, h3⟩ | ⟨h1, h2⟩)
      · exact ⟨a, h1, by omega, h3⟩
      · exact ⟨k + 1, by omega, by omega, h1, h2⟩
    · rintro ⟨a, h1, h2, h3, h4⟩
      by_cases c : a = k + 1
      · subst c; exact Or.inr ⟨h3, h4⟩
      · exact Or.inl ⟨a, h1, by omega, h3, h4⟩
theorem may_held {G : List S39} (hT : Tree G) {n : Nat} (hn : n ≤ G.length) (by_ : Int) : mayK G n by_ G.length = heldB G n by_ := by
  rw [Bool.eq_iff_iff, mayK_mem]
  unfold heldB
  rw [List.any_eq_true]
  constructor
  · rintro ⟨a, _, _, h3, h4⟩; exact ⟨a, h3, beq_iff_eq.2 h4⟩
  · rintro ⟨a, h3, h4⟩
    have := up_rng hT hn a h3
    exact ⟨a, this.1, this.2, h3, beq_iff_eq.1 h4⟩
set_option maxHeartbeats 12800000 in
set_option maxRecDepth 100000 in
theorem Revoke_r (P : Nat → Prop) (w : World) (AG : Option Addr) (cG : Nat) (G : List S39) (AE : Option Addr) (cE : Nat) (E : List S44) (day : Int) (n by_ : Int) (hS : Stay P w AG cG G AE cE E) (hP : ∀ k, P k → k < w.heap.size) (hT : Tree G) (hlE : E.length ≤ 100) (hI : Inv G) : Calls Try.prog 70 #[.agg #[.slice AG G.length cG, .slice AE E.length cE, .int .i64 day], .int .i64 n, .int .i64 by_] w fun e w' => ∃ b, e = .returned (.tuple #[b, .int .i64 (if revC G n by_ = 0 then revN day G n else 0), .int .i64 (revC G n by_)]) ∧ Bok P w' (if revC G n by_ = 0 then put8 G n.toNat true else G) E day b ∧ Below w.heap.size w w' := by
  have HRW := lhid hS
  have HPW := lhid hP
  have HT := lhid hT
  have hgl := hT.1
  have HLE := lhid hlE
  have HI := lhid hI
  clear hS hP hT hlE hI
  by_cases hr : 1 ≤ n ∧ n ≤ (G.length : Int)
  · cases hp : perB by_
    · have hc : revC G n by_ = 2 := by unfold revC; rw [if_neg (fun z => z hr), hp, if_pos rfl]
      rw [if_neg (by rw [hc]; decide), if_neg (by rw [hc]; decide), hc]
      clear hc
      have hu51 := Try.underlying51
      have hu39 := Try.underlying39
      have hu44 := Try.underlying44
      go_enter Try.func70, Try.ntmps70
      have HB_1 := lhid (Below.refl w.heap.size w)
      go_upto_region 1 with (fail)
      have hb := below_alloc (Below.refl w.heap.size w) (.cells #[.slice AG G.length cG, .slice AE E.length cE, .int .i64 day] 51)
      have hn := blk_new w (.cells #[.slice AG G.length cG, .slice AE E.length cE, .int .i64 day] 51)
      have HZ1 := lhid (show (World.alloc w (.cells #[.slice AG G.length cG, .slice AE E.length cE, .int .i64 day] 51)).heap.size = w.heap.size + 1 from by simp)
      generalize hq : World.alloc w (.cells #[.slice AG G.length cG, .slice AE E.length cE, .int .i64 day] 51) = w1 at hb hn HZ1 ⊢
      clear hq
      have HB_2 := lhid (below_then HB_1.out HB_1.out.size hb)
      clear HB_1 hb
      have XB_3 := lhid (hn)
      clear hn
      obtain ⟨xb, hxb⟩ : ∃ q, q = w.heap.size := ⟨_, rfl⟩
      rw [← hxb] at XB_3 ⊢
      have Exb := lhid hxb
      clear hxb
      have hb := below_alloc (Below.refl w1.heap.size w1) (.cells #[.slice none 0 0, .slice none 0 0, .int .i64 0] 51)
      have hn := blk_new w1 (.cells #[.slice none 0 0, .slice none 0 0, .int .i64 0] 51)
      have HZ2 := lhid (show (World.alloc w1 (.cells #[.slice none 0 0, .slice none 0 0, .int .i64 0] 51)).heap.size = w1.heap.size + 1 from by simp)
      generalize hq : World.alloc w1 (.cells #[.slice none 0 0, .slice none 0 0, .int .i64 0] 51) = w2 at hb hn HZ2 ⊢
      clear hq
      have HB_4 := lhid (below_then HB_2.out HB_2.out.size hb)
      have XB_5 := lhid (blk_below XB_3.out hb)
      clear HB_2 XB_3 hb
      have RZ_6 := lhid (hn)
      clear hn
      obtain ⟨rb, hrb⟩ : ∃ q, q = xb + 1 := ⟨_, rfl⟩
      rw [show w1.heap.size = rb by rw [hrb]; have z1 := HZ1.out; have y0 := Exb.out; omega] at RZ_6
      rw [← hrb]
      have Erb := lhid hrb
      clear hrb
      have HNE := lhid (show xb = w.heap.size + 0 ∧ rb = w.heap.size + 1 ∧ w2.heap.size = w.heap.size + 2 by have z1 := HZ1.out; have z2 := HZ2.out; have y0 := Exb.out;  have y1 := Erb.out; omega)
      clear Exb Erb HZ1 HZ2
      have HRB := lhid (show w.heap.size ≤ rb by have := HNE.out; omega)
      obtain ⟨z0, z1, z2⟩ := three XB_5.out
      go_wp2_with fail
      have hq := has_r w2 AG cG G AE cE E day n (HRW.out.rb HB_4.out) HT.out
      rw [hasB_yes hr] at hq
      have HQ := lhid hq
      clear hq
      with_reducible refine HQ.out.mono ?_
      rintro e w5 ⟨rfl, hb⟩
      clear HQ
      clear z0 z1 z2
      have HB_7 := lhid (below_then HB_4.out HB_4.out.size hb)
      have XB_8 := lhid (blk_below XB_5.out hb)
      have RZ_9 := lhid (blk_below RZ_6.out hb)
      clear HB_4 XB_5 RZ_6 hb
      go_wp2_with fail
      with_reducible refine (person_r _ by_).mono ?_
      rintro e w' ⟨rfl, rfl⟩
      rw [hp]
      obtain ⟨z0, z1, z2⟩ := three XB_8.out
      obtain ⟨r0, r1, r2⟩ := three RZ_9.out
      have hfz : ∀ o, w5.frozen? ⟨rb, o, none⟩ = false := fun o => blk_frozen RZ_9.out o
      go_wp2_with fail
      try any_goals (exfalso; omega)
      try any_goals (exfalso; contradiction)
      clear z0 z1 z2
      clear r0 r1 r2 hfz
      have hz1 := blk_put RZ_9.out 0 (.slice AG G.length cG) rfl
      have hz2 := blk_put hz1 1 (.slice AE E.length cE) rfl
      have hz3 := blk_put hz2 2 (.int .i64 day) rfl
      have hB := ((HB_7.out.setCell (p := ⟨rb, 0, none⟩) HRB.out (.slice AG G.length cG)).setCell (p := ⟨rb, 1, none⟩) HRB.out (.slice AE E.length cE)).setCell (p := ⟨rb, 2, none⟩) HRB.out (.int .i64 day)
      clear hz1 hz2
      generalize (World.setCell (World.setCell (World.setCell w5 ⟨rb, 0, none⟩ (.slice AG G.length cG)) ⟨rb, 1, none⟩ (.slice AE E.length cE)) ⟨rb, 2, none⟩ (.int .i64 day)) = w9 at hz3  hB ⊢
      refine bodyPost_ret (results_ctt rfl _ _ rb 51 #[(.slice AG G.length cG), (.slice AE E.length cE), (.int .i64 day)] (0, 0) _ rfl hz3 Try.underlying51 rfl (by kernel_rfl)) rfl ?_
      exact ⟨_, rfl, bok_same HRW.out hB, hB⟩
    · obtain ⟨q, hq⟩ : ∃ q : Nat, n = (q : Int) + 1 := ⟨n.toNat - 1, by omega⟩
      subst hq
      have hqq : (q : Int) + 1 ≤ (G.length : Int) := hr.2
      cases hh : heldB G (q + 1) by_
      · have hc : revC G ((q : Int) + 1) by_ = 12 := by unfold revC; rw [if_neg (fun z => z hr), hp, if_neg (by decide), show ((q : Int) + 1).toNat = q + 1 by omega, hh, if_pos rfl]
        rw [if_neg (by rw [hc]; decide), if_neg (by rw [hc]; decide), hc]
        clear hc
        have hu51 := Try.underlying51
        have hu39 := Try.underlying39
        have hu44 := Try.underlying44
        go_enter Try.func70, Try.ntmps70
        have HB_10 := lhid (Below.refl w.heap.size w)
        go_upto_region 1 with (fail)
        have hb := below_alloc (Below.refl w.heap.size w) (.cells #[.slice AG G.length cG, .slice AE E.length cE, .int .i64 day] 51)
        have hn := blk_new w (.cells #[.slice AG G.length cG, .slice AE E.length cE, .int .i64 day] 51)
        have HZ1 := lhid (show (World.alloc w (.cells #[.slice AG G.length cG, .slice AE E.length cE, .int .i64 day] 51)).heap.size = w.heap.size + 1 from by simp)
        generalize hq : World.alloc w (.cells #[.slice AG G.length cG, .slice AE E.length cE, .int .i64 day] 51) = w1 at hb hn HZ1 ⊢
        clear hq
        have HB_11 := lhid (below_then HB_10.out HB_10.out.size hb)
        clear HB_10 hb
        have XB_12 := lhid (hn)
        clear hn
        obtain ⟨xb, hxb⟩ : ∃ q, q = w.heap.size := ⟨_, rfl⟩
        rw [← hxb] at XB_12 ⊢
        have Exb := lhid hxb
        clear hxb
        have hb := below_alloc (Below.refl w1.heap.size w1) (.cells #[.slice none 0 0, .slice none 0 0, .int .i64 0] 51)
        have hn := blk_new w1 (.cells #[.slice none 0 0, .slice none 0 0, .int .i64 0] 51)
        have HZ2 := lhid (show (World.alloc w1 (.cells #[.slice none 0 0, .slice none 0 0, .int .i64 0] 51)).heap.size = w1.heap.size + 1 from by simp)
        generalize hq : World.alloc w1 (.cells #[.slice none 0 0, .slice none 0 0, .int .i64 0] 51) = w2 at hb hn HZ2 ⊢
        clear hq
        have HB_13 := lhid (below_then HB_11.out HB_11.out.size hb)
        have XB_14 := lhid (blk_below XB_12.out hb)
        clear HB_11 XB_12 hb
        have RZ_15 := lhid (hn)
        clear hn
        obtain ⟨rb, hrb⟩ : ∃ q, q = xb + 1 := ⟨_, rfl⟩
        rw [show w1.heap.size = rb by rw [hrb]; have z1 := HZ1.out; have y0 := Exb.out; omega] at RZ_15
        rw [← hrb]
        have Erb := lhid hrb
        clear hrb
        have HNE := lhid (show xb = w.heap.size + 0 ∧ rb = w.heap.size + 1 ∧ w2.heap.size = w.heap.size + 2 by have z1 := HZ1.out; have z2 := HZ2.out; have y0 := Exb.out;  have y1 := Erb.out; omega)
        clear Exb Erb HZ1 HZ2
        have HRB := lhid (show w.heap.size ≤ rb by have := HNE.out; omega)
        obtain ⟨z0, z1, z2⟩ := three XB_14.out
        go_wp2_with fail
        have hq := has_r w2 AG cG G AE cE E day ((q : Int) + 1) (HRW.out.rb HB_13.out) HT.out
        rw [hasB_yes hr] at hq
        have HQ := lhid hq
        clear hq
        with_reducible refine HQ.out.mono ?_
        rintro e w5 ⟨rfl, hb⟩
        clear HQ
        clear z0 z1 z2
        have HB_16 := lhid (below_then HB_13.out HB_13.out.size hb)
        have XB_17 := lhid (blk_below XB_14.out hb)
        have RZ_18 := lhid (blk_below RZ_15.out hb)
        clear HB_13 XB_14 RZ_15 hb
        go_wp2_with fail
        with_reducible refine (person_r _ by_).mono ?_
        rintro e w' ⟨rfl, rfl⟩
        rw [hp]
        clear hp hr
        obtain ⟨ad, eA, -⟩ := at_T39 ((HRW.out.rb HB_16.out)).c (q : Int) (by omega) (by omega)
        subst eA
        go_upto_region 7 with (fail)
        go_loopw [9, 10] (fun c t wr => ∃ i : Nat, i ≤ G.length ∧ t = .int .i64 ((i : Int) + 1) ∧ c = .bool (mayK G (q + 1) by_ i) ∧ Hid (Below w.heap.size w wr) ∧ Hid (wr.heap[xb]? = some (.cells #[.slice (some ad) G.length cG, .slice AE E.length cE, .int .i64 day] 51)) ∧ Hid (wr.heap[rb]? = some (.cells #[.slice none 0 0, .slice none 0 0, .int .i64 0] 51))) (fun c t _ => G.length + 1 - (intOf t).toNat)
        case atStart => exact ⟨0, Nat.zero_le _, rfl, rfl, HB_16, XB_17, RZ_18⟩
        case round =>
          obtain ⟨i, hi, rfl, rfl, HBr_19, XBr_20, RZr_21⟩ := hrel
          clear HB_16 XB_17 RZ_18
          by_cases hlt : i < G.length
          · have hlt2 : (i : Int) + 1 ≤ (G.length : Int) := by omega
            have hi1 : (0 : Int) ≤ (i : Int) := by omega
            have hi2 : (i : Int) < (G.length : Int) := by omega
            have hmk : mayK G (q + 1) by_ (i + 1) = (mayK G (q + 1) by_ i || (undR G (q + 1) ((i : Int) + 1) && (gr G (i + 1)).f3 == by_)) := rfl
            obtain ⟨b, hb0⟩ : ∃ b, b = mayK G (q + 1) by_ i := ⟨_, rfl⟩
            rw [← hb0] at hmk ⊢
            have HMK := lhid hmk
            clear hb0 hmk
            cases b
            · obtain ⟨z0, z1, z2⟩ := three XBr_20.out
              go_wp2_with fail
              try any_goals (exfalso; omega)
              have hq := Under_r wr (some ad) cG G AE cE E day ((q : Int) + 1) ((i : Int) + 1) (HRW.out.rb HBr_19.out) HT.out (by omega) (by omega)
              rw [show ((q : Int) + 1).toNat = q + 1 by omega] at hq
              have HQ := lhid hq
              clear hq
              with_reducible refine HQ.out.mono ?_
              rintro e w7 ⟨rfl, hb⟩
              clear HQ
              clear z0 z1 z2
              have HB_22 := lhid (below_then HBr_19.out HBr_19.out.size hb)
              have XB_23 := lhid (blk_below XBr_20.out hb)
              have RZ_24 := lhid (blk_below RZr_21.out hb)
              clear HBr_19 XBr_20 RZr_21 hb
              cases hu : undR G (q + 1) ((i : Int) + 1)
              · go_wp2_with fail
                try any_goals (exfalso; omega)
                go_roundw
                case rel => exact ⟨i + 1, by omega, by simp, by rw [HMK.out, hu]; rfl, HB_22, XB_23, RZ_24⟩
                case measure => simp [intOf]; omega
              · obtain ⟨ad', eA', x0, x1, x2, x3, x4, x5, x6, x7, x8⟩ := at_T39 ((HRW.out.rb HB_22.out)).c (i : Int) (by omega) (by omega)
                cases eA'
                simp only [rd_gr, Int.toNat_natCast] at x3
                clear x0 x1 x2 x4 x5 x6 x7 x8
                obtain ⟨f, hf⟩ : ∃ f, f = (gr G (i + 1)).f3 := ⟨_, rfl⟩
                rw [← hf] at x3
                have HF := lhid hf
                clear hf
                obtain ⟨z0, z1, z2⟩ := three XB_23.out
                go_wp2_with fail
                try any_goals (exfalso; omega)
                clear z0 z1 z2
                clear x3
                go_roundw
                case rel => exact ⟨i + 1, by omega, by simp, by rw [HMK.out, hu, ← HF.out]; rfl, HB_22, XB_23, RZ_24⟩
                case measure => simp [intOf]; omega
            · obtain ⟨z0, z1, z2⟩ := three XBr_20.out
              go_wp2_with fail
              try any_goals (exfalso; omega)
              clear z0 z1 z2
              go_roundw
              case rel => exact ⟨i + 1, by omega, by simp, by rw [HMK.out]; rfl, HBr_19, XBr_20, RZr_21⟩
              case measure => simp [intOf]; omega
          · have hie : i = G.length := by omega
            subst hie
            have hmh := may_held HT.out (n := q + 1) (by omega) by_
            rw [hmh]
            clear hmh hlt hi
            have hlt2 : ¬ ((G.length : Int) + 1 ≤ (G.length : Int)) := by omega
            rw [hh]
            obtain ⟨z0, z1, z2⟩ := three XBr_20.out
            obtain ⟨r0, r1, r2⟩ := three RZr_21.out
            have hfz : ∀ o, wr.frozen? ⟨rb, o, none⟩ = false := fun o => blk_frozen RZr_21.out o
            go_wp2_with fail
            try any_goals (exfalso; omega)
            try any_goals (exfalso; contradiction)
            clear z0 z1 z2
            clear r0 r1 r2 hfz
            have hz1 := blk_put RZr_21.out 0 (.slice (some ad) G.length cG) rfl
            have hz2 := blk_put hz1 1 (.slice AE E.length cE) rfl
            have hz3 := blk_put hz2 2 (.int .i64 day) rfl
            have hB := ((HBr_19.out.setCell (p := ⟨rb, 0, none⟩) HRB.out (.slice (some ad) G.length cG)).setCell (p := ⟨rb, 1, none⟩) HRB.out (.slice AE E.length cE)).setCell (p := ⟨rb, 2, none⟩) HRB.out (.int .i64 day)
            clear hz1 hz2
            generalize (World.setCell (World.setCell (World.setCell wr ⟨rb, 0, none⟩ (.slice (some ad) G.length cG)) ⟨rb, 1, none⟩ (.slice AE E.length cE)) ⟨rb, 2, none⟩ (.int .i64 day)) = w9 at hz3  hB ⊢
            refine bodyPost_ret (results_ctt rfl _ _ rb 51 #[(.slice (some ad) G.length cG), (.slice AE E.length cE), (.int .i64 day)] (0, 0) _ rfl hz3 Try.underlying51 rfl (by kernel_rfl)) rfl ?_
            exact ⟨_, rfl, bok_same HRW.out hB, hB⟩
      · cases hv : revB G (q + 1)
        · have hc : revC G ((q : Int) + 1) by_ = 0 := by unfold revC; rw [if_neg (fun z => z hr), hp, if_neg (by decide), show ((q : Int) + 1).toNat = q + 1 by omega, hh, if_neg (by decide), hv, if_neg (by decide)]
          rw [if_pos hc, if_pos hc, hc, show ((q : Int) + 1).toNat = q + 1 by omega]
          clear hc
          have hcn := cnt_end (day := day) HT.out (n := q + 1) (by omega) (by omega)
          rw [show ((q + 1 : Nat) : Int) = (q : Int) + 1 by omega] at hcn
          rw [hcn]
          clear hcn
          have hu51 := Try.underlying51
          have hu39 := Try.underlying39
          have hu44 := Try.underlying44
          go_enter Try.func70, Try.ntmps70
          have HB_25 := lhid (Below.refl w.heap.size w)
          go_upto_region 1 with (fail)
          have hb := below_alloc (Below.refl w.heap.size w) (.cells #[.slice AG G.length cG, .slice AE E.length cE, .int .i64 day] 51)
          have hn := blk_new w (.cells #[.slice AG G.length cG, .slice AE E.length cE, .int .i64 day] 51)
          have HZ1 := lhid (show (World.alloc w (.cells #[.slice AG G.length cG, .slice AE E.length cE, .int .i64 day] 51)).heap.size = w.heap.size + 1 from by simp)
          generalize hq : World.alloc w (.cells #[.slice AG G.length cG, .slice AE E.length cE, .int .i64 day] 51) = w1 at hb hn HZ1 ⊢
          clear hq
          have HB_26 := lhid (below_then HB_25.out HB_25.out.size hb)
          clear HB_25 hb
          have XB_27 := lhid (hn)
          clear hn
          obtain ⟨xb, hxb⟩ : ∃ q, q = w.heap.size := ⟨_, rfl⟩
          rw [← hxb] at XB_27 ⊢
          have Exb := lhid hxb
          clear hxb
          have hb := below_alloc (Below.refl w1.heap.size w1) (.cells #[.slice none 0 0, .slice none 0 0, .int .i64 0] 51)
          have hn := blk_new w1 (.cells #[.slice none 0 0, .slice none 0 0, .int .i64 0] 51)
          have HZ2 := lhid (show (World.alloc w1 (.cells #[.slice none 0 0, .slice none 0 0, .int .i64 0] 51)).heap.size = w1.heap.size + 1 from by simp)
          generalize hq : World.alloc w1 (.cells #[.slice none 0 0, .slice none 0 0, .int .i64 0] 51) = w2 at hb hn HZ2 ⊢
          clear hq
          have HB_28 := lhid (below_then HB_26.out HB_26.out.size hb)
          have XB_29 := lhid (blk_below XB_27.out hb)
          clear HB_26 XB_27 hb
          have RZ_30 := lhid (hn)
          clear hn
          obtain ⟨rb, hrb⟩ : ∃ q, q = xb + 1 := ⟨_, rfl⟩
          rw [show w1.heap.size = rb by rw [hrb]; have z1 := HZ1.out; have y0 := Exb.out; omega] at RZ_30
          rw [← hrb]
          have Erb := lhid hrb
          clear hrb
          have HNE := lhid (show xb = w.heap.size + 0 ∧ rb = w.heap.size + 1 ∧ w2.heap.size = w.heap.size + 2 by have z1 := HZ1.out; have z2 := HZ2.out; have y0 := Exb.out;  have y1 := Erb.out; omega)
          clear Exb Erb HZ1 HZ2
          have HRB := lhid (show w.heap.size ≤ rb by have := HNE.out; omega)
          obtain ⟨z0, z1, z2⟩ := three XB_29.out
          go_wp2_with fail
          have hq := has_r w2 AG cG G AE cE E day ((q : Int) + 1) (HRW.out.rb HB_28.out) HT.out
          rw [hasB_yes hr] at hq
          have HQ := lhid hq
          clear hq
          with_reducible refine HQ.out.mono ?_
          rintro e w5 ⟨rfl, hb⟩
          clear HQ
          clear z0 z1 z2
          have HB_31 := lhid (below_then HB_28.out HB_28.out.size hb)
          have XB_32 := lhid (blk_below XB_29.out hb)
          have RZ_33 := lhid (blk_below RZ_30.out hb)
          clear HB_28 XB_29 RZ_30 hb
          go_wp2_with fail
          with_reducible refine (person_r _ by_).mono ?_
          rintro e w' ⟨rfl, rfl⟩
          rw [hp]
          clear hp hr
          obtain ⟨ad, eA, -⟩ := at_T39 ((HRW.out.rb HB_31.out)).c (q : Int) (by omega) (by omega)
          subst eA
          go_upto_region 7 with (fail)
          go_loopw [9, 10] (fun c t wr => ∃ i : Nat, i ≤ G.length ∧ t = .int .i64 ((i : Int) + 1) ∧ c = .bool (mayK G (q + 1) by_ i) ∧ Hid (Below w.heap.size w wr) ∧ Hid (wr.heap[xb]? = some (.cells #[.slice (some ad) G.length cG, .slice AE E.length cE, .int .i64 day] 51)) ∧ Hid (wr.heap[rb]? = some (.cells #[.slice none 0 0, .slice none 0 0, .int .i64 0] 51))) (fun c t _ => G.length + 1 - (intOf t).toNat)
          case atStart => exact ⟨0, Nat.zero_le _, rfl, rfl, HB_31, XB_32, RZ_33⟩
          case round =>
            obtain ⟨i, hi, rfl, rfl, HBr_34, XBr_35, RZr_36⟩ := hrel
            clear HB_31 XB_32 RZ_33
            by_cases hlt : i < G.length
            · have hlt2 : (i : Int) + 1 ≤ (G.length : Int) := by omega
              have hi1 : (0 : Int) ≤ (i : Int) := by omega
              have hi2 : (i : Int) < (G.length : Int) := by omega
              have hmk : mayK G (q + 1) by_ (i + 1) = (mayK G (q + 1) by_ i || (undR G (q + 1) ((i : Int) + 1) && (gr G (i + 1)).f3 == by_)) := rfl
              obtain ⟨b, hb0⟩ : ∃ b, b = mayK G (q + 1) by_ i := ⟨_, rfl⟩
              rw [← hb0] at hmk ⊢
              have HMK := lhid hmk
              clear hb0 hmk
              cases b
              · obtain ⟨z0, z1, z2⟩ := three XBr_35.out
                go_wp2_with fail
                try any_goals (exfalso; omega)
                have hq := Under_r wr (some ad) cG G AE cE E day ((q : Int) + 1) ((i : Int) + 1) (HRW.out.rb HBr_34.out) HT.out (by omega) (by omega)
                rw [show ((q : Int) + 1).toNat = q + 1 by omega] at hq
                have HQ := lhid hq
                clear hq
                with_reducible refine HQ.out.mono ?_
                rintro e w7 ⟨rfl, hb⟩
                clear HQ
                clear z0 z1 z2
                have HB_37 := lhid (below_then HBr_34.out HBr_34.out.size hb)
                have XB_38 := lhid (blk_below XBr_35.out hb)
                have RZ_39 := lhid (blk_below RZr_36.out hb)
                clear HBr_34 XBr_35 RZr_36 hb
                cases hu : undR G (q + 1) ((i : Int) + 1)
                · go_wp2_with fail
                  try any_goals (exfalso; omega)
                  go_roundw
                  case rel => exact ⟨i + 1, by omega, by simp, by rw [HMK.out, hu]; rfl, HB_37, XB_38, RZ_39⟩
                  case measure => simp [intOf]; omega
                · obtain ⟨ad', eA', x0, x1, x2, x3, x4, x5, x6, x7, x8⟩ := at_T39 ((HRW.out.rb HB_37.out)).c (i : Int) (by omega) (by omega)
                  cases eA'
                  simp only [rd_gr, Int.toNat_natCast] at x3
                  clear x0 x1 x2 x4 x5 x6 x7 x8
                  obtain ⟨f, hf⟩ : ∃ f, f = (gr G (i + 1)).f3 := ⟨_, rfl⟩
                  rw [← hf] at x3
                  have HF := lhid hf
                  clear hf
                  obtain ⟨z0, z1, z2⟩ := three XB_38.out
                  go_wp2_with fail
                  try any_goals (exfalso; omega)
                  clear z0 z1 z2
                  clear x3
                  go_roundw
                  case rel => exact ⟨i + 1, by omega, by simp, by rw [HMK.out, hu, ← HF.out]; rfl, HB_37, XB_38, RZ_39⟩
                  case measure => simp [intOf]; omega
              · obtain ⟨z0, z1, z2⟩ := three XBr_35.out
                go_wp2_with fail
                try any_goals (exfalso; omega)
                clear z0 z1 z2
                go_roundw
                case rel => exact ⟨i + 1, by omega, by simp, by rw [HMK.out]; rfl, HBr_34, XBr_35, RZr_36⟩
                case measure => simp [intOf]; omega
            · have hie : i = G.length := by omega
              subst hie
              have hmh := may_held HT.out (n := q + 1) (by omega) by_
              rw [hmh]
              clear hmh hlt hi
              have hlt2 : ¬ ((G.length : Int) + 1 ≤ (G.length : Int)) := by omega
              rw [hh]
              obtain ⟨z0, z1, z2⟩ := three XBr_35.out
              go_wp2_with fail
              try any_goals (exfalso; omega)
              have hq := revoked_r wr (some ad) cG G AE cE E day ((q : Int) + 1) (HRW.out.rb HBr_34.out) HT.out (by omega) (by omega)
              rw [show ((q : Int) + 1).toNat = q + 1 by omega, hv] at hq
              have HQ := lhid hq
              clear hq
              with_reducible refine HQ.out.mono ?_
              rintro e w8 ⟨rfl, hb⟩
              clear HQ
              clear z0 z1 z2
              have HB_40 := lhid (below_then HBr_34.out HBr_34.out.size hb)
              have XB_41 := lhid (blk_below XBr_35.out hb)
              have RZ_42 := lhid (blk_below RZr_36.out hb)
              clear HBr_34 XBr_35 RZr_36 hb
              obtain ⟨z0, z1, z2⟩ := three XB_41.out
              go_wp2_with fail
              try any_goals (exfalso; omega)
              with_reducible refine (copied_r w8 (some ad) cG G AE cE E day (HRW.out.rb HB_40.out) (by omega) HLE.out).mono ?_
              rintro e w30 ⟨A1, c1, A2, c2, rfl, hG, hE, hb⟩
              have HG0 := lhid (Kd.R_lower hG HB_40.out.size)
              have HE0 := lhid (Kd.R_lower hE HB_40.out.size)
              have HRS := lhid (show rb < w30.heap.size ∧ xb < w30.heap.size from ⟨Nat.lt_of_lt_of_le (blk_lt RZ_42.out) hb.size, Nat.lt_of_lt_of_le (blk_lt XB_41.out) hb.size⟩)
              have HWS := lhid (show w.heap.size ≤ w30.heap.size from Nat.le_trans HB_40.out.size hb.size)
              have HGT := lhid hG
              have HW8 := lhid (show rb < w8.heap.size ∧ xb < w8.heap.size from ⟨blk_lt RZ_42.out, blk_lt XB_41.out⟩)
              clear hG hE
              clear z0 z1 z2
              have HB_43 := lhid (below_then HB_40.out HB_40.out.size hb)
              have XB_44 := lhid (blk_below XB_41.out hb)
              have RZ_45 := lhid (blk_below RZ_42.out hb)
              clear HB_40 XB_41 RZ_42 hb
              go_upto_region 15 with (fail)
              try any_goals (exfalso; omega)
              have hb := below_alloc (Below.refl w30.heap.size w30) (.cells #[.slice A1 G.length c1, .slice A2 E.length c2, .int .i64 day] 51)
              have hn := blk_new w30 (.cells #[.slice A1 G.length c1, .slice A2 E.length c2, .int .i64 day] 51)
              have HZ31 := lhid (show (World.alloc w30 (.cells #[.slice A1 G.length c1, .slice A2 E.length c2, .int .i64 day] 51)).heap.size = w30.heap.size + 1 from by simp)
              generalize hq : World.alloc w30 (.cells #[.slice A1 G.length c1, .slice A2 E.length c2, .int .i64 day] 51) = w31 at hb hn HZ31 ⊢
              clear hq
              have HB_46 := lhid (below_then HB_43.out HB_43.out.size hb)
              have XB_47 := lhid (blk_below XB_44.out hb)
              have RZ_48 := lhid (blk_below RZ_45.out hb)
              have HG_49 := lhid (Kd.R_below HG0.out hb)
              have HE_50 := lhid (Kd.R_below HE0.out hb)
              clear HB_43 XB_44 RZ_45 HG0 HE0 hb
              have NB_51 := lhid (hn)
              clear hn
              obtain ⟨nb9, hnb⟩ : ∃ z, z = w30.heap.size := ⟨_, rfl⟩
              rw [← hnb] at NB_51 ⊢
              have HNN := lhid (show rb ≠ nb9 ∧ w.heap.size ≤ nb9 ∧ xb ≠ nb9 by have h1 := HRS.out; have h2 := HWS.out; omega)
              clear hnb
              obtain ⟨gb, hA⟩ := row_ad HG_49.out (by omega)
              subst hA
              obtain ⟨hgb, cs, hgc⟩ := row_blk HG_49.out (by omega)
              have hgt := (row_blk HGT.out (by omega)).1
              have HGE := lhid (show w.heap.size ≤ gb ∧ rb ≠ gb ∧ xb ≠ gb by have h1 := HW8.out; omega)
              clear hgt HGT hgb
              have HGC := lhid hgc
              clear hgc
              obtain ⟨n0, n1, n2⟩ := three NB_51.out
              have hc8 := (row_cells HG_49.out q (by omega)).2.2.2.2.2.2.2.2
              have hfz := fun o => blk_frozen HGC.out o
              have hq5 : q < G.length := by omega
              go_upto_region 16 with (fail)
              try any_goals (exfalso; omega)
              clear n0 n1 n2 hc8 hfz hq5
              have HG6 := lhid (row_put8 HG_49.out (q + 1) (by omega) (by omega) true)
              rw [show q + 1 - 1 = q by omega] at HG6
              have HE6 := lhid (Kd.R_set HE_50.out HGC.out (by decide) (q * 9 + 8) (.bool true))
              have NB6 := lhid (blk_far NB_51.out (p := ⟨gb, q * 9 + 8, none⟩) (blk_ne NB_51.out HGC.out (by decide)) (.bool true))
              have RZ6 := lhid (blk_far RZ_48.out (p := ⟨gb, q * 9 + 8, none⟩) HGE.out.2.1 (.bool true))
              have XB6 := lhid (blk_far XB_47.out (p := ⟨gb, q * 9 + 8, none⟩) HGE.out.2.2 (.bool true))
              have HB6 := lhid (HB_46.out.setCell (p := ⟨gb, q * 9 + 8, none⟩) HGE.out.1 (.bool true))
              generalize World.setCell w31 ⟨gb, q * 9 + 8, none⟩ (.bool true) = w40 at HG6 HE6 NB6 RZ6 XB6 HB6 ⊢
              clear HGC
              obtain ⟨H, hH⟩ : ∃ H, H = put8 G (q + 1) true := ⟨_, rfl⟩
              have HHT := lhid (show Tree H by rw [hH]; exact ⟨by rw [put8_len]; exact hgl, fun m a b => by rw [put8_len] at b; rw [gr_put8 G (q + 1) m true (by omega) (by omega) a]; split; (rename_i e; subst e; exact HT.out.2 _ a b); exact HT.out.2 m a b⟩)
              have HHL := lhid (show H.length = G.length by rw [hH]; exact put8_len _ _ _)
              have HHS := lhid (show ∀ i, 1 ≤ i → i ≤ G.length → stB day H i = (stB day G i && !goneB G (q + 1) i) from fun i a b => by rw [hH]; exact stB_put8 HI.out (by omega) (by omega) a b)
              rw [← hH] at HG6
              have HHE := lhid hH
              clear hH
              go_upto_region 18 with (fail)
              go_loopw [12, 13] (fun c t wr => ∃ i : Nat, i ≤ G.length ∧ t = .int .i64 ((i : Int) + 1) ∧ c = .int .i64 (cntG day G (q + 1) i : Nat) ∧ Hid (Below w.heap.size w wr) ∧ Hid (wr.heap[xb]? = some (.cells #[.slice (some ad) G.length cG, .slice AE E.length cE, .int .i64 day] 51)) ∧ Hid (wr.heap[rb]? = some (.cells #[.slice none 0 0, .slice none 0 0, .int .i64 0] 51)) ∧ Hid (wr.heap[nb9]? = some (.cells #[.slice (some ⟨gb, 0, none⟩) G.length c1, .slice A2 E.length c2, .int .i64 day] 51)) ∧ Hid (Kd.R k39 39 wr w.heap.size (fun _ => True) (.slice (some ⟨gb, 0, none⟩) G.length c1) H) ∧ Hid (Kd.R k44 44 wr w.heap.size (fun _ => True) (.slice A2 E.length c2) E)) (fun c t _ => G.length + 1 - (intOf t).toNat)
              case atStart => exact ⟨0, Nat.zero_le _, rfl, rfl, HB6, XB6, RZ6, NB6, HG6, HE6⟩
              case round =>
                obtain ⟨i, hi, rfl, rfl, HBr_52, XBr_53, RZr_54, NBr_55, HGr_56, HEr_57⟩ := hrel
                clear HB6 XB6 RZ6 NB6 HG6 HE6
                by_cases hlt : i < G.length
                · have hlt2 : (i : Int) + 1 ≤ (G.length : Int) := by omega
                  have hcl := cntG_le day G (q + 1) i
                  have HCN := lhid (show cntG day G (q + 1) (i + 1) = if (stB day G (i + 1) && goneB G (q + 1) (i + 1)) = true then cntG day G (q + 1) i + 1 else cntG day G (q + 1) i from rfl)
                  have HSH := lhid (HHS.out (i + 1) (by omega) hlt)
                  obtain ⟨cn, hcn0⟩ : ∃ z : Nat, z = cntG day G (q + 1) i := ⟨_, rfl⟩
                  rw [← hcn0] at hcl HCN ⊢
                  clear hcn0
                  obtain ⟨z0, z1, z2⟩ := three XBr_53.out
                  go_wp2_with fail
                  try any_goals (exfalso; omega)
                  have hq := stands_r wr (some ad) cG G AE cE E day ((i : Int) + 1) (HRW.out.rb HBr_52.out) HT.out (by omega) (by omega)
                  rw [show ((i : Int) + 1).toNat = i + 1 by omega] at hq
                  have HQ := lhid hq
                  clear hq
                  with_reducible refine HQ.out.mono ?_
                  rintro e w41 ⟨rfl, hb⟩
                  clear HQ
                  clear z0 z1 z2
                  have HB_58 := lhid (below_then HBr_52.out HBr_52.out.size hb)
                  have XB_59 := lhid (blk_below XBr_53.out hb)
                  have RZ_60 := lhid (blk_below RZr_54.out hb)
                  have NB_61 := lhid (blk_below NBr_55.out hb)
                  have HG_62 := lhid (Kd.R_below HGr_56.out hb)
                  have HE_63 := lhid (Kd.R_below HEr_57.out hb)
                  clear HBr_52 XBr_53 RZr_54 NBr_55 HGr_56 HEr_57 hb
                  cases hs1 : stB day G (i + 1)
                  · go_wp2_with fail
                    try any_goals (exfalso; omega)
                    have hcn := HCN.out
                    rw [hs1] at hcn
                    go_roundw
                    case rel => exact ⟨i + 1, by omega, by simp, by rw [hcn]; simp, HB_58, XB_59, RZ_60, NB_61, HG_62, HE_63⟩
                    case measure => simp [intOf]; omega
                  · obtain ⟨n0, n1, n2⟩ := three NB_61.out
                    go_wp2_with fail
                    try any_goals (exfalso; omega)
                    have hq := stands_r w41 (some ⟨gb, 0, none⟩) c1 H A2 c2 E day ((i : Int) + 1) (RB.of_R (by rw [HHL.out]; exact HG_62.out) HE_63.out) HHT.out (by omega) (by rw [HHL.out]; omega)
                    rw [show ((i : Int) + 1).toNat = i + 1 by omega, HSH.out, hs1, Bool.true_and, HHL.out] at hq
                    have HQ := lhid hq
                    clear hq
                    with_reducible refine HQ.out.mono ?_
                    rintro e w42 ⟨rfl, hb⟩
                    clear HQ n0 n1 n2
                    have HB_64 := lhid (below_then HB_58.out HB_58.out.size hb)
                    have XB_65 := lhid (blk_below XB_59.out hb)
                    have RZ_66 := lhid (blk_below RZ_60.out hb)
                    have NB_67 := lhid (blk_below NB_61.out hb)
                    have HG_68 := lhid (Kd.R_below HG_62.out hb)
                    have HE_69 := lhid (Kd.R_below HE_63.out hb)
                    clear HB_58 XB_59 RZ_60 NB_61 HG_62 HE_63 hb
                    cases hg1 : goneB G (q + 1) (i + 1)
                    · go_wp2_with fail
                      try any_goals (exfalso; omega)
                      have hcn := HCN.out
                      rw [hs1, hg1] at hcn
                      go_roundw
                      case rel => exact ⟨i + 1, by omega, by simp, by rw [hcn]; simp, HB_64, XB_65, RZ_66, NB_67, HG_68, HE_69⟩
                      case measure => simp [intOf]; omega
                    · go_wp2_with fail
                      try any_goals (exfalso; omega)
                      have hcn := HCN.out
                      rw [hs1, hg1] at hcn
                      go_roundw
                      case rel => exact ⟨i + 1, by omega, by simp, by rw [hcn]; simp, HB_64, XB_65, RZ_66, NB_67, HG_68, HE_69⟩
                      case measure => simp [intOf]; omega
                · have hie : i = G.length := by omega
                  subst hie
                  have hlt2 : ¬ ((G.length : Int) + 1 ≤ (G.length : Int)) := by omega
                  obtain ⟨z0, z1, z2⟩ := three XBr_53.out
                  obtain ⟨r0, r1, r2⟩ := three RZr_54.out
                  have hfz : ∀ o, wr.frozen? ⟨rb, o, none⟩ = false := fun o => blk_frozen RZr_54.out o
                  obtain ⟨n0, n1, n2⟩ := three NBr_55.out
                  go_wp2_with fail
                  try any_goals (exfalso; omega)
                  clear z0 z1 z2
                  clear n0 n1 n2 r0 r1 r2 hfz
                  have hz1 := blk_put RZr_54.out 0 (.slice (some ⟨gb, 0, none⟩) G.length c1) rfl
                  have hz2 := blk_put hz1 1 (.slice A2 E.length c2) rfl
                  have hz3 := blk_put hz2 2 (.int .i64 day) rfl
                  have hHG := Kd.R_set (Kd.R_set (Kd.R_set HGr_56.out RZr_54.out (by decide) 0 (.slice (some ⟨gb, 0, none⟩) G.length c1)) hz1 (by decide) 1 (.slice A2 E.length c2)) hz2 (by decide) 2 (.int .i64 day)
                  have hHE := Kd.R_set (Kd.R_set (Kd.R_set HEr_57.out RZr_54.out (by decide) 0 (.slice (some ⟨gb, 0, none⟩) G.length c1)) hz1 (by decide) 1 (.slice A2 E.length c2)) hz2 (by decide) 2 (.int .i64 day)
                  have hB := ((HBr_52.out.setCell (p := ⟨rb, 0, none⟩) HRB.out (.slice (some ⟨gb, 0, none⟩) G.length c1)).setCell (p := ⟨rb, 1, none⟩) HRB.out (.slice A2 E.length c2)).setCell (p := ⟨rb, 2, none⟩) HRB.out (.int .i64 day)
                  clear hz1 hz2
                  generalize (World.setCell (World.setCell (World.setCell wr ⟨rb, 0, none⟩ (.slice (some ⟨gb, 0, none⟩) G.length c1)) ⟨rb, 1, none⟩ (.slice A2 E.length c2)) ⟨rb, 2, none⟩ (.int .i64 day)) = w9 at hz3 hHG hHE hB ⊢
                  refine bodyPost_ret (results_ctt rfl _ _ rb 51 #[(.slice (some ⟨gb, 0, none⟩) G.length c1), (.slice A2 E.length c2), (.int .i64 day)] (0, 0) _ rfl hz3 Try.underlying51 rfl (by kernel_rfl)) rfl ?_
                  have hbn := bok_new (P := P) (w := w) HPW.out (day := day) (show Kd.R k39 39 w9 w.heap.size _ (.slice (some ⟨gb, 0, none⟩) H.length c1) H by rw [HHL.out]; exact hHG) hHE
                  rw [HHL.out] at hbn
                  exact ⟨_, rfl, by rw [← HHE.out]; exact hbn, hB⟩
        · have hc : revC G ((q : Int) + 1) by_ = 9 := by unfold revC; rw [if_neg (fun z => z hr), hp, if_neg (by decide), show ((q : Int) + 1).toNat = q + 1 by omega, hh, if_neg (by decide), hv, if_pos rfl]
          rw [if_neg (by rw [hc]; decide), if_neg (by rw [hc]; decide), hc]
          clear hc
          have hu51 := Try.underlying51
          have hu39 := Try.underlying39
          have hu44 := Try.underlying44
          go_enter Try.func70, Try.ntmps70
          have HB_70 := lhid (Below.refl w.heap.size w)
          go_upto_region 1 with (fail)
          have hb := below_alloc (Below.refl w.heap.size w) (.cells #[.slice AG G.length cG, .slice AE E.length cE, .int .i64 day] 51)
          have hn := blk_new w (.cells #[.slice AG G.length cG, .slice AE E.length cE, .int .i64 day] 51)
          have HZ1 := lhid (show (World.alloc w (.cells #[.slice AG G.length cG, .slice AE E.length cE, .int .i64 day] 51)).heap.size = w.heap.size + 1 from by simp)
          generalize hq : World.alloc w (.cells #[.slice AG G.length cG, .slice AE E.length cE, .int .i64 day] 51) = w1 at hb hn HZ1 ⊢
          clear hq
          have HB_71 := lhid (below_then HB_70.out HB_70.out.size hb)
          clear HB_70 hb
          have XB_72 := lhid (hn)
          clear hn
          obtain ⟨xb, hxb⟩ : ∃ q, q = w.heap.size := ⟨_, rfl⟩
          rw [← hxb] at XB_72 ⊢
          have Exb := lhid hxb
          clear hxb
          have hb := below_alloc (Below.refl w1.heap.size w1) (.cells #[.slice none 0 0, .slice none 0 0, .int .i64 0] 51)
          have hn := blk_new w1 (.cells #[.slice none 0 0, .slice none 0 0, .int .i64 0] 51)
          have HZ2 := lhid (show (World.alloc w1 (.cells #[.slice none 0 0, .slice none 0 0, .int .i64 0] 51)).heap.size = w1.heap.size + 1 from by simp)
          generalize hq : World.alloc w1 (.cells #[.slice none 0 0, .slice none 0 0, .int .i64 0] 51) = w2 at hb hn HZ2 ⊢
          clear hq
          have HB_73 := lhid (below_then HB_71.out HB_71.out.size hb)
          have XB_74 := lhid (blk_below XB_72.out hb)
          clear HB_71 XB_72 hb
          have RZ_75 := lhid (hn)
          clear hn
          obtain ⟨rb, hrb⟩ : ∃ q, q = xb + 1 := ⟨_, rfl⟩
          rw [show w1.heap.size = rb by rw [hrb]; have z1 := HZ1.out; have y0 := Exb.out; omega] at RZ_75
          rw [← hrb]
          have Erb := lhid hrb
          clear hrb
          have HNE := lhid (show xb = w.heap.size + 0 ∧ rb = w.heap.size + 1 ∧ w2.heap.size = w.heap.size + 2 by have z1 := HZ1.out; have z2 := HZ2.out; have y0 := Exb.out;  have y1 := Erb.out; omega)
          clear Exb Erb HZ1 HZ2
          have HRB := lhid (show w.heap.size ≤ rb by have := HNE.out; omega)
          obtain ⟨z0, z1, z2⟩ := three XB_74.out
          go_wp2_with fail
          have hq := has_r w2 AG cG G AE cE E day ((q : Int) + 1) (HRW.out.rb HB_73.out) HT.out
          rw [hasB_yes hr] at hq
          have HQ := lhid hq
          clear hq
          with_reducible refine HQ.out.mono ?_
          rintro e w5 ⟨rfl, hb⟩
          clear HQ
          clear z0 z1 z2
          have HB_76 := lhid (below_then HB_73.out HB_73.out.size hb)
          have XB_77 := lhid (blk_below XB_74.out hb)
          have RZ_78 := lhid (blk_below RZ_75.out hb)
          clear HB_73 XB_74 RZ_75 hb
          go_wp2_with fail
          with_reducible refine (person_r _ by_).mono ?_
          rintro e w' ⟨rfl, rfl⟩
          rw [hp]
          clear hp hr
          obtain ⟨ad, eA, -⟩ := at_T39 ((HRW.out.rb HB_76.out)).c (q : Int) (by omega) (by omega)
          subst eA
          go_upto_region 7 with (fail)
          go_loopw [9, 10] (fun c t wr => ∃ i : Nat, i ≤ G.length ∧ t = .int .i64 ((i : Int) + 1) ∧ c = .bool (mayK G (q + 1) by_ i) ∧ Hid (Below w.heap.size w wr) ∧ Hid (wr.heap[xb]? = some (.cells #[.slice (some ad) G.length cG, .slice AE E.length cE, .int .i64 day] 51)) ∧ Hid (wr.heap[rb]? = some (.cells #[.slice none 0 0, .slice none 0 0, .int .i64 0] 51))) (fun c t _ => G.length + 1 - (intOf t).toNat)
          case atStart => exact ⟨0, Nat.zero_le _, rfl, rfl, HB_76, XB_77, RZ_78⟩
          case round =>
            obtain ⟨i, hi, rfl, rfl, HBr_79, XBr_80, RZr_81⟩ := hrel
            clear HB_76 XB_77 RZ_78
            by_cases hlt : i < G.length
            · have hlt2 : (i : Int) + 1 ≤ (G.length : Int) := by omega
              have hi1 : (0 : Int) ≤ (i : Int) := by omega
              have hi2 : (i : Int) < (G.length : Int) := by omega
              have hmk : mayK G (q + 1) by_ (i + 1) = (mayK G (q + 1) by_ i || (undR G (q + 1) ((i : Int) + 1) && (gr G (i + 1)).f3 == by_)) := rfl
              obtain ⟨b, hb0⟩ : ∃ b, b = mayK G (q + 1) by_ i := ⟨_, rfl⟩
              rw [← hb0] at hmk ⊢
              have HMK := lhid hmk
              clear hb0 hmk
              cases b
              · obtain ⟨z0, z1, z2⟩ := three XBr_80.out
                go_wp2_with fail
                try any_goals (exfalso; omega)
                have hq := Under_r wr (some ad) cG G AE cE E day ((q : Int) + 1) ((i : Int) + 1) (HRW.out.rb HBr_79.out) HT.out (by omega) (by omega)
                rw [show ((q : Int) + 1).toNat = q + 1 by omega] at hq
                have HQ := lhid hq
                clear hq
                with_reducible refine HQ.out.mono ?_
                rintro e w7 ⟨rfl, hb⟩
                clear HQ
                clear z0 z1 z2
                have HB_82 := lhid (below_then HBr_79.out HBr_79.out.size hb)
                have XB_83 := lhid (blk_below XBr_80.out hb)
                have RZ_84 := lhid (blk_below RZr_81.out hb)
                clear HBr_79 XBr_80 RZr_81 hb
                cases hu : undR G (q + 1) ((i : Int) + 1)
                · go_wp2_with fail
                  try any_goals (exfalso; omega)
                  go_roundw
                  case rel => exact ⟨i + 1, by omega, by simp, by rw [HMK.out, hu]; rfl, HB_82, XB_83, RZ_84⟩
                  case measure => simp [intOf]; omega
                · obtain ⟨ad', eA', x0, x1, x2, x3, x4, x5, x6, x7, x8⟩ := at_T39 ((HRW.out.rb HB_82.out)).c (i : Int) (by omega) (by omega)
                  cases eA'
                  simp only [rd_gr, Int.toNat_natCast] at x3
                  clear x0 x1 x2 x4 x5 x6 x7 x8
                  obtain ⟨f, hf⟩ : ∃ f, f = (gr G (i + 1)).f3 := ⟨_, rfl⟩
                  rw [← hf] at x3
                  have HF := lhid hf
                  clear hf
                  obtain ⟨z0, z1, z2⟩ := three XB_83.out
                  go_wp2_with fail
                  try any_goals (exfalso; omega)
                  clear z0 z1 z2
                  clear x3
                  go_roundw
                  case rel => exact ⟨i + 1, by omega, by simp, by rw [HMK.out, hu, ← HF.out]; rfl, HB_82, XB_83, RZ_84⟩
                  case measure => simp [intOf]; omega
              · obtain ⟨z0, z1, z2⟩ := three XBr_80.out
                go_wp2_with fail
                try any_goals (exfalso; omega)
                clear z0 z1 z2
                go_roundw
                case rel => exact ⟨i + 1, by omega, by simp, by rw [HMK.out]; rfl, HBr_79, XBr_80, RZr_81⟩
                case measure => simp [intOf]; omega
            · have hie : i = G.length := by omega
              subst hie
              have hmh := may_held HT.out (n := q + 1) (by omega) by_
              rw [hmh]
              clear hmh hlt hi
              have hlt2 : ¬ ((G.length : Int) + 1 ≤ (G.length : Int)) := by omega
              rw [hh]
              obtain ⟨z0, z1, z2⟩ := three XBr_80.out
              go_wp2_with fail
              try any_goals (exfalso; omega)
              have hq := revoked_r wr (some ad) cG G AE cE E day ((q : Int) + 1) (HRW.out.rb HBr_79.out) HT.out (by omega) (by omega)
              rw [show ((q : Int) + 1).toNat = q + 1 by omega, hv] at hq
              have HQ := lhid hq
              clear hq
              with_reducible refine HQ.out.mono ?_
              rintro e w8 ⟨rfl, hb⟩
              clear HQ
              clear z0 z1 z2
              have HB_85 := lhid (below_then HBr_79.out HBr_79.out.size hb)
              have XB_86 := lhid (blk_below XBr_80.out hb)
              have RZ_87 := lhid (blk_below RZr_81.out hb)
              clear HBr_79 XBr_80 RZr_81 hb
              obtain ⟨z0, z1, z2⟩ := three XB_86.out
              obtain ⟨r0, r1, r2⟩ := three RZ_87.out
              have hfz : ∀ o, w8.frozen? ⟨rb, o, none⟩ = false := fun o => blk_frozen RZ_87.out o
              go_wp2_with fail
              try any_goals (exfalso; omega)
              try any_goals (exfalso; contradiction)
              clear z0 z1 z2
              clear r0 r1 r2 hfz
              have hz1 := blk_put RZ_87.out 0 (.slice (some ad) G.length cG) rfl
              have hz2 := blk_put hz1 1 (.slice AE E.length cE) rfl
              have hz3 := blk_put hz2 2 (.int .i64 day) rfl
              have hB := ((HB_85.out.setCell (p := ⟨rb, 0, none⟩) HRB.out (.slice (some ad) G.length cG)).setCell (p := ⟨rb, 1, none⟩) HRB.out (.slice AE E.length cE)).setCell (p := ⟨rb, 2, none⟩) HRB.out (.int .i64 day)
              clear hz1 hz2
              generalize (World.setCell (World.setCell (World.setCell w8 ⟨rb, 0, none⟩ (.slice (some ad) G.length cG)) ⟨rb, 1, none⟩ (.slice AE E.length cE)) ⟨rb, 2, none⟩ (.int .i64 day)) = w9 at hz3  hB ⊢
              refine bodyPost_ret (results_ctt rfl _ _ rb 51 #[(.slice (some ad) G.length cG), (.slice AE E.length cE), (.int .i64 day)] (0, 0) _ rfl hz3 Try.underlying51 rfl (by kernel_rfl)) rfl ?_
              exact ⟨_, rfl, bok_same HRW.out hB, hB⟩
  · have hc : revC G n by_ = 6 := by unfold revC; rw [if_pos hr]
    rw [if_neg (by rw [hc]; decide), if_neg (by rw [hc]; decide), hc]
    clear hc
    have hu51 := Try.underlying51
    have hu39 := Try.underlying39
    have hu44 := Try.underlying44
    go_enter Try.func70, Try.ntmps70
    have HB_88 := lhid (Below.refl w.heap.size w)
    go_upto_region 1 with (fail)
    have hb := below_alloc (Below.refl w.heap.size w) (.cells #[.slice AG G.length cG, .slice AE E.length cE, .int .i64 day] 51)
    have hn := blk_new w (.cells #[.slice AG G.length cG, .slice AE E.length cE, .int .i64 day] 51)
    have HZ1 := lhid (show (World.alloc w (.cells #[.slice AG G.length cG, .slice AE E.length cE, .int .i64 day] 51)).heap.size = w.heap.size + 1 from by simp)
    generalize hq : World.alloc w (.cells #[.slice AG G.length cG, .slice AE E.length cE, .int .i64 day] 51) = w1 at hb hn HZ1 ⊢
    clear hq
    have HB_89 := lhid (below_then HB_88.out HB_88.out.size hb)
    clear HB_88 hb
    have XB_90 := lhid (hn)
    clear hn
    obtain ⟨xb, hxb⟩ : ∃ q, q = w.heap.size := ⟨_, rfl⟩
    rw [← hxb] at XB_90 ⊢
    have Exb := lhid hxb
    clear hxb
    have hb := below_alloc (Below.refl w1.heap.size w1) (.cells #[.slice none 0 0, .slice none 0 0, .int .i64 0] 51)
    have hn := blk_new w1 (.cells #[.slice none 0 0, .slice none 0 0, .int .i64 0] 51)
    have HZ2 := lhid (show (World.alloc w1 (.cells #[.slice none 0 0, .slice none 0 0, .int .i64 0] 51)).heap.size = w1.heap.size + 1 from by simp)
    generalize hq : World.alloc w1 (.cells #[.slice none 0 0, .slice none 0 0, .int .i64 0] 51) = w2 at hb hn HZ2 ⊢
    clear hq
    have HB_91 := lhid (below_then HB_89.out HB_89.out.size hb)
    have XB_92 := lhid (blk_below XB_90.out hb)
    clear HB_89 XB_90 hb
    have RZ_93 := lhid (hn)
    clear hn
    obtain ⟨rb, hrb⟩ : ∃ q, q = xb + 1 := ⟨_, rfl⟩
    rw [show w1.heap.size = rb by rw [hrb]; have z1 := HZ1.out; have y0 := Exb.out; omega] at RZ_93
    rw [← hrb]
    have Erb := lhid hrb
    clear hrb
    have HNE := lhid (show xb = w.heap.size + 0 ∧ rb = w.heap.size + 1 ∧ w2.heap.size = w.heap.size + 2 by have z1 := HZ1.out; have z2 := HZ2.out; have y0 := Exb.out;  have y1 := Erb.out; omega)
    clear Exb Erb HZ1 HZ2
    have HRB := lhid (show w.heap.size ≤ rb by have := HNE.out; omega)
    obtain ⟨z0, z1, z2⟩ := three XB_92.out
    go_wp2_with fail
    have hq := has_r w2 AG cG G AE cE E day n (HRW.out.rb HB_91.out) HT.out
    rw [hasB_no hr] at hq
    have HQ := lhid hq
    clear hq
    with_reducible refine HQ.out.mono ?_
    rintro e w5 ⟨rfl, hb⟩
    clear HQ
    clear z0 z1 z2
    have HB_94 := lhid (below_then HB_91.out HB_91.out.size hb)
    have XB_95 := lhid (blk_below XB_92.out hb)
    have RZ_96 := lhid (blk_below RZ_93.out hb)
    clear HB_91 XB_92 RZ_93 hb
    obtain ⟨z0, z1, z2⟩ := three XB_95.out
    obtain ⟨r0, r1, r2⟩ := three RZ_96.out
    have hfz : ∀ o, w5.frozen? ⟨rb, o, none⟩ = false := fun o => blk_frozen RZ_96.out o
    go_wp2_with fail
    try any_goals (exfalso; omega)
    try any_goals (exfalso; contradiction)
    clear z0 z1 z2
    clear r0 r1 r2 hfz
    have hz1 := blk_put RZ_96.out 0 (.slice AG G.length cG) rfl
    have hz2 := blk_put hz1 1 (.slice AE E.length cE) rfl
    have hz3 := blk_put hz2 2 (.int .i64 day) rfl
    have hB := ((HB_94.out.setCell (p := ⟨rb, 0, none⟩) HRB.out (.slice AG G.length cG)).setCell (p := ⟨rb, 1, none⟩) HRB.out (.slice AE E.length cE)).setCell (p := ⟨rb, 2, none⟩) HRB.out (.int .i64 day)
    clear hz1 hz2
    generalize (World.setCell (World.setCell (World.setCell w5 ⟨rb, 0, none⟩ (.slice AG G.length cG)) ⟨rb, 1, none⟩ (.slice AE E.length cE)) ⟨rb, 2, none⟩ (.int .i64 day)) = w9 at hz3  hB ⊢
    refine bodyPost_ret (results_ctt rfl _ _ rb 51 #[(.slice AG G.length cG), (.slice AE E.length cE), (.int .i64 day)] (0, 0) _ rfl hz3 Try.underlying51 rfl (by kernel_rfl)) rfl ?_
    exact ⟨_, rfl, bok_same HRW.out hB, hB⟩
end Go.Proofs.Ytfnlghjkjmppdaa.PC
end
section
namespace Go.Proofs.Ytfnlghjkjmppdaa.PC
open Go.RowKit Go.Proofs.YtfnlghjkjmppdaaW.PrintWords Go.Proofs.YtfnlghjkjmppdaaW.PrintLast Go.Proofs.YtfnlghjkjmppdaaW.PrintMore
set_option linter.unusedVariables false
set_option linter.unusedSimpArgs false
def refG (G : List S39) (M : List Int) : List S39 := (List.range G.length).map fun i => { gr G (i + 1) with f7 := M.getD i 0 }
theorem refG_len (G : List S39) (M : List Int) : (refG G M).length = G.length := by unfold refG; simp
theorem gr_ref (G : List S39) (M : List Int) {n : Nat} (h1 : 1 ≤ n) (h2 : n ≤ G.length) : gr (refG G M) n = { gr G n with f7 := M.getD (n - 1) 0 } := by
  obtain ⟨m, rfl⟩ : ∃ m, n = m + 1 := ⟨n - 1, by omega⟩
  rw [gr_getD, List.getD_eq_getElem?_getD]
  unfold refG
  rw [List.getElem?_map, List.getElem?_range (by omega)]; rfl
def Same (s : St) (M : List Int) : Prop := UsI s M ∧ ∀ x ∈ M, -1 ≤ x ∧ x ≤ 1048576
section
variable {s : St} {M : List Int} (h : Same s M)
theorem Same.inv (h : Same s M) : Inv s.G := h.1.1.1
theorem Same.ein (h : Same s M) : EIn s.G s.E := h.1.2.1
theorem Same.tree (h : Same s M) : Tree (refG s.G M) := ⟨by rw [refG_len]; exact h.inv.1.1, fun n a b => by
  rw [refG_len] at b
  rw [gr_ref _ _ a b]; exact h.inv.1.2 n a b⟩
theorem Same.up (h : Same s M) {n : Nat} (hn : n ≤ s.G.length) : up (refG s.G M) n = up s.G n :=
  up_same h.inv.1 h.tree (refG_len _ _) (fun k a b => by rw [gr_ref _ _ a b]) n n (Nat.le_refl _) hn
theorem Same.einR (h : Same s M) : EIn (refG s.G M) s.E := by
  unfold EIn
  rw [refG_len]; exact h.ein
theorem Same.used (h : Same s M) (n : Nat) : usedN (refG s.G M) s.E n = usedN s.G s.E n := used_same h.ein (fun m hm => h.up hm)
theorem Same.left (h : Same s M) {n : Nat} (h1 : 1 ≤ n) (h2 : n ≤ s.G.length) : leftN (refG s.G M) s.E n = (gr s.G n).f7 := by
  obtain ⟨a, b⟩ := h.1.2.2.2 n h1 h2
  unfold leftN
  rw [gr_ref _ _ h1 h2, h.used]
  show (if M.getD (n - 1) 0 < 0 then -1 else M.getD (n - 1) 0 - (usedN s.G s.E n : Nat)) = _
  by_cases c : M.getD (n - 1) 0 < 0
  · rw [if_pos c, a c]
  · rw [if_neg c, (b (by omega)).1]
theorem Same.bound (h : Same s M) (m : Nat) (h1 : 1 ≤ m) (h2 : m ≤ (refG s.G M).length) : (gr (refG s.G M) m).f7 ≤ 1048576 := by
  rw [refG_len] at h2
  rw [gr_ref _ _ h1 h2]
  show M.getD (m - 1) 0 ≤ 1048576
  have hl := h.1.2.2.1
  rw [List.getD_eq_getElem?_getD, List.getElem?_eq_getElem (by omega)]
  exact (h.2 _ (List.getElem_mem _)).2
theorem Same.invR (h : Same s M) : Inv (refG s.G M) := ⟨h.tree, fun n a b => by
  rw [refG_len] at b
  obtain ⟨o1, o2, o3, o4, o5, o6, o7, o8, o9⟩ := h.inv.2 n a b
  have hl := h.1.2.2.1
  have hm : -1 ≤ M.getD (n - 1) 0 ∧ M.getD (n - 1) 0 ≤ 1048576 := by
    rw [List.getD_eq_getElem?_getD, List.getElem?_eq_getElem (by omega)]
    exact h.2 _ (List.getElem_mem _)
  rw [gr_ref _ _ a b]
  exact ⟨o1, o2, o3, o4, o5, o6, o7, hm.1, hm.2⟩⟩
theorem Same.rev (h : Same s M) {n : Nat} (hn : n ≤ s.G.length) : revB (refG s.G M) n = revB s.G n :=
  revB_same h.inv.1 h.tree (refG_len _ _) (fun k a b => by rw [gr_ref _ _ a b]; exact ⟨rfl, rfl⟩) hn
theorem Same.st (h : Same s M) {n : Nat} (h1 : 1 ≤ n) (hn : n ≤ s.G.length) : stB s.day (refG s.G M) n = stB s.day s.G n := by
  unfold stB
  rw [h.rev hn, gr_ref _ _ h1 hn]
theorem any_in {l : List Nat} {f g : Nat → Bool} (h : ∀ m ∈ l, f m = g m) : l.any f = l.any g := by
  induction l with
  | nil => rfl
  | cons a l ih => rw [List.any_cons, List.any_cons, h a (by simp), ih (fun m q => h m (by simp [q]))]
theorem Same.sp (h : Same s M) {n : Nat} (hn : n ≤ s.G.length) : spR (refG s.G M) s.E n = spB s.G n := by
  unfold spR spB
  rw [h.up hn]
  exact any_in (fun m hm => by have := up_rng h.inv.1 hn m hm; rw [h.left this.1 this.2])
theorem Same.held (h : Same s M) {n : Nat} (hn : n ≤ s.G.length) (b : Int) : heldB (refG s.G M) n b = heldB s.G n b := by
  unfold heldB
  rw [h.up hn]
  exact any_in (fun m hm => by have := up_rng h.inv.1 hn m hm; rw [gr_ref _ _ this.1 this.2])
theorem Same.revC (h : Same s M) (n b : Int) : revC (refG s.G M) n b = PC.revC s.G n b := by
  unfold PC.revC
  rw [refG_len]
  by_cases c : 1 ≤ n ∧ n ≤ s.G.length
  · rw [h.held (by omega), h.rev (by omega)]
  · rw [if_pos c, if_pos c]
theorem Same.key (h : Same s M) {v n b : Int} (v0 : 0 ≤ v) (v1 : v ≤ 15) : keyR s.day (refG s.G M) s.E v n b = keyC s.day s.G v n b := by
  unfold keyR keyC
  rw [refG_len]
  by_cases c : 1 ≤ n ∧ n ≤ s.G.length
  · have hb : badR s.day (refG s.G M) v n.toNat b = badB s.day s.G v n.toNat b := by
      obtain ⟨o1, o2, o3, o4, o5, o6, _⟩ := h.inv.2 n.toNat (by omega) (by omega)
      have e2 := serv_bit (p := (gr s.G n.toNat).f4) ⟨by omega, o4⟩ v0 v1
      have e3 := shr_bit (p := (gr s.G n.toNat).f4) ⟨by omega, o4⟩ v0 v1
      have e : shr .i64 (gr s.G n.toNat).f4 v = (gr s.G n.toNat).f4 / 2 ^ v.toNat := by
        unfold shr
        rw [Nat.min_eq_left (show v.toNat ≤ IntKind.bits .i64 by show v.toNat ≤ 64; omega)]
      rw [e] at e3
      have hm : ((gr s.G n.toNat).f4 / 2 ^ v.toNat).tmod 2 = 0 ∨ ((gr s.G n.toNat).f4 / 2 ^ v.toNat).tmod 2 = 1 := by
        have hq : 0 ≤ (gr s.G n.toNat).f4 / 2 ^ v.toNat := Int.ediv_nonneg (by omega) (Int.pow_nonneg (by omega))
        rw [Int.tmod_eq_emod_of_nonneg hq]; omega
      unfold badR badB
      rw [h.st (by omega) (by omega), gr_ref _ _ (by omega) (by omega)]
      show (((gr s.G n.toNat).f3 != b) || !stB s.day s.G n.toNat || (bits .and .i64 (gr s.G n.toNat).f5 1 == 0) || ((gr s.G n.toNat).f4 / 2 ^ v.toNat).tmod 2 == 0) = _
      have e4 : (((gr s.G n.toNat).f4 / 2 ^ v.toNat).tmod 2 == 0) = (bits .and .i64 (gr s.G n.toNat).f4 (wrap64 ((2 : Int) ^ v.toNat)) == 0) := by
        rw [← Bool.not_inj_iff]
        show (((gr s.G n.toNat).f4 / 2 ^ v.toNat).tmod 2 != 0) = (bits .and .i64 (gr s.G n.toNat).f4 (wrap64 ((2 : Int) ^ v.toNat)) != 0)
        rw [e2, ← e3]
        rcases hm with q | q <;> rw [q] <;> rfl
      have e5 : ((gr s.G n.toNat).f3 != b) = decide (b ≠ (gr s.G n.toNat).f3) := by
        by_cases q : b = (gr s.G n.toNat).f3
        · subst q; simp
        · rw [decide_eq_true q]; exact bne_iff_ne.2 (fun z => q z.symm)
      rw [e4, e5]
    rw [hb, h.sp (by omega)]
  · rw [if_pos c, if_pos c]
theorem Same.open_ (h : Same s M) (v n nb m mb : Int) (hE : s.E.length ≤ 100) : oRC s.day (refG s.G M) s.E v n nb m mb = openC s.day s.G s.E v n nb m mb := by
  unfold oRC openC
  by_cases c : 0 ≤ v ∧ v ≤ 15
  · have hnn : ¬ ¬ (0 ≤ v ∧ v ≤ 15) := fun q => q c
    rw [if_neg hnn, if_neg hnn, h.key c.1 c.2, h.key c.1 c.2]
    by_cases k1 : keyC s.day s.G v n nb = 0
    · have hn1 : ¬ (keyC s.day s.G v n nb ≠ 0) := fun q => q k1
      rw [if_neg hn1, if_neg hn1]
      by_cases k2 : keyC s.day s.G v m mb = 0
      · have r1 := keyC_in k1
        have r2 := keyC_in k2
        have hn2 : ¬ (keyC s.day s.G v m mb ≠ 0) := fun q => q k2
        rw [if_neg hn2, if_neg hn2, gr_ref _ _ (by omega) (by omega), gr_ref _ _ (by omega) (by omega)]
        by_cases c4 : nb = mb ∨ (gr s.G n.toNat).f2 = (gr s.G m.toNat).f2
        · rw [if_pos c4, if_pos c4]
        · rw [if_neg c4, if_neg c4, if_neg (by omega)]
      · rw [if_pos k2, if_pos k2]
    · rw [if_pos k1, if_pos k1]
  · rw [if_pos c, if_pos c]
theorem and_in {a b : Int} (ha : Sm a) (hb : Sm b) : (bits .and .i64 a b != a) = !(bits .andNot .i64 a b == 0) := by
  obtain ⟨A, rfl⟩ := Int.eq_ofNat_of_zero_le ha.1
  obtain ⟨B, rfl⟩ := Int.eq_ofNat_of_zero_le hb.1
  have h1 := ha.2
  have h2 := hb.2
  rw [and_n A B (by omega) (by omega), andNot_n A B (by omega) (by omega)]
  have key : (A &&& B = A) ↔ (A &&& (18446744073709551615 - B) = 0) := by
    constructor
    · intro q
      apply Nat.eq_of_testBit_eq
      intro i
      rw [andNot_bit A B i (by omega) (by omega), Nat.zero_testBit]
      have := congrArg (fun x => x.testBit i) q
      simp only [Nat.testBit_and] at this
      cases hA : A.testBit i <;> cases hB : B.testBit i <;> simp_all
    · intro q
      apply Nat.eq_of_testBit_eq
      intro i
      have := congrArg (fun x => x.testBit i) q
      simp only [andNot_bit A B i (by omega) (by omega), Nat.zero_testBit] at this
      rw [Nat.testBit_and]
      cases hA : A.testBit i <;> cases hB : B.testBit i <;> simp_all
  by_cases c : A &&& B = A
  · have d := key.1 c
    rw [c, d]; simp
  · have d : A &&& (18446744073709551615 - B) ≠ 0 := fun q => c (key.2 q)
    have e1 : (((A &&& B : Nat) : Int) != (A : Int)) = true := bne_iff_ne.2 (by omega)
    have e2 : (((A &&& (18446744073709551615 - B) : Nat) : Int) == 0) = false := beq_eq_false_iff_ne.2 (by omega)
    rw [e1, e2]; rfl
theorem Same.pass (h : Same s M) (n b h_ v r u t : Int) : pRC s.day (refG s.G M) s.E n b h_ v r u t = passC s.day s.G n b h_ v r u t ∧ pOk s.day (refG s.G M) s.E n b h_ v r u t = (decide (passC s.day s.G n b h_ v r u t = 0) || decide (passC s.day s.G n b h_ v r u t = 8)) := by
  unfold pRC passC pOk
  rw [refG_len]
  by_cases c : 1 ≤ n ∧ n ≤ s.G.length
  · have hnn : ¬ ¬ (1 ≤ n ∧ n ≤ s.G.length) := fun q => q c
    rw [if_neg hnn, if_neg hnn, decide_eq_true c]
    cases c2 : mayB h_ v r u t
    · simp
    · cases c3 : perB b
      · simp
      · obtain ⟨m1, m2, m3, m4, m5, m6, m7, m8, m9⟩ := mayB_iff.1 c2
        obtain ⟨o1, o2, o3, o4, o5, o6, o7, o8, o9⟩ := h.inv.2 n.toNat (by omega) (by omega)
        have hb : badP s.day (refG s.G M) s.E n.toNat b v r u t = !rightB s.day s.G n.toNat b v r u t := by
          unfold badP rightB
          rw [h.st (by omega) (by omega), h.left (by omega) (by omega), gr_ref _ _ (by omega) (by omega)]
          show (((gr s.G n.toNat).f3 != b) || (!stB s.day s.G n.toNat || ((bits .and .i64 (gr s.G n.toNat).f5 2 == 0) || ((bits .and .i64 v (gr s.G n.toNat).f4 != v) || ((bits .and .i64 r (gr s.G n.toNat).f5 != r) || (decide (u > (gr s.G n.toNat).f6) || !fitsR (gr s.G n.toNat).f7 t)))))) = _
          rw [and_in ⟨by omega, m4⟩ ⟨by omega, o4⟩, and_in ⟨by omega, by omega⟩ ⟨by omega, by omega⟩]
          have e1 : (b == (gr s.G n.toNat).f3) = !((gr s.G n.toNat).f3 != b) := by
            by_cases q : b = (gr s.G n.toNat).f3
            · subst q; simp
            · rw [beq_eq_false_iff_ne.2 q, bne_iff_ne.2 (fun z => q z.symm)]; rfl
          have e2 : decide (u ≤ (gr s.G n.toNat).f6) = !decide (u > (gr s.G n.toNat).f6) := by
            by_cases q : u ≤ (gr s.G n.toNat).f6
            · rw [decide_eq_true q, decide_eq_false (by omega)]; rfl
            · rw [decide_eq_false q, decide_eq_true (by omega)]; rfl
          have e3 : fitsR (gr s.G n.toNat).f7 t = (decide ((gr s.G n.toNat).f7 = -1) || (!decide (t = -1) && decide (t ≤ (gr s.G n.toNat).f7))) := by
            unfold fitsR
            have z1 : ((gr s.G n.toNat).f7 == -1) = decide ((gr s.G n.toNat).f7 = -1) := by
              by_cases q : (gr s.G n.toNat).f7 = -1
              · rw [decide_eq_true q]; exact beq_iff_eq.2 q
              · rw [decide_eq_false q]; exact beq_eq_false_iff_ne.2 q
            have z2 : (t != -1) = !decide (t = -1) := by
              by_cases q : t = -1
              · rw [decide_eq_true q, q]; rfl
              · rw [decide_eq_false q]; exact bne_iff_ne.2 q
            rw [z1, z2]
          rw [e1, e2, e3]
          cases ((gr s.G n.toNat).f3 != b) <;> cases stB s.day s.G n.toNat <;> cases hx : (bits .and .i64 (gr s.G n.toNat).f5 2 == 0) <;> cases (bits .andNot .i64 v (gr s.G n.toNat).f4 == 0) <;> cases (bits .andNot .i64 r (gr s.G n.toNat).f5 == 0) <;> cases decide (u > (gr s.G n.toNat).f6) <;> simp [bne, hx]
        rw [hb]
        cases c4 : rightB s.day s.G n.toNat b v r u t
        · simp
        · unfold putC
          rw [refG_len]
          by_cases c5 : 128 ≤ s.G.length <;> simp [c5]
  · rw [if_pos c, if_pos c, decide_eq_false c]; simp
end
end Go.Proofs.Ytfnlghjkjmppdaa.PC
end
section
namespace Go.Proofs.Ytfnlghjkjmppdaa.PC
open Go.RowKit Go.Proofs.YtfnlghjkjmppdaaW.PrintWords Go.Proofs.YtfnlghjkjmppdaaW.PrintLast Go.Proofs.YtfnlghjkjmppdaaW.PrintMore
set_option linter.unusedVariables false
set_option linter.unusedSimpArgs false
theorem key_ok {day : Int} {G : List S39} {v n by_ : Int} (hI : Inv G) (v0 : 0 ≤ v) (v1 : v ≤ 15) (h1 : 1 ≤ n) (h2 : n ≤ G.length) (hb : by_ = (gr G n.toNat).f3) (hs : stB day G n.toNat = true) (hr : tb (gr G n.toNat).f5 0 = true) (hv : tb (gr G n.toNat).f4 v.toNat = true) (hu : spB G n.toNat = false) : keyC day G v n by_ = 0 := by
  obtain ⟨o1, o2, o3, o4, o5, o6, _⟩ := hI.2 n.toNat (by omega) (by omega)
  have hbad : badB day G v n.toNat by_ = false := by
    unfold badB
    have e1 := one_bit (a := (gr G n.toNat).f5) (by omega) o6
    have e2 := serv_bit (p := (gr G n.toNat).f4) ⟨by omega, o4⟩ v0 v1
    rw [hr] at e1
    rw [hv] at e2
    have e1' : (bits .and .i64 (gr G n.toNat).f5 1 == 0) = false := beq_eq_false_iff_ne.2 (bne_iff_ne.1 e1)
    have e2' : (bits .and .i64 (gr G n.toNat).f4 (wrap64 ((2 : Int) ^ v.toNat)) == 0) = false := beq_eq_false_iff_ne.2 (bne_iff_ne.1 e2)
    rw [hs, e1', e2', decide_eq_false (fun q => q hb)]; rfl
  unfold keyC
  rw [if_neg (fun q => q ⟨h1, h2⟩), hbad, hu]; rfl
def Srv (day : Int) (G : List S39) (p : Int) (v n : Nat) : Prop := (1 ≤ n ∧ n ≤ G.length) ∧ tb p (gr G n).f3.toNat = true ∧ tb (gr G n).f5 0 = true ∧ stB day G n = true ∧ spB G n = false ∧ tb (gr G n).f4 v = true
theorem Srv.key {day : Int} {G : List S39} {p : Int} {v n : Nat} (hI : Inv G) (h : Srv day G p v n) (hv : v ≤ 15) : keyC day G (v : Int) (n : Int) (gr G n).f3 = 0 := by
  obtain ⟨⟨h1, h2⟩, h3, h4, h5, h6, h7⟩ := h
  exact key_ok hI (by omega) (by omega) (by omega) (by omega) (by rw [Int.toNat_natCast]) (by rw [Int.toNat_natCast]; exact h5) (by rw [Int.toNat_natCast]; exact h4) (by rw [Int.toNat_natCast, Int.toNat_natCast]; exact h7) (by rw [Int.toNat_natCast]; exact h6)
def Less (G H : List S39) : Prop := H.length = G.length ∧ ∀ n, 1 ≤ n → ∃ u, gr H n = { gr G n with f7 := u } ∧ ((gr G n).f7 = 0 → u = 0)
theorem less_uses (ms : List Nat) : ∀ (G : List S39), (∀ m ∈ ms, 1 ≤ m ∧ m ≤ G.length) → Less G (ms.foldl use1 G) := by
  induction ms with
  | nil => intro G _; exact ⟨rfl, fun n _ => ⟨(gr G n).f7, rfl, id⟩⟩
  | cons m ms ih =>
    intro G hm
    rw [List.foldl_cons]
    obtain ⟨i1, i2⟩ := ih (use1 G m) (fun q hq => by rw [use1_len]; exact hm q (by simp [hq]))
    refine ⟨by rw [i1, use1_len], fun n hn => ?_⟩
    obtain ⟨u, e, hu⟩ := i2 n hn
    rw [gr_use1 G m n (hm m (by simp)).1 (hm m (by simp)).2 hn] at e hu
    refine ⟨u, e, fun z => hu ?_⟩
    show (if n = m ∧ 0 < (gr G m).f7 then (gr G n).f7 - 1 else (gr G n).f7) = 0
    by_cases c : n = m ∧ 0 < (gr G m).f7
    · obtain ⟨rfl, c⟩ := c; omega
    · rw [if_neg c]; exact z
end Go.Proofs.Ytfnlghjkjmppdaa.PC
end
section
namespace Go.Proofs.Ytfnlghjkjmppdaa.PC
open Go.RowKit Go.Proofs.YtfnlghjkjmppdaaW.PrintWords Go.Proofs.YtfnlghjkjmppdaaW.PrintLast Go.Proofs.YtfnlghjkjmppdaaW.PrintMore
set_option linter.unusedVariables false
set_option linter.unusedSimpArgs false
theorem gr_ext {G H : List S39} (hl : H.length = G.length) (h : ∀ n, 1 ≤ n → n ≤ G.length → gr H n = gr G n) : H = G := by
  apply List.ext_getElem? 
  intro i
  by_cases c : i < G.length
  · have := h (i + 1) (by omega) (by omega)
    rw [gr_getD, gr_getD, List.getD_eq_getElem?_getD, List.getD_eq_getElem?_getD, List.getElem?_eq_getElem c, List.getElem?_eq_getElem (by omega)] at this
    rw [List.getElem?_eq_getElem c, List.getElem?_eq_getElem (by omega)]
    simpa using this
  · rw [List.getElem?_eq_none (by omega), List.getElem?_eq_none (by omega)]
theorem ref_same {G H : List S39} {M : List Int} (hl : H.length = G.length) (h : ∀ n, 1 ≤ n → n ≤ G.length → ∃ u, gr H n = { gr G n with f7 := u }) : refG H M = refG G M := by
  refine gr_ext (by rw [refG_len, refG_len, hl]) (fun n a b => ?_)
  rw [refG_len] at b
  obtain ⟨u, e⟩ := h n a b
  rw [gr_ref _ _ a (by omega), gr_ref _ _ a b, e]
theorem ref_app {G : List S39} {M : List Int} (hl : M.length = G.length) (x : S39) : refG (G ++ [x]) (M ++ [x.f7]) = refG G M ++ [x] := by
  refine gr_ext (by rw [refG_len]; simp [refG_len]) (fun n a b => ?_)
  simp [refG_len] at b
  rw [gr_ref _ _ a (by simp; omega)]
  by_cases c : n ≤ G.length
  · rw [gr_app_old G x n a c, gr_app_old _ x n a (by rw [refG_len]; exact c), gr_ref _ _ a c, List.getD_eq_getElem?_getD, List.getElem?_append_left (by omega), ← List.getD_eq_getElem?_getD]
  · have : n = G.length + 1 := by omega
    subst this
    have e := gr_app_new (refG G M) x
    rw [refG_len] at e
    rw [gr_app_new, e, List.getD_eq_getElem?_getD, show G.length + 1 - 1 = M.length by omega, List.getElem?_append_right (Nat.le_refl _)]; simp
theorem ref_put8 {G : List S39} {M : List Int} {m : Nat} (h1 : 1 ≤ m) (h2 : m ≤ G.length) : refG (put8 G m true) M = put8 (refG G M) m true := by
  refine gr_ext (by rw [refG_len, put8_len, put8_len, refG_len]) (fun n a b => ?_)
  rw [put8_len, refG_len] at b
  rw [gr_ref _ _ a (by rw [put8_len]; exact b), gr_put8 G m n true h1 h2 a, gr_put8 _ m n true h1 (by rw [refG_len]; exact h2) a]
  by_cases c : n = m
  · subst c; rw [if_pos rfl, if_pos rfl, gr_ref _ _ a b]
  · rw [if_neg c, if_neg c, gr_ref _ _ a b]
theorem newG_ref (G : List S39) (M : List Int) (x : S39) : newG (refG G M) x = newG G x := by unfold newG; rw [refG_len]
theorem same_new : Same s0 [] := ⟨usi_run [] 0 (Nat.le_refl _), fun x hx => by cases hx⟩
theorem same_step {s : St} {M : List Int} (h : Same s M) (a : S37) : Same (stepS s a) (madeS s M a) := by
  refine ⟨usi_step h.1 a, fun x hx => ?_⟩
  unfold madeS at hx
  rcases List.mem_append.1 hx with q | q
  · exact h.2 x q
  · obtain ⟨y, hy, rfl⟩ := List.mem_map.1 q
    have hI := step_inv h.inv a
    have hy2 := List.mem_of_mem_drop hy
    obtain ⟨i, hi, e⟩ := List.mem_iff_getElem.1 hy2
    have := (hI.2 (i + 1) (by omega) (by omega)).2.2.2.2.2.2.2
    rw [gr_getD, List.getD_eq_getElem?_getD, List.getElem?_eq_getElem hi] at this
    rw [← e]; exact this
section
variable {s : St} {M : List Int}
theorem made_none {t : St} (hl : t.G.length = s.G.length) : M ++ (t.G.drop s.G.length).map (·.f7) = M := by rw [← hl, List.drop_length]; simp
theorem made_one (x : S39) : M ++ ((s.G ++ [x]).drop s.G.length).map (·.f7) = M ++ [x.f7] := by rw [drop_app]; rfl
def refS (s : St) (M : List Int) (a : S37) : List S39 := refG (stepS s a).G (madeS s M a)
theorem ref_root (h : Same s M) {a : S37} (k : kd a = 0) : gRG (refG s.G M) a.f3 a.f6 a.f7 a.f8 a.f9 = refS s M a ∧ gRC (refG s.G M) a.f3 a.f6 a.f7 a.f8 a.f9 = grantC s.G a.f3 a.f6 a.f7 a.f8 a.f9 ∧ gRN (refG s.G M) a.f3 a.f6 a.f7 a.f8 a.f9 = (if grantC s.G a.f3 a.f6 a.f7 a.f8 a.f9 = 0 then (s.G.length : Int) + 1 else 0) := by
  have hst := (act_root (s := s) k).2
  have hml := h.1.2.2.1
  unfold refS madeS
  rw [hst]
  unfold gRG gRC gRN grantC putG putC putN
  rw [refG_len]
  by_cases c : mayB a.f3 a.f6 a.f7 a.f8 a.f9 = true
  · simp only [if_pos c]
    by_cases c2 : 128 ≤ s.G.length
    · simp only [if_pos c2]
      refine ⟨?_, by trivial, by simp⟩
      rw [if_neg (by decide), made_none (s := s) (t := ⟨s.day, s.G, s.E⟩) rfl]
    · simp only [if_neg c2, if_true]
      refine ⟨?_, trivial, trivial⟩
      unfold rootG
      rw [made_one, ref_app hml, newG_ref]
  · simp only [if_neg c]
    refine ⟨?_, trivial, rfl⟩
    rw [if_neg (by decide), made_none (s := s) (t := ⟨s.day, s.G, s.E⟩) rfl]
theorem ref_pass (h : Same s M) {a : S37} (k0 : kd a ≠ 0) (k : kd a = 1 ∨ kd a = 2) : pRG s.day (refG s.G M) s.E a.f1 a.f3 a.f4 a.f6 a.f7 a.f8 a.f9 = refS s M a ∧ pRN s.day (refG s.G M) s.E a.f1 a.f3 a.f4 a.f6 a.f7 a.f8 a.f9 = (if passC s.day s.G a.f1 a.f3 a.f4 a.f6 a.f7 a.f8 a.f9 = 0 then (s.G.length : Int) + 1 else 0) := by
  have hst := (act_pass (s := s) k0 k).2
  have hml := h.1.2.2.1
  obtain ⟨e1, e2⟩ := h.pass a.f1 a.f3 a.f4 a.f6 a.f7 a.f8 a.f9
  unfold refS madeS
  rw [hst]
  unfold pRG pRN
  rw [e2]
  unfold putG putN
  rw [refG_len]
  by_cases c : passC s.day s.G a.f1 a.f3 a.f4 a.f6 a.f7 a.f8 a.f9 = 0
  · obtain ⟨c1, _, _, _, c5⟩ := passC_zero c
    simp only [c, decide_true, Bool.true_or, if_true, if_neg (show ¬ 128 ≤ s.G.length by omega)]
    refine ⟨?_, trivial⟩
    unfold passG
    rw [made_one, ref_app hml, newG_ref, gr_ref _ _ (by omega) (by omega)]
  · by_cases c8 : passC s.day s.G a.f1 a.f3 a.f4 a.f6 a.f7 a.f8 a.f9 = 8
    · have c5 : 128 ≤ s.G.length := by
        apply Classical.byContradiction
        intro q
        unfold passC at c8
        iterate 5 (all_goals (first | omega | (split at c8)))
        all_goals omega
      simp only [c8, if_pos c5]
      refine ⟨?_, ?_⟩
      · rw [if_neg (show ¬ ((8 : Int) = 0) by decide), made_none (s := s) (t := ⟨s.day, s.G, s.E⟩) rfl]; simp
      · simp
    · rw [decide_eq_false c, decide_eq_false c8]
      simp only [Bool.or_false, if_neg c, Bool.false_eq_true, if_false]
      refine ⟨?_, trivial⟩
      rw [made_none (s := s) (t := ⟨s.day, s.G, s.E⟩) rfl]
theorem ref_revoke (h : Same s M) {a : S37} (k : kd a = 3) : (if revC (refG s.G M) a.f1 a.f3 = 0 then put8 (refG s.G M) a.f1.toNat true else refG s.G M) = refS s M a ∧ revC (refG s.G M) a.f1 a.f3 = revC s.G a.f1 a.f3 ∧ (revC s.G a.f1 a.f3 = 0 → revN s.day (refG s.G M) a.f1 = revN s.day s.G a.f1) := by
  have hst := (act_revoke (s := s) k).2
  have hr := h.revC a.f1 a.f3
  unfold refS madeS
  rw [hst, hr]
  refine ⟨?_, rfl, fun c => ?_⟩
  · by_cases c : revC s.G a.f1 a.f3 = 0
    · have hz := (revC_zero c).1
      rw [if_pos c]
      simp only [if_pos c]
      rw [made_none (s := s) (t := ⟨s.day, put8 s.G a.f1.toNat true, s.E⟩) (put8_len _ _ _), ref_put8 (by omega) (by omega)]
    · rw [if_neg c]
      simp only [if_neg c]
      rw [made_none (s := s) (t := ⟨s.day, s.G, s.E⟩) rfl]
  · have hz := (revC_zero c).1
    have key : ∀ x ∈ belowL s.G a.f1.toNat ++ [a.f1], 1 ≤ x ∧ x ≤ s.G.length := fun x hx => by
      rcases List.mem_append.1 hx with q | q
      · exact belowL_rng (by omega) x q
      · have : x = a.f1 := by simpa using q
        omega
    have hb : belowL (refG s.G M) a.f1.toNat = belowL s.G a.f1.toNat := by
      unfold belowL
      rw [refG_len]
      exact belL_same (fun i hi => h.up hi) _ _ (by omega)
    unfold revN
    rw [hb]
    congr 1
    unfold cntS
    rw [List.filter_congr (fun x hx => by have := key x hx; exact h.st (by omega) (by omega))]
theorem ref_next (h : Same s M) {a : S37} (k : kd a = 7) : refG s.G M = refS s M a ∧ nRD s.day a.f10 = (stepS s a).day := by
  have hst := (act_next (s := s) k).2
  unfold refS madeS
  rw [hst]
  refine ⟨by rw [made_none (s := s) (t := ⟨_, s.G, s.E⟩) rfl], ?_⟩
  unfold nRD nextC
  cases dayB a.f10
  · simp
  · by_cases c : a.f10 < s.day <;> simp [c]
theorem ref_open (h : Same s M) {a : S37} (k0 : kd a ≠ 0) (k1 : ¬ (kd a = 1 ∨ kd a = 2)) (k3 : kd a ≠ 3) (k7 : kd a ≠ 7) (hE : s.E.length ≤ 100) : refG s.G M = refS s M a ∧ oRE s.day (refG s.G M) s.E a.f10 a.f1 a.f3 a.f2 a.f4 = (stepS s a).E := by
  have hst := (act_open (s := s) k0 k1 k3 k7).2
  have ho := h.open_ a.f10 a.f1 a.f3 a.f2 a.f4 hE
  unfold refS madeS oRE
  rw [hst, ho]
  by_cases c : openC s.day s.G s.E a.f10 a.f1 a.f3 a.f2 a.f4 = 0
  · simp only [if_pos c]
    have hl := less_uses _ _ (open_rng h.inv.1 c).2.2
    refine ⟨?_, trivial⟩
    rw [made_none (s := s) (t := ⟨s.day, openG s.G a.f1 a.f2, s.E⟩) hl.1]
    exact (ref_same hl.1 (fun n q1 q2 => by obtain ⟨u, e, _⟩ := hl.2 n q1; exact ⟨u, e⟩)).symm
  · simp only [if_neg c]
    exact ⟨by rw [made_none (s := s) (t := ⟨s.day, s.G, s.E⟩) rfl], trivial⟩
end
end Go.Proofs.Ytfnlghjkjmppdaa.PC
end
section
namespace Go.Proofs.Ytfnlghjkjmppdaa.PC
open Go.RowKit Go.Proofs.YtfnlghjkjmppdaaW.PrintWords Go.Proofs.YtfnlghjkjmppdaaW.PrintLast Go.Proofs.YtfnlghjkjmppdaaW.PrintMore
set_option linter.unusedVariables false
set_option linter.unusedSimpArgs false
set_option maxHeartbeats 12800000 in
set_option maxRecDepth 100000 in
theorem Get_r (w : World) (AG : Option Addr) (cG : Nat) (G : List S39) (AE : Option Addr) (cE : Nat) (E : List S44) (day : Int) (n : Int) (h : RB w AG cG G AE cE E) (hT : Tree G) (hE : EIn G E) (hEl : E.length ≤ 100) (hU : ∀ m : Nat, 1 ≤ m → m ≤ G.length → (gr G m).f7 ≤ 1048576) : Calls Try.prog 52 #[.agg #[.slice AG G.length cG, .slice AE E.length cE, .int .i64 day], .int .i64 n] w fun e w' => e = .returned (.tuple (if 1 ≤ n ∧ n ≤ (G.length : Int) then #[.agg #[.int .i64 (getR G E n.toNat).f0, .int .i64 (getR G E n.toNat).f1, .int .i64 (getR G E n.toNat).f2, .int .i64 (getR G E n.toNat).f3, .int .i64 (getR G E n.toNat).f4, .int .i64 (getR G E n.toNat).f5, .int .i64 (getR G E n.toNat).f6, .int .i64 (getR G E n.toNat).f7, .bool (getR G E n.toNat).f8], .int .i64 0] else #[.agg #[.int .i64 0, .int .i64 0, .int .i64 0, .int .i64 0, .int .i64 0, .int .i64 0, .int .i64 0, .int .i64 0, .bool false], .int .i64 6])) ∧ Below w.heap.size w w' := by
  have HRW := lhid h
  have HT := lhid hT
  have hgl := hT.1
  have HE := lhid hE
  have HU := lhid hU
  clear h hT hE hU
  by_cases hr : 1 ≤ n ∧ n ≤ (G.length : Int)
  · rw [if_pos hr]
    have hu51 := Try.underlying51
    have hu39 := Try.underlying39
    have hu44 := Try.underlying44
    go_enter Try.func52, Try.ntmps52
    have HB_1 := lhid (Below.refl w.heap.size w)
    go_upto_region 1 with (fail)
    have hb := below_alloc (Below.refl w.heap.size w) (.cells #[.slice AG G.length cG, .slice AE E.length cE, .int .i64 day] 51)
    have hn := blk_new w (.cells #[.slice AG G.length cG, .slice AE E.length cE, .int .i64 day] 51)
    have HZ1 := lhid (show (World.alloc w (.cells #[.slice AG G.length cG, .slice AE E.length cE, .int .i64 day] 51)).heap.size = w.heap.size + 1 from by simp)
    generalize hq : World.alloc w (.cells #[.slice AG G.length cG, .slice AE E.length cE, .int .i64 day] 51) = w1 at hb hn HZ1 ⊢
    clear hq
    have HB_2 := lhid (below_then HB_1.out HB_1.out.size hb)
    clear HB_1 hb
    have XB_3 := lhid (hn)
    clear hn
    obtain ⟨xb, hxb⟩ : ∃ q, q = w.heap.size := ⟨_, rfl⟩
    rw [← hxb] at XB_3 ⊢
    have Exb := lhid hxb
    clear hxb
    have hb := below_alloc (Below.refl w1.heap.size w1) (.cells #[.int .i64 0, .int .i64 0, .int .i64 0, .int .i64 0, .int .i64 0, .int .i64 0, .int .i64 0, .int .i64 0, .bool false] 39)
    have hn := blk_new w1 (.cells #[.int .i64 0, .int .i64 0, .int .i64 0, .int .i64 0, .int .i64 0, .int .i64 0, .int .i64 0, .int .i64 0, .bool false] 39)
    have HZ2 := lhid (show (World.alloc w1 (.cells #[.int .i64 0, .int .i64 0, .int .i64 0, .int .i64 0, .int .i64 0, .int .i64 0, .int .i64 0, .int .i64 0, .bool false] 39)).heap.size = w1.heap.size + 1 from by simp)
    generalize hq : World.alloc w1 (.cells #[.int .i64 0, .int .i64 0, .int .i64 0, .int .i64 0, .int .i64 0, .int .i64 0, .int .i64 0, .int .i64 0, .bool false] 39) = w2 at hb hn HZ2 ⊢
    clear hq
    have HB_4 := lhid (below_then HB_2.out HB_2.out.size hb)
    have XB_5 := lhid (blk_below XB_3.out hb)
    clear HB_2 XB_3 hb
    have ZG_6 := lhid (hn)
    clear hn
    obtain ⟨zb, hzb⟩ : ∃ q, q = xb + 1 := ⟨_, rfl⟩
    rw [show w1.heap.size = zb by rw [hzb]; have z1 := HZ1.out; have y0 := Exb.out; omega] at ZG_6
    rw [← hzb]
    have Ezb := lhid hzb
    clear hzb
    have HNE := lhid (show xb = w.heap.size + 0 ∧ zb = w.heap.size + 1 ∧ w2.heap.size = w.heap.size + 2 by have z1 := HZ1.out; have z2 := HZ2.out; have y0 := Exb.out;  have y1 := Ezb.out; omega)
    clear Exb Ezb HZ1 HZ2
    have HRB := lhid (show w.heap.size ≤ zb by have h1 := HNE.out; omega)
    obtain ⟨z0, z1, z2⟩ := three XB_5.out
    go_wp2_with fail
    have hq := has_r w2 AG cG G AE cE E day n (RB.next HRW.out HB_4.out) HT.out
    rw [hasB_yes hr] at hq
    have HQ := lhid hq
    clear hq
    with_reducible refine HQ.out.mono ?_
    rintro e w5 ⟨rfl, hb⟩
    have HS5 := lhid hb.size
    clear HQ
    clear z0 z1 z2
    have HB_7 := lhid (below_then HB_4.out HB_4.out.size hb)
    have XB_8 := lhid (blk_below XB_5.out hb)
    have ZG_9 := lhid (blk_below ZG_6.out hb)
    clear HB_4 XB_5 ZG_6 hb
    obtain ⟨q, hq⟩ : ∃ q : Nat, n = (q : Int) + 1 := ⟨n.toNat - 1, by omega⟩
    subst hq
    obtain ⟨r1, r2⟩ := hr
    have hq1 : (0 : Int) ≤ (q : Int) := by omega
    have hq2 : (q : Int) < (G.length : Int) := by omega
    obtain ⟨ad, eA, x0, x1, x2, x3, x4, x5, x6, x7, x8⟩ := at_T39 (RB.next HRW.out HB_7.out).c (q : Int) (by omega) (by omega)
    subst eA
    simp only [rd_gr, Int.toNat_natCast] at x0 x1 x2 x3 x4 x5 x6 x7 x8
    obtain ⟨x, hx⟩ : ∃ x, x = gr G (q + 1) := ⟨_, rfl⟩
    rw [← hx] at x0 x1 x2 x3 x4 x5 x6 x7 x8
    have HX := lhid hx
    clear hx
    obtain ⟨z0, z1, z2⟩ := three XB_8.out
    go_upto_region 4 with (fail)
    try any_goals (exfalso; omega)
    clear z0 z1 z2
    clear x0 x1 x2 x3 x4 x5 x6 x7 x8
    have hb := below_alloc (Below.refl w5.heap.size w5) (.cells #[.int .i64 x.f0, .int .i64 x.f1, .int .i64 x.f2, .int .i64 x.f3, .int .i64 x.f4, .int .i64 x.f5, .int .i64 x.f6, .int .i64 x.f7, .bool x.f8] 39)
    have hn := blk_new w5 (.cells #[.int .i64 x.f0, .int .i64 x.f1, .int .i64 x.f2, .int .i64 x.f3, .int .i64 x.f4, .int .i64 x.f5, .int .i64 x.f6, .int .i64 x.f7, .bool x.f8] 39)
    have HZ3 := lhid (show (World.alloc w5 (.cells #[.int .i64 x.f0, .int .i64 x.f1, .int .i64 x.f2, .int .i64 x.f3, .int .i64 x.f4, .int .i64 x.f5, .int .i64 x.f6, .int .i64 x.f7, .bool x.f8] 39)).heap.size = w5.heap.size + 1 from by simp)
    generalize hq : World.alloc w5 (.cells #[.int .i64 x.f0, .int .i64 x.f1, .int .i64 x.f2, .int .i64 x.f3, .int .i64 x.f4, .int .i64 x.f5, .int .i64 x.f6, .int .i64 x.f7, .bool x.f8] 39) = w3 at hb hn HZ3 ⊢
    clear hq
    have HB_10 := lhid (below_then HB_7.out HB_7.out.size hb)
    have XB_11 := lhid (blk_below XB_8.out hb)
    have ZG_12 := lhid (blk_below ZG_9.out hb)
    clear HB_7 XB_8 ZG_9 hb
    have NB_13 := lhid (hn)
    clear hn
    obtain ⟨nb, hnb⟩ : ∃ z, z = w5.heap.size := ⟨_, rfl⟩
    rw [← hnb] at NB_13 ⊢
    have HNZ := lhid (show zb ≠ nb ∧ w.heap.size ≤ nb by have h1 := HNE.out; have h2 := HS5.out; omega)
    clear hnb
    obtain ⟨z0, z1, z2⟩ := three XB_11.out
    go_wp2_with fail
    try any_goals (exfalso; omega)
    have hq := left_r w3 (some ad) cG G AE cE E day ((q : Int) + 1) (RB.next HRW.out HB_10.out) HT.out HE.out hEl (by omega) (by omega) (HU.out _ (by omega) (by omega))
    rw [show ((q : Int) + 1).toNat = q + 1 by omega] at hq
    obtain ⟨l, hl⟩ : ∃ l, l = leftN G E (q + 1) := ⟨_, rfl⟩
    rw [← hl] at hq
    have HQ := lhid hq
    have HL := lhid hl
    clear hq hl
    with_reducible refine HQ.out.mono ?_
    rintro e w6 ⟨rfl, hb⟩
    clear HQ
    clear z0 z1 z2
    have HB_14 := lhid (below_then HB_10.out HB_10.out.size hb)
    have XB_15 := lhid (blk_below XB_11.out hb)
    have ZG_16 := lhid (blk_below ZG_12.out hb)
    have NB_17 := lhid (blk_below NB_13.out hb)
    clear HB_10 XB_11 ZG_12 NB_13 hb
    obtain ⟨y0, y1, y2, y3, y4, y5, y6, y7, y8⟩ := nine NB_17.out
    have hfn : ∀ o, w6.frozen? ⟨nb, o, none⟩ = false := fun o => blk_frozen NB_17.out o
    go_upto_region 5 with (fail)
    clear y0 y1 y2 y3 y4 y5 y6 y7 y8 hfn
    have NB6 := lhid (blk_put NB_17.out 7 (.int .i64 l) rfl)
    have ZG6 := lhid (blk_far ZG_16.out (p := ⟨nb, 7, none⟩) HNZ.out.1 (.int .i64 l))
    have HB6 := lhid (HB_14.out.setCell (p := ⟨nb, 7, none⟩) HNZ.out.2 (.int .i64 l))
    generalize World.setCell w6 ⟨nb, 7, none⟩ (.int .i64 l) = w7 at NB6 ZG6 HB6 ⊢
    obtain ⟨y0, y1, y2, y3, y4, y5, y6, y7, y8⟩ := nine NB6.out
    obtain ⟨q0, q1, q2, q3, q4, q5, q6, q7, q8⟩ := nine ZG6.out
    have hfz : ∀ o, w7.frozen? ⟨zb, o, none⟩ = false := fun o => blk_frozen ZG6.out o
    go_wp2_with fail
    clear y0 y1 y2 y3 y4 y5 y6 y7 y8 hfz q0 q1 q2 q3 q4 q5 q6 q7 q8
    obtain ⟨hp1, hp2, -⟩ := put9 ZG6.out HB6.out HRB.out (.int .i64 x.f0) (.int .i64 x.f1) (.int .i64 x.f2) (.int .i64 x.f3) (.int .i64 x.f4) (.int .i64 x.f5) (.int .i64 x.f6) (.int .i64 l) (.bool x.f8)
    generalize (World.setCell (World.setCell (World.setCell (World.setCell (World.setCell (World.setCell (World.setCell (World.setCell (World.setCell w7 ⟨zb, 0, none⟩ (.int .i64 x.f0)) ⟨zb, 1, none⟩ (.int .i64 x.f1)) ⟨zb, 2, none⟩ (.int .i64 x.f2)) ⟨zb, 3, none⟩ (.int .i64 x.f3)) ⟨zb, 4, none⟩ (.int .i64 x.f4)) ⟨zb, 5, none⟩ (.int .i64 x.f5)) ⟨zb, 6, none⟩ (.int .i64 x.f6)) ⟨zb, 7, none⟩ (.int .i64 l)) ⟨zb, 8, none⟩ (.bool x.f8)) = w9 at hp1 hp2 ⊢
    refine bodyPost_ret (results_ct rfl _ _ zb 39 #[.int .i64 x.f0, .int .i64 x.f1, .int .i64 x.f2, .int .i64 x.f3, .int .i64 x.f4, .int .i64 x.f5, .int .i64 x.f6, .int .i64 l, .bool x.f8] (0, 0) _ rfl hp1 Try.underlying39 rfl (by kernel_rfl)) rfl ?_
    refine ⟨?_, hp2⟩
    unfold getR
    rw [show ((q : Int) + 1).toNat = q + 1 by omega, ← HX.out, ← HL.out]
    rfl
  · rw [if_neg hr]
    have hu51 := Try.underlying51
    have hu39 := Try.underlying39
    have hu44 := Try.underlying44
    go_enter Try.func52, Try.ntmps52
    have HB_18 := lhid (Below.refl w.heap.size w)
    go_upto_region 1 with (fail)
    have hb := below_alloc (Below.refl w.heap.size w) (.cells #[.slice AG G.length cG, .slice AE E.length cE, .int .i64 day] 51)
    have hn := blk_new w (.cells #[.slice AG G.length cG, .slice AE E.length cE, .int .i64 day] 51)
    have HZ1 := lhid (show (World.alloc w (.cells #[.slice AG G.length cG, .slice AE E.length cE, .int .i64 day] 51)).heap.size = w.heap.size + 1 from by simp)
    generalize hq : World.alloc w (.cells #[.slice AG G.length cG, .slice AE E.length cE, .int .i64 day] 51) = w1 at hb hn HZ1 ⊢
    clear hq
    have HB_19 := lhid (below_then HB_18.out HB_18.out.size hb)
    clear HB_18 hb
    have XB_20 := lhid (hn)
    clear hn
    obtain ⟨xb, hxb⟩ : ∃ q, q = w.heap.size := ⟨_, rfl⟩
    rw [← hxb] at XB_20 ⊢
    have Exb := lhid hxb
    clear hxb
    have hb := below_alloc (Below.refl w1.heap.size w1) (.cells #[.int .i64 0, .int .i64 0, .int .i64 0, .int .i64 0, .int .i64 0, .int .i64 0, .int .i64 0, .int .i64 0, .bool false] 39)
    have hn := blk_new w1 (.cells #[.int .i64 0, .int .i64 0, .int .i64 0, .int .i64 0, .int .i64 0, .int .i64 0, .int .i64 0, .int .i64 0, .bool false] 39)
    have HZ2 := lhid (show (World.alloc w1 (.cells #[.int .i64 0, .int .i64 0, .int .i64 0, .int .i64 0, .int .i64 0, .int .i64 0, .int .i64 0, .int .i64 0, .bool false] 39)).heap.size = w1.heap.size + 1 from by simp)
    generalize hq : World.alloc w1 (.cells #[.int .i64 0, .int .i64 0, .int .i64 0, .int .i64 0, .int .i64 0, .int .i64 0, .int .i64 0, .int .i64 0, .bool false] 39) = w2 at hb hn HZ2 ⊢
    clear hq
    have HB_21 := lhid (below_then HB_19.out HB_19.out.size hb)
    have XB_22 := lhid (blk_below XB_20.out hb)
    clear HB_19 XB_20 hb
    have ZG_23 := lhid (hn)
    clear hn
    obtain ⟨zb, hzb⟩ : ∃ q, q = xb + 1 := ⟨_, rfl⟩
    rw [show w1.heap.size = zb by rw [hzb]; have z1 := HZ1.out; have y0 := Exb.out; omega] at ZG_23
    rw [← hzb]
    have Ezb := lhid hzb
    clear hzb
    have HNE := lhid (show xb = w.heap.size + 0 ∧ zb = w.heap.size + 1 ∧ w2.heap.size = w.heap.size + 2 by have z1 := HZ1.out; have z2 := HZ2.out; have y0 := Exb.out;  have y1 := Ezb.out; omega)
    clear Exb Ezb HZ1 HZ2
    have HRB := lhid (show w.heap.size ≤ zb by have h1 := HNE.out; omega)
    obtain ⟨z0, z1, z2⟩ := three XB_22.out
    go_wp2_with fail
    have hq := has_r w2 AG cG G AE cE E day n (RB.next HRW.out HB_21.out) HT.out
    rw [hasB_no hr] at hq
    have HQ := lhid hq
    clear hq
    with_reducible refine HQ.out.mono ?_
    rintro e w5 ⟨rfl, hb⟩
    have HS5 := lhid hb.size
    clear HQ
    clear z0 z1 z2
    have HB_24 := lhid (below_then HB_21.out HB_21.out.size hb)
    have XB_25 := lhid (blk_below XB_22.out hb)
    have ZG_26 := lhid (blk_below ZG_23.out hb)
    clear HB_21 XB_22 ZG_23 hb
    obtain ⟨q0, q1, q2, q3, q4, q5, q6, q7, q8⟩ := nine ZG_26.out
    have hfz : ∀ o, w5.frozen? ⟨zb, o, none⟩ = false := fun o => blk_frozen ZG_26.out o
    go_wp2_with fail
    clear hfz q0 q1 q2 q3 q4 q5 q6 q7 q8
    obtain ⟨hp1, hp2, -⟩ := put9 ZG_26.out HB_24.out HRB.out (.int .i64 0) (.int .i64 0) (.int .i64 0) (.int .i64 0) (.int .i64 0) (.int .i64 0) (.int .i64 0) (.int .i64 0) (.bool false)
    generalize (World.setCell (World.setCell (World.setCell (World.setCell (World.setCell (World.setCell (World.setCell (World.setCell (World.setCell w5 ⟨zb, 0, none⟩ (.int .i64 0)) ⟨zb, 1, none⟩ (.int .i64 0)) ⟨zb, 2, none⟩ (.int .i64 0)) ⟨zb, 3, none⟩ (.int .i64 0)) ⟨zb, 4, none⟩ (.int .i64 0)) ⟨zb, 5, none⟩ (.int .i64 0)) ⟨zb, 6, none⟩ (.int .i64 0)) ⟨zb, 7, none⟩ (.int .i64 0)) ⟨zb, 8, none⟩ (.bool false)) = w9 at hp1 hp2 ⊢
    refine bodyPost_ret (results_ct rfl _ _ zb 39 #[.int .i64 0, .int .i64 0, .int .i64 0, .int .i64 0, .int .i64 0, .int .i64 0, .int .i64 0, .int .i64 0, .bool false] (0, 0) _ rfl hp1 Try.underlying39 rfl (by kernel_rfl)) rfl ?_
    exact ⟨rfl, hp2⟩
end Go.Proofs.Ytfnlghjkjmppdaa.PC
end
section
namespace Go.Proofs.Ytfnlghjkjmppdaa.PC
open Go.RowKit Go.Proofs.YtfnlghjkjmppdaaW.PrintWords Go.Proofs.YtfnlghjkjmppdaaW.PrintLast Go.Proofs.YtfnlghjkjmppdaaW.PrintMore
set_option linter.unusedVariables false
set_option linter.unusedSimpArgs false
def belR (G : List S39) (n : Int) : Nat → List Int
  | 0 => []
  | k + 1 => if ((((k : Int) + 1) != n) && undR G (k + 1) n) = true then belR G n k ++ [(k : Int) + 1] else belR G n k
theorem belR_len (G : List S39) (n : Int) : ∀ k, (belR G n k).length ≤ k
  | 0 => Nat.le_refl _
  | k + 1 => by
    have := belR_len G n k
    unfold belR
    split
    · rw [List.length_append]; simp; omega
    · omega
theorem belR_lo {G : List S39} (hT : Tree G) {n : Nat} (h1 : 1 ≤ n) : ∀ k, k ≤ n → k ≤ G.length → belR G (n : Int) k = []
  | 0, _, _ => rfl
  | k + 1, h, hk => by
    unfold belR
    have e : ((((k : Int) + 1) != (n : Int)) && undR G (k + 1) (n : Int)) = false := by
      by_cases c : k + 1 = n
      · have : (((k : Int) + 1) != (n : Int)) = false := bne_eq_false_iff_eq.2 (by omega)
        rw [this]; rfl
      · have : undR G (k + 1) (n : Int) = false := by
          rw [undR_mem _ _ (by omega), Int.toNat_natCast, decide_eq_false]
          intro q
          have := up_mem hT (k + 1) (k + 1) (Nat.le_refl _) hk n q
          omega
        rw [this, Bool.and_false]
    rw [e, if_neg (by decide), belR_lo hT h1 k (by omega) (by omega)]
theorem belR_hi {G : List S39} (hT : Tree G) {n : Nat} (h1 : 1 ≤ n) (h2 : n ≤ G.length) : ∀ k, n + k ≤ G.length → belR G (n : Int) (n + k) = belL G n k
  | 0, _ => belR_lo hT h1 n (Nat.le_refl _) h2
  | k + 1, h => by
    have ih := belR_hi hT h1 h2 k (by omega)
    show belR G (n : Int) (n + k + 1) = _
    unfold belR belL
    have e1 : ((((n + k : Nat) : Int) + 1) != (n : Int)) = true := bne_iff_ne.2 (by omega)
    rw [e1, Bool.true_and, undR_mem _ _ (by omega), Int.toNat_natCast, ih]
    by_cases c : (up G (n + k + 1)).contains n = true
    · rw [if_pos c, if_pos (decide_eq_true (by simpa using c))]; rfl
    · rw [if_neg c, if_neg (by simpa using c)]
theorem belR_end {G : List S39} (hT : Tree G) {n : Nat} (h1 : 1 ≤ n) (h2 : n ≤ G.length) : belR G (n : Int) G.length = belowL G n := by
  have := belR_hi hT h1 h2 (G.length - n) (by omega)
  rw [show n + (G.length - n) = G.length by omega] at this
  exact this
set_option maxHeartbeats 12800000 in
set_option maxRecDepth 100000 in
theorem Below_r (w : World) (AG : Option Addr) (cG : Nat) (G : List S39) (AE : Option Addr) (cE : Nat) (E : List S44) (day : Int) (n : Int) (h : RB w AG cG G AE cE E) (hT : Tree G) (hr : 1 ≤ n ∧ n ≤ (G.length : Int)) : Calls Try.prog 54 #[.agg #[.slice AG G.length cG, .slice AE E.length cE, .int .i64 day], .int .i64 n] w fun e w' => ∃ v : Value, e = .returned (.tuple #[v, .int .i64 0]) ∧ Kd.R (Kd.int .i64) 3 w' w.heap.size (fun _ => True) v (belowL G n.toNat) ∧ Below w.heap.size w w' := by
  have hu51 := Try.underlying51
  have hu39 := Try.underlying39
  have hu44 := Try.underlying44
  have HR0 := lhid h
  have HT := lhid hT
  have HRW := lhid h
  have hgl := hT.1
  clear h hT
  go_enter Try.func54, Try.ntmps54
  have HB_1 := lhid (Below.refl w.heap.size w)
  go_upto_region 1 with (fail)
  have hb := below_alloc (Below.refl w.heap.size w) (.cells #[.slice AG G.length cG, .slice AE E.length cE, .int .i64 day] 51)
  have hn := blk_new w (.cells #[.slice AG G.length cG, .slice AE E.length cE, .int .i64 day] 51)
  have HZ1 := lhid (show (World.alloc w (.cells #[.slice AG G.length cG, .slice AE E.length cE, .int .i64 day] 51)).heap.size = w.heap.size + 1 from by simp)
  generalize hq : World.alloc w (.cells #[.slice AG G.length cG, .slice AE E.length cE, .int .i64 day] 51) = w1 at hb hn HZ1 ⊢
  clear hq
  have HR_2 := lhid (HR0.out.next hb)
  have HB_3 := lhid (below_then HB_1.out HB_1.out.size hb)
  clear HR0 HB_1 hb
  have XB_4 := lhid (hn)
  clear hn
  obtain ⟨xb, hxb⟩ : ∃ q, q = w.heap.size := ⟨_, rfl⟩
  rw [← hxb] at XB_4 ⊢
  clear hxb
  obtain ⟨z0, z1, z2⟩ := three XB_4.out
  go_wp2_with fail
  have hq := has_r w1 AG cG G AE cE E day n HR_2.out HT.out
  rw [hasB_yes hr] at hq
  have HQ := lhid hq
  clear hq
  with_reducible refine HQ.out.mono ?_
  rintro e w5 ⟨rfl, hb⟩
  clear HQ
  clear z0 z1 z2
  have HR_5 := lhid (HR_2.out.next hb)
  have HB_6 := lhid (below_then HB_3.out HB_3.out.size hb)
  have XB_7 := lhid (blk_below XB_4.out hb)
  clear HR_2 HB_3 XB_4 hb
  obtain ⟨m, hm⟩ : ∃ m : Nat, n = (m : Int) := ⟨n.toNat, by omega⟩
  subst hm
  have HRG := lhid hr
  have hm1 : 1 ≤ (m : Int) := hr.1
  have hm2 : (m : Int) ≤ (G.length : Int) := hr.2
  clear hr
  go_upto_region 5 with (fail)
  have HN0 := lhid (Kd.R_nil (Kd.int .i64) 3 w5 w.heap.size (fun _ => True))
  go_loopw [6, 7] (fun v t wr => ∃ i : Nat, i ≤ G.length ∧ t = .int .i64 ((i : Int) + 1) ∧ Hid (RB wr AG cG G AE cE E) ∧ Hid (Below w.heap.size w wr) ∧ Hid (wr.heap[xb]? = some (.cells #[.slice AG G.length cG, .slice AE E.length cE, .int .i64 day] 51)) ∧ Hid (Kd.R (Kd.int .i64) 3 wr w.heap.size (fun _ => True) v (belR G (m : Int) i))) (fun _ t _ => G.length + 1 - (intOf t).toNat)
  case atStart => exact ⟨0, Nat.zero_le _, rfl, HR_5, HB_6, XB_7, HN0⟩
  case round =>
    obtain ⟨i, hi, rfl, HRr, HBr, XBr, HNr⟩ := hrel
    clear HR_5 HB_6 XB_7 HN0
    obtain ⟨Av, cv, rfl⟩ := Kd.R_slice HNr.out
    have hbl := belR_len G (m : Int) i
    by_cases hlt : i < G.length
    · have hlt2 : (i : Int) + 1 ≤ (G.length : Int) := by omega
      have HBS := lhid (show belR G (m : Int) (i + 1) = if ((((i : Int) + 1) != (m : Int)) && undR G (i + 1) (m : Int)) = true then belR G (m : Int) i ++ [(i : Int) + 1] else belR G (m : Int) i from rfl)
      by_cases him : (i : Int) + 1 = (m : Int)
      · have d1 : (((i : Int) + 1) != (m : Int)) = false := bne_eq_false_iff_eq.2 him
        have hbs := HBS.out
        rw [d1, Bool.false_and, if_neg (by decide)] at hbs
        have HBS2 := lhid hbs
        clear hbs
        obtain ⟨z0, z1, z2⟩ := three XBr.out
        go_wp2_with fail
        try any_goals (exfalso; omega)
        clear z0 z1 z2
        go_roundw
        case rel => exact ⟨i + 1, by omega, by first | (simp; done) | (rw [← him]; simp), HRr, HBr, XBr, lhid (by rw [HBS2.out]; exact HNr.out)⟩
        case measure => simp [intOf]; omega
      · have d1 : (((i : Int) + 1) != (m : Int)) = true := bne_iff_ne.2 him
        obtain ⟨z0, z1, z2⟩ := three XBr.out
        go_wp2_with fail
        try any_goals (exfalso; omega)
        have hq := Under_r wr AG cG G AE cE E day ((i : Int) + 1) (m : Int) HRr.out HT.out (by omega) (by omega)
        rw [show ((i : Int) + 1).toNat = i + 1 by omega] at hq
        have HQ := lhid hq
        clear hq
        with_reducible refine HQ.out.mono ?_
        rintro e w7 ⟨rfl, hb⟩
        clear HQ
        clear z0 z1 z2
        have HR_8 := lhid (HRr.out.next hb)
        have HB_9 := lhid (below_then HBr.out HBr.out.size hb)
        have XB_10 := lhid (blk_below XBr.out hb)
        have HN_11 := lhid (Kd.R_below HNr.out hb)
        clear HRr HBr XBr HNr hb
        cases hu : undR G (i + 1) (m : Int)
        · have hbs := HBS.out
          rw [hu, Bool.and_false, if_neg (by decide)] at hbs
          have HBS2 := lhid hbs
          clear hbs
          go_wp2_with fail
          try any_goals (exfalso; omega)
          go_roundw
          case rel => exact ⟨i + 1, by omega, by simp, HR_8, HB_9, XB_10, lhid (by rw [HBS2.out]; exact HN_11.out)⟩
          case measure => simp [intOf]; omega
        · have hbs := HBS.out
          rw [hu, d1, Bool.and_self, if_pos rfl] at hbs
          have HBS2 := lhid hbs
          clear hbs
          go_wp2_with (first | ((with_reducible refine gate_builtin (b := .append) (xs := #[.tmp 28, .tmp 30]) rfl ?_); at_builtin; refine Kd.R_append (Kd.int .i64) (w0 := w) w.heap.size rfl (.tmp 28) (.tmp 30) 32 3 (.int .i64 0) 8 rfl Try.underlying32 info3 rfl (by decide) (by omega) (.slice Av (belR G (m : Int) i).length cv) (belR G (m : Int) i) ((i : Int) + 1) [.int .i64 ((i : Int) + 1)] (fun _ => True) (fun _ => False) rfl rfl ?aP (fun _ hk => hk.elim) ?aF ?aO ?aB ?aS ?aL ?_; (case aP => exact rfl); (case aF => exact fun _ _ => trivial); (case aO => exact HN_11.out); (case aB => exact HB_9.out); (case aS => exact HB_9.out.size); (case aL => omega); intro v8 w8 ho8 hb8 hg8 hat8; have HP8 := lhid ho8; have HB8 := lhid hb8; have XB8 := lhid (blk_grown XB_10.out hg8 (Kd.R_ne HN_11.out XB_10.out (by decide))); have HR8 := lhid (RB.next HRW.out hb8); obtain ⟨A8, c8, rfl⟩ := Kd.R_slice ho8; clear ho8 hb8 hg8 hat8))
          try any_goals (exfalso; omega)
          go_roundw
          case rel => exact ⟨i + 1, by omega, by simp, HR8, HB8, XB8, lhid (by rw [HBS2.out]; have q := HP8.out; rw [List.length_append] at q; exact q)⟩
          case measure => simp [intOf]; omega
    · have hie : i = G.length := by omega
      subst hie
      have hlt2 : ¬ ((G.length : Int) + 1 ≤ (G.length : Int)) := by omega
      have hbe := belR_end HT.out (n := m) (by omega) (by omega)
      have HBE := lhid hbe
      clear hbe
      obtain ⟨z0, z1, z2⟩ := three XBr.out
      go_wp2_with fail
      try any_goals (exfalso; omega)
      go_ret2
      refine ⟨.slice Av (belR G (m : Int) G.length).length cv, rfl, ?_, HBr.out⟩
      have q := HNr.out
      rw [HBE.out] at q ⊢
      first | exact q | (rw [Int.toNat_natCast]; exact q)
set_option maxHeartbeats 12800000 in
set_option maxRecDepth 100000 in
theorem Below_r0 (w : World) (AG : Option Addr) (cG : Nat) (G : List S39) (AE : Option Addr) (cE : Nat) (E : List S44) (day : Int) (n : Int) (h : RB w AG cG G AE cE E) (hT : Tree G) (hr : ¬ (1 ≤ n ∧ n ≤ (G.length : Int))) : Calls Try.prog 54 #[.agg #[.slice AG G.length cG, .slice AE E.length cE, .int .i64 day], .int .i64 n] w fun e w' => e = .returned (.tuple #[.slice none 0 0, .int .i64 6]) ∧ Below w.heap.size w w' := by
  have hu51 := Try.underlying51
  have hu39 := Try.underlying39
  have hu44 := Try.underlying44
  have HR0 := lhid h
  have HT := lhid hT
  have hgl := hT.1
  clear h hT
  go_enter Try.func54, Try.ntmps54
  have HB_1 := lhid (Below.refl w.heap.size w)
  go_upto_region 1 with (fail)
  have hb := below_alloc (Below.refl w.heap.size w) (.cells #[.slice AG G.length cG, .slice AE E.length cE, .int .i64 day] 51)
  have hn := blk_new w (.cells #[.slice AG G.length cG, .slice AE E.length cE, .int .i64 day] 51)
  have HZ1 := lhid (show (World.alloc w (.cells #[.slice AG G.length cG, .slice AE E.length cE, .int .i64 day] 51)).heap.size = w.heap.size + 1 from by simp)
  generalize hq : World.alloc w (.cells #[.slice AG G.length cG, .slice AE E.length cE, .int .i64 day] 51) = w1 at hb hn HZ1 ⊢
  clear hq
  have HR_2 := lhid (HR0.out.next hb)
  have HB_3 := lhid (below_then HB_1.out HB_1.out.size hb)
  clear HR0 HB_1 hb
  have XB_4 := lhid (hn)
  clear hn
  obtain ⟨xb, hxb⟩ : ∃ q, q = w.heap.size := ⟨_, rfl⟩
  rw [← hxb] at XB_4 ⊢
  clear hxb
  obtain ⟨z0, z1, z2⟩ := three XB_4.out
  go_wp2_with fail
  have hq := has_r w1 AG cG G AE cE E day n HR_2.out HT.out
  rw [hasB_no hr] at hq
  have HQ := lhid hq
  clear hq
  with_reducible refine HQ.out.mono ?_
  rintro e w5 ⟨rfl, hb⟩
  clear HQ
  clear z0 z1 z2
  have HR_5 := lhid (HR_2.out.next hb)
  have HB_6 := lhid (below_then HB_3.out HB_3.out.size hb)
  have XB_7 := lhid (blk_below XB_4.out hb)
  clear HR_2 HB_3 XB_4 hb
  go_wp2_with fail
  go_ret2
  exact ⟨rfl, HB_6.out⟩
end Go.Proofs.Ytfnlghjkjmppdaa.PC
end
section
namespace Go.Proofs.Ytfnlghjkjmppdaa.PC
open Go.RowKit Go.Proofs.YtfnlghjkjmppdaaW.PrintWords Go.Proofs.YtfnlghjkjmppdaaW.PrintLast Go.Proofs.YtfnlghjkjmppdaaW.PrintMore
set_option linter.unusedVariables false
set_option linter.unusedSimpArgs false
set_option maxHeartbeats 12800000 in
set_option maxRecDepth 100000 in
theorem same_r (w : World) (A B : Option Addr) (ca cb : Nat) (xs : List Int) (hl : xs.length ≤ 100000) (hA : Kd.C (Kd.int .i64) w A xs.length xs) (hB : Kd.C (Kd.int .i64) w B xs.length xs) : Calls Try.prog 55 #[.slice A xs.length ca, .slice B xs.length cb] w fun e w' => e = .returned (.bool true) ∧ Below w.heap.size w w' := by
  have HRA := lhid hA
  have HRB := lhid hB
  clear hA hB
  have hu44 := Try.underlying44
  go_enter Try.func55, Try.ntmps55
  have HB_1 := lhid (Below.refl w.heap.size w)
  have hnn : ((xs.length : Int) != (xs.length : Int)) = false := bne_self_eq_false _
  go_upto_region 4 with (fail)
  clear hnn
  go_loopw [5] (fun t wr => ∃ i : Nat, i ≤ xs.length ∧ t = .int .i64 (i : Int) ∧ Hid (Below w.heap.size w wr)) (fun t _ => xs.length - (intOf t).toNat)
  case atStart => exact ⟨0, Nat.zero_le _, rfl, HB_1⟩
  case round =>
    obtain ⟨i, hi, rfl, HBr⟩ := hrel
    clear HB_1
    by_cases hlt : i < xs.length
    · have hlt2 : (i : Int) < (xs.length : Int) := by omega
      obtain ⟨x, hx⟩ : ∃ x, x = xs.getD i 0 := ⟨_, rfl⟩
      have HX := lhid hx
      clear hx
      obtain ⟨a, ea, -⟩ := int_at HRA.out i hlt
      subst ea
      obtain ⟨b, eb, -⟩ := int_at HRB.out i hlt
      subst eb
      go_upto_region 6 with (fail)
      try any_goals (exfalso; omega)
      have hb := below_drew1 (Below.refl wr.heap.size wr)
      have HB_2 := lhid (below_then HBr.out HBr.out.size hb)
      clear HBr hb
      refine start_ (n := 9) (S := fun w' => w'.cell? (a.add i) = some (.int .i64 x) ∧ w'.cell? (b.add i) = some (.int .i64 x)) (ds := []) (lsb 9 0) (by kernel_rfl) rfl (by kernel_rfl) ⟨(by obtain ⟨ad', eA', hc⟩ := int_at (Kd.C_below HRA.out HB_2.out) i hlt; cases eA'; rw [HX.out]; rw [List.getD_eq_getElem?_getD, List.getElem?_eq_getElem hlt]; exact hc), (by obtain ⟨ad', eA', hc⟩ := int_at (Kd.C_below HRB.out HB_2.out) i hlt; cases eA'; rw [HX.out]; rw [List.getD_eq_getElem?_getD, List.getElem?_eq_getElem hlt]; exact hc)⟩ (fun hHeld => ?_)
      generalize wr.drew = w1 at HB_2 hHeld ⊢
      refine pu 0 (some 17) 9 1 rfl rfl (v := ?_) (a' := ?_) ?_ ?_ ?_; rotate_left; (intro w'; go_simp; with_reducible rfl); rotate_left; (simp only [Act.put, pS]; rfl)
      refine pu 1 (some 18) 9 3 rfl rfl (v := ?_) (a' := ?_) ?_ ?_ ?_; rotate_left; (intro w'; go_simp; with_reducible rfl); rotate_left; (simp only [Act.put, pS]; rfl)
      refine pu 2 (some 19) 9 7 rfl rfl (v := ?_) (a' := ?_) ?_ ?_ ?_; rotate_left; (intro w'; go_simp; with_reducible rfl); rotate_left; (simp only [Act.put, pS]; rfl)
      refine pu 4 (some 21) 9 23 rfl rfl (v := ?_) (a' := ?_) ?_ ?_ ?_; rotate_left; (intro w'; go_simp; with_reducible rfl); rotate_left; (simp only [Act.put, pS]; rfl)
      refine pu 5 (some 22) 9 55 rfl rfl (v := ?_) (a' := ?_) ?_ ?_ ?_; rotate_left; (intro w'; go_simp; with_reducible rfl); rotate_left; (simp only [Act.put, pS]; rfl)
      refine pu 6 (some 23) 9 119 rfl rfl (v := ?_) (a' := ?_) ?_ ?_ ?_; rotate_left; (intro w'; go_simp; with_reducible rfl); rotate_left; (simp only [Act.put, pS]; rfl)
      refine tk 3 (some 20) 9 127 rfl rfl hHeld (v := ?_) (a' := ?_) ?_ ?_ ?_; rotate_left; (rintro w' ⟨s0, s1⟩; go_simp; with_reducible rfl); rotate_left; (simp only [Act.put, pS]; rfl)
      refine tk 7 (some 24) 9 255 rfl rfl hHeld (v := ?_) (a' := ?_) ?_ ?_ ?_; rotate_left; (rintro w' ⟨s0, s1⟩; go_simp; with_reducible rfl); rotate_left; (simp only [Act.put, pS]; rfl)
      refine pu 8 (some 25) 9 511 rfl rfl (v := ?_) (a' := ?_) ?_ ?_ ?_; rotate_left; (intro w'; go_simp; with_reducible rfl); rotate_left; (simp only [Act.put, pS]; rfl)
      refine done_ (by kernel_rfl) ?_
      
      have hxx : (x != x) = false := bne_self_eq_false _
      go_wp2_with fail
      try any_goals (exfalso; omega)
      go_roundw
      case rel => exact ⟨i + 1, by omega, by simp, HB_2⟩
      case measure => simp [intOf]; omega
    · have hlt2 : ¬ (i : Int) < (xs.length : Int) := by omega
      go_wp2_with fail
      try any_goals (exfalso; omega)
      go_ret
      exact ⟨rfl, HBr.out⟩
end Go.Proofs.Ytfnlghjkjmppdaa.PC
end
section
namespace Go.Proofs.Ytfnlghjkjmppdaa.PC
open Go.RowKit Go.Proofs.YtfnlghjkjmppdaaW.PrintWords Go.Proofs.YtfnlghjkjmppdaaW.PrintLast Go.Proofs.YtfnlghjkjmppdaaW.PrintMore
set_option linter.unusedVariables false
set_option linter.unusedSimpArgs false
set_option maxHeartbeats 12800000 in
set_option maxRecDepth 100000 in
theorem grant_calls (base g : Nat) (F : Nat → Prop) (w : World) (s : St) (M : List Int) (AG : Option Addr) (cG : Nat) (G : List S39) (AE : Option Addr) (cE : Nat) (E : List S44) (day : Int) (n : Int) (h : Bk base F w g s) (hR : RB w AG cG G AE cE E) (hM : Same s M) (hG : G = refG s.G M) (hE0 : E = s.E) (hd : day = s.day) (hE : E.length ≤ 100) : Calls Try.prog 28 #[.pointer (some ⟨g, 0, none⟩), .agg #[.slice AG G.length cG, .slice AE E.length cE, .int .i64 day], .int .i64 n] w fun e w' => e = .returned (.bool true) ∧ Below w.heap.size w w' := by
  have hu51 := Try.underlying51
  have hu39 := Try.underlying39
  have HRW := lhid hR
  have HM := lhid hM
  have HGE := lhid hG
  have HEE := lhid hE0
  have HDE := lhid hd
  have HEL := lhid hE
  have HTR := lhid (show Tree G by rw [hG]; exact hM.tree)
  have HER := lhid (show EIn G E by rw [hG, hE0]; exact hM.einR)
  have HUR := lhid (show ∀ m : Nat, 1 ≤ m → m ≤ G.length → (gr G m).f7 ≤ 1048576 by rw [hG]; exact hM.bound)
  have HLN := lhid (show G.length = s.G.length by rw [hG, refG_len])
  have HBK0 := lhid (show BK base F w g s.day s.G s.E from h)
  have HT := lhid hM.inv.1
  have hgl := hM.inv.1.1
  clear h hR hM hG hE0 hd hE
  have HB_1 := lhid (Below.refl w.heap.size w)
  go_enter Try.func28, Try.ntmps28
  go_upto_region 1 with (fail)
  have hb := below_alloc (Below.refl w.heap.size w) (.cells #[.slice AG G.length cG, .slice AE E.length cE, .int .i64 day] 51)
  have hn := blk_new w (.cells #[.slice AG G.length cG, .slice AE E.length cE, .int .i64 day] 51)
  have HZ1 := lhid (show (World.alloc w (.cells #[.slice AG G.length cG, .slice AE E.length cE, .int .i64 day] 51)).heap.size = w.heap.size + 1 from by simp)
  generalize hq : World.alloc w (.cells #[.slice AG G.length cG, .slice AE E.length cE, .int .i64 day] 51) = w1 at hb hn HZ1 ⊢
  clear hq
  have HBK_2 := lhid (HBK0.out.next hb)
  have HB_3 := lhid (below_then HB_1.out HB_1.out.size hb)
  clear HBK0 HB_1 hb
  have XB_4 := lhid (hn)
  clear hn
  obtain ⟨xb, hxb⟩ : ∃ q, q = w.heap.size := ⟨_, rfl⟩
  rw [← hxb] at XB_4 ⊢
  clear hxb
  by_cases hr : 1 ≤ n ∧ n ≤ (s.G.length : Int)
  · obtain ⟨m, hm⟩ : ∃ m : Nat, n = (m : Int) := ⟨n.toNat, by omega⟩
    subst hm
    obtain ⟨r1, r2⟩ := hr
    have hm1 : 1 ≤ m := by omega
    have hm2 : m ≤ s.G.length := by omega
    obtain ⟨x, hx⟩ : ∃ x, x = gr s.G m := ⟨_, rfl⟩
    have HX := lhid hx
    have HXR := lhid (show getR G E m = x by rw [hx, HGE.out, HEE.out]; unfold getR; rw [HM.out.left hm1 hm2, gr_ref _ _ hm1 hm2])
    clear hx
    have hr2 : 1 ≤ (m : Int) ∧ (m : Int) ≤ (G.length : Int) := ⟨r1, by rw [HLN.out]; exact r2⟩
    have HR2 := lhid hr2
    clear hr2
    have hq := Get_ok base g F w1 s.day s.G s.E m HBK_2.out (by omega) hm1 hm2
    rw [← HX.out] at hq
    have HQ := lhid hq
    clear hq
    go_wp2_with fail
    with_reducible refine (HQ.out).mono ?_
    rintro e w2 ⟨rfl, hb⟩
    have HBK_5 := lhid (HBK_2.out.next hb)
    have HB_6 := lhid (below_then HB_3.out HB_3.out.size hb)
    have XB_7 := lhid (blk_below XB_4.out hb)
    clear HBK_2 HB_3 XB_4 hb
    clear HQ
    go_upto_region 2 with (fail)
    try any_goals (exfalso; omega)
    have hb := below_alloc (Below.refl w2.heap.size w2) (.cells #[.int .i64 x.f0, .int .i64 x.f1, .int .i64 x.f2, .int .i64 x.f3, .int .i64 x.f4, .int .i64 x.f5, .int .i64 x.f6, .int .i64 x.f7, .bool x.f8] 39)
    have hn := blk_new w2 (.cells #[.int .i64 x.f0, .int .i64 x.f1, .int .i64 x.f2, .int .i64 x.f3, .int .i64 x.f4, .int .i64 x.f5, .int .i64 x.f6, .int .i64 x.f7, .bool x.f8] 39)
    have HZ3 := lhid (show (World.alloc w2 (.cells #[.int .i64 x.f0, .int .i64 x.f1, .int .i64 x.f2, .int .i64 x.f3, .int .i64 x.f4, .int .i64 x.f5, .int .i64 x.f6, .int .i64 x.f7, .bool x.f8] 39)).heap.size = w2.heap.size + 1 from by simp)
    generalize hq : World.alloc w2 (.cells #[.int .i64 x.f0, .int .i64 x.f1, .int .i64 x.f2, .int .i64 x.f3, .int .i64 x.f4, .int .i64 x.f5, .int .i64 x.f6, .int .i64 x.f7, .bool x.f8] 39) = w3 at hb hn HZ3 ⊢
    clear hq
    have HBK_8 := lhid (HBK_5.out.next hb)
    have HB_9 := lhid (below_then HB_6.out HB_6.out.size hb)
    have XB_10 := lhid (blk_below XB_7.out hb)
    clear HBK_5 HB_6 XB_7 hb
    have AB_11 := lhid (hn)
    clear hn
    obtain ⟨ab, hab⟩ : ∃ z, z = w2.heap.size := ⟨_, rfl⟩
    rw [← hab] at AB_11 ⊢
    clear hab
    obtain ⟨z0, z1, z2⟩ := three XB_10.out
    go_wp2_with fail
    have hq := Get_r w3 AG cG G AE cE E day (m : Int) (RB.next HRW.out HB_9.out) HTR.out HER.out HEL.out HUR.out
    rw [if_pos HR2.out, Int.toNat_natCast, HXR.out] at hq
    have HQ := lhid hq
    clear hq
    with_reducible refine HQ.out.mono ?_
    rintro e w21 ⟨rfl, hb⟩
    clear HQ
    clear z0 z1 z2
    have HBK_12 := lhid (HBK_8.out.next hb)
    have HB_13 := lhid (below_then HB_9.out HB_9.out.size hb)
    have XB_14 := lhid (blk_below XB_10.out hb)
    have AB_15 := lhid (blk_below AB_11.out hb)
    clear HBK_8 HB_9 XB_10 AB_11 hb
    go_upto_region 3 with (fail)
    try any_goals (exfalso; omega)
    have hb := below_alloc (Below.refl w21.heap.size w21) (.cells #[.int .i64 x.f0, .int .i64 x.f1, .int .i64 x.f2, .int .i64 x.f3, .int .i64 x.f4, .int .i64 x.f5, .int .i64 x.f6, .int .i64 x.f7, .bool x.f8] 39)
    have hn := blk_new w21 (.cells #[.int .i64 x.f0, .int .i64 x.f1, .int .i64 x.f2, .int .i64 x.f3, .int .i64 x.f4, .int .i64 x.f5, .int .i64 x.f6, .int .i64 x.f7, .bool x.f8] 39)
    have HZ22 := lhid (show (World.alloc w21 (.cells #[.int .i64 x.f0, .int .i64 x.f1, .int .i64 x.f2, .int .i64 x.f3, .int .i64 x.f4, .int .i64 x.f5, .int .i64 x.f6, .int .i64 x.f7, .bool x.f8] 39)).heap.size = w21.heap.size + 1 from by simp)
    generalize hq : World.alloc w21 (.cells #[.int .i64 x.f0, .int .i64 x.f1, .int .i64 x.f2, .int .i64 x.f3, .int .i64 x.f4, .int .i64 x.f5, .int .i64 x.f6, .int .i64 x.f7, .bool x.f8] 39) = w22 at hb hn HZ22 ⊢
    clear hq
    have HBK_16 := lhid (HBK_12.out.next hb)
    have HB_17 := lhid (below_then HB_13.out HB_13.out.size hb)
    have XB_18 := lhid (blk_below XB_14.out hb)
    have AB_19 := lhid (blk_below AB_15.out hb)
    clear HBK_12 HB_13 XB_14 AB_15 hb
    have BB_20 := lhid (hn)
    clear hn
    obtain ⟨bb, hbb⟩ : ∃ z, z = w21.heap.size := ⟨_, rfl⟩
    rw [← hbb] at BB_20 ⊢
    clear hbb
    have hq := Stands_ok base g F w22 s.day s.G s.E (m : Int) HBK_16.out HT.out r1 r2
    rw [Int.toNat_natCast] at hq
    obtain ⟨sb, hsb⟩ : ∃ q, q = stB s.day s.G m := ⟨_, rfl⟩
    rw [← hsb] at hq
    have HSB := lhid hsb
    have HQ := lhid hq
    clear hq hsb
    go_wp2_with fail
    with_reducible refine (HQ.out).mono ?_
    rintro e w23 ⟨rfl, hb⟩
    have HBK_21 := lhid (HBK_16.out.next hb)
    have HB_22 := lhid (below_then HB_17.out HB_17.out.size hb)
    have XB_23 := lhid (blk_below XB_18.out hb)
    have AB_24 := lhid (blk_below AB_19.out hb)
    have BB_25 := lhid (blk_below BB_20.out hb)
    clear HBK_16 HB_17 XB_18 AB_19 BB_20 hb
    clear HQ
    obtain ⟨z0, z1, z2⟩ := three XB_23.out
    go_wp2_with fail
    have hq := Stands_r w23 AG cG G AE cE E day (m : Int) (RB.next HRW.out HB_22.out) HTR.out
    rw [if_pos HR2.out, Int.toNat_natCast, show stB day G m = sb by rw [HSB.out, HDE.out, HGE.out]; exact HM.out.st hm1 hm2] at hq
    have HQ := lhid hq
    clear hq
    with_reducible refine HQ.out.mono ?_
    rintro e w31 ⟨rfl, hb⟩
    clear HQ
    clear z0 z1 z2
    have HBK_26 := lhid (HBK_21.out.next hb)
    have HB_27 := lhid (below_then HB_22.out HB_22.out.size hb)
    have XB_28 := lhid (blk_below XB_23.out hb)
    have AB_29 := lhid (blk_below AB_24.out hb)
    have BB_30 := lhid (blk_below BB_25.out hb)
    clear HBK_21 HB_22 XB_23 AB_24 BB_25 hb
    obtain ⟨xs, hxs⟩ : ∃ q, q = belowL s.G m := ⟨_, rfl⟩
    have HXS := lhid (show belowL G m = xs by rw [hxs, HGE.out]; unfold belowL; rw [refG_len]; exact belL_same (fun i hi => HM.out.up hi) _ _ (by omega))
    have hxl : xs.length ≤ 128 := by rw [hxs]; exact Nat.le_trans (belL_len s.G m _) (by omega)
    go_wp2_with fail
    have hq := Below_ok base g F w31 s.day s.G s.E (m : Int) HBK_26.out HT.out r1 r2
    rw [Int.toNat_natCast, ← hxs] at hq
    have HQ := lhid hq
    clear hq hxs
    with_reducible refine HQ.out.mono ?_
    rintro e w32 ⟨v1, rfl, hl1, hb⟩
    obtain ⟨A1, c1, rfl⟩ := Kd.R_slice hl1
    have HL1 := lhid hl1
    clear HQ hl1
    have HBK_31 := lhid (HBK_26.out.next hb)
    have HB_32 := lhid (below_then HB_27.out HB_27.out.size hb)
    have XB_33 := lhid (blk_below XB_28.out hb)
    have AB_34 := lhid (blk_below AB_29.out hb)
    have BB_35 := lhid (blk_below BB_30.out hb)
    clear HBK_26 HB_27 XB_28 AB_29 BB_30 hb
    obtain ⟨z0, z1, z2⟩ := three XB_33.out
    go_wp2_with fail
    have hq := Below_r w32 AG cG G AE cE E day (m : Int) (RB.next HRW.out HB_32.out) HTR.out HR2.out
    rw [Int.toNat_natCast, HXS.out] at hq
    have HQ := lhid hq
    clear hq
    with_reducible refine HQ.out.mono ?_
    rintro e w33 ⟨v2, rfl, hl2, hb⟩
    obtain ⟨A2, c2, rfl⟩ := Kd.R_slice hl2
    have HL2 := lhid hl2
    clear HQ hl2
    clear z0 z1 z2
    have HBK_36 := lhid (HBK_31.out.next hb)
    have HB_37 := lhid (below_then HB_32.out HB_32.out.size hb)
    have XB_38 := lhid (blk_below XB_33.out hb)
    have AB_39 := lhid (blk_below AB_34.out hb)
    have BB_40 := lhid (blk_below BB_35.out hb)
    have L1_41 := lhid (Kd.R_below HL1.out hb)
    clear HBK_31 HB_32 XB_33 AB_34 BB_35 HL1 hb
    obtain ⟨p0, p1, p2, p3, p4, p5, p6, p7, p8⟩ := nine AB_39.out
    obtain ⟨q0, q1, q2, q3, q4, q5, q6, q7, q8⟩ := nine BB_40.out
    go_wp2_with fail
    try any_goals (exfalso; omega)
    with_reducible refine (same_r w33 A1 A2 c1 c2 xs (by omega) (Kd.R_reads' L1_41.out).2.2 (Kd.R_reads' HL2.out).2.2).mono ?_
    rintro e w40 ⟨rfl, hb⟩
    clear p0 p1 p2 p3 p4 p5 p6 p7 p8 q0 q1 q2 q3 q4 q5 q6 q7 q8
    have HBK_42 := lhid (HBK_36.out.next hb)
    have HB_43 := lhid (below_then HB_37.out HB_37.out.size hb)
    have XB_44 := lhid (blk_below XB_38.out hb)
    have AB_45 := lhid (blk_below AB_39.out hb)
    have BB_46 := lhid (blk_below BB_40.out hb)
    have L1_47 := lhid (Kd.R_below L1_41.out hb)
    have L2_48 := lhid (Kd.R_below HL2.out hb)
    clear HBK_36 HB_37 XB_38 AB_39 BB_40 L1_41 HL2 hb
    go_wp2_with fail
    go_ret
    exact ⟨rfl, HB_43.out⟩
  · have hr2 : ¬ (1 ≤ n ∧ n ≤ (G.length : Int)) := by rw [HLN.out]; exact hr
    have HR2 := lhid hr2
    clear hr2
    go_wp2_with fail
    with_reducible refine (Get_none base g F w1 s.day s.G s.E n HBK_2.out hr).mono ?_
    rintro e w2 ⟨rfl, hb⟩
    have HBK_49 := lhid (HBK_2.out.next hb)
    have HB_50 := lhid (below_then HB_3.out HB_3.out.size hb)
    have XB_51 := lhid (blk_below XB_4.out hb)
    clear HBK_2 HB_3 XB_4 hb
    go_upto_region 2 with (fail)
    try any_goals (exfalso; omega)
    have hb := below_alloc (Below.refl w2.heap.size w2) (.cells #[.int .i64 0, .int .i64 0, .int .i64 0, .int .i64 0, .int .i64 0, .int .i64 0, .int .i64 0, .int .i64 0, .bool false] 39)
    have hn := blk_new w2 (.cells #[.int .i64 0, .int .i64 0, .int .i64 0, .int .i64 0, .int .i64 0, .int .i64 0, .int .i64 0, .int .i64 0, .bool false] 39)
    have HZ3 := lhid (show (World.alloc w2 (.cells #[.int .i64 0, .int .i64 0, .int .i64 0, .int .i64 0, .int .i64 0, .int .i64 0, .int .i64 0, .int .i64 0, .bool false] 39)).heap.size = w2.heap.size + 1 from by simp)
    generalize hq : World.alloc w2 (.cells #[.int .i64 0, .int .i64 0, .int .i64 0, .int .i64 0, .int .i64 0, .int .i64 0, .int .i64 0, .int .i64 0, .bool false] 39) = w3 at hb hn HZ3 ⊢
    clear hq
    have HBK_52 := lhid (HBK_49.out.next hb)
    have HB_53 := lhid (below_then HB_50.out HB_50.out.size hb)
    have XB_54 := lhid (blk_below XB_51.out hb)
    clear HBK_49 HB_50 XB_51 hb
    have AB_55 := lhid (hn)
    clear hn
    obtain ⟨ab, hab⟩ : ∃ z, z = w2.heap.size := ⟨_, rfl⟩
    rw [← hab] at AB_55 ⊢
    clear hab
    obtain ⟨z0, z1, z2⟩ := three XB_54.out
    go_wp2_with fail
    have hq := Get_r w3 AG cG G AE cE E day n (RB.next HRW.out HB_53.out) HTR.out HER.out HEL.out HUR.out
    rw [if_neg HR2.out] at hq
    have HQ := lhid hq
    clear hq
    with_reducible refine HQ.out.mono ?_
    rintro e w21 ⟨rfl, hb⟩
    clear HQ
    clear z0 z1 z2
    have HBK_56 := lhid (HBK_52.out.next hb)
    have HB_57 := lhid (below_then HB_53.out HB_53.out.size hb)
    have XB_58 := lhid (blk_below XB_54.out hb)
    have AB_59 := lhid (blk_below AB_55.out hb)
    clear HBK_52 HB_53 XB_54 AB_55 hb
    go_upto_region 3 with (fail)
    try any_goals (exfalso; omega)
    have hb := below_alloc (Below.refl w21.heap.size w21) (.cells #[.int .i64 0, .int .i64 0, .int .i64 0, .int .i64 0, .int .i64 0, .int .i64 0, .int .i64 0, .int .i64 0, .bool false] 39)
    have hn := blk_new w21 (.cells #[.int .i64 0, .int .i64 0, .int .i64 0, .int .i64 0, .int .i64 0, .int .i64 0, .int .i64 0, .int .i64 0, .bool false] 39)
    have HZ22 := lhid (show (World.alloc w21 (.cells #[.int .i64 0, .int .i64 0, .int .i64 0, .int .i64 0, .int .i64 0, .int .i64 0, .int .i64 0, .int .i64 0, .bool false] 39)).heap.size = w21.heap.size + 1 from by simp)
    generalize hq : World.alloc w21 (.cells #[.int .i64 0, .int .i64 0, .int .i64 0, .int .i64 0, .int .i64 0, .int .i64 0, .int .i64 0, .int .i64 0, .bool false] 39) = w22 at hb hn HZ22 ⊢
    clear hq
    have HBK_60 := lhid (HBK_56.out.next hb)
    have HB_61 := lhid (below_then HB_57.out HB_57.out.size hb)
    have XB_62 := lhid (blk_below XB_58.out hb)
    have AB_63 := lhid (blk_below AB_59.out hb)
    clear HBK_56 HB_57 XB_58 AB_59 hb
    have BB_64 := lhid (hn)
    clear hn
    obtain ⟨bb, hbb⟩ : ∃ z, z = w21.heap.size := ⟨_, rfl⟩
    rw [← hbb] at BB_64 ⊢
    clear hbb
    go_wp2_with fail
    with_reducible refine (Stands_none base g F w22 s.day s.G s.E n HBK_60.out hr).mono ?_
    rintro e w23 ⟨rfl, hb⟩
    have HBK_65 := lhid (HBK_60.out.next hb)
    have HB_66 := lhid (below_then HB_61.out HB_61.out.size hb)
    have XB_67 := lhid (blk_below XB_62.out hb)
    have AB_68 := lhid (blk_below AB_63.out hb)
    have BB_69 := lhid (blk_below BB_64.out hb)
    clear HBK_60 HB_61 XB_62 AB_63 BB_64 hb
    obtain ⟨z0, z1, z2⟩ := three XB_67.out
    go_wp2_with fail
    have hq := Stands_r w23 AG cG G AE cE E day n (RB.next HRW.out HB_66.out) HTR.out
    rw [if_neg HR2.out] at hq
    have HQ := lhid hq
    clear hq
    with_reducible refine HQ.out.mono ?_
    rintro e w31 ⟨rfl, hb⟩
    clear HQ
    clear z0 z1 z2
    have HBK_70 := lhid (HBK_65.out.next hb)
    have HB_71 := lhid (below_then HB_66.out HB_66.out.size hb)
    have XB_72 := lhid (blk_below XB_67.out hb)
    have AB_73 := lhid (blk_below AB_68.out hb)
    have BB_74 := lhid (blk_below BB_69.out hb)
    clear HBK_65 HB_66 XB_67 AB_68 BB_69 hb
    go_wp2_with fail
    with_reducible refine (Below_none base g F w31 s.day s.G s.E n HBK_70.out hr).mono ?_
    rintro e w32 ⟨rfl, hb⟩
    have HBK_75 := lhid (HBK_70.out.next hb)
    have HB_76 := lhid (below_then HB_71.out HB_71.out.size hb)
    have XB_77 := lhid (blk_below XB_72.out hb)
    have AB_78 := lhid (blk_below AB_73.out hb)
    have BB_79 := lhid (blk_below BB_74.out hb)
    clear HBK_70 HB_71 XB_72 AB_73 BB_74 hb
    obtain ⟨z0, z1, z2⟩ := three XB_77.out
    go_wp2_with fail
    with_reducible refine (Below_r0 w32 AG cG G AE cE E day n (RB.next HRW.out HB_76.out) HTR.out HR2.out).mono ?_
    rintro e w33 ⟨rfl, hb⟩
    clear z0 z1 z2
    have HBK_80 := lhid (HBK_75.out.next hb)
    have HB_81 := lhid (below_then HB_76.out HB_76.out.size hb)
    have XB_82 := lhid (blk_below XB_77.out hb)
    have AB_83 := lhid (blk_below AB_78.out hb)
    have BB_84 := lhid (blk_below BB_79.out hb)
    clear HBK_75 HB_76 XB_77 AB_78 BB_79 hb
    obtain ⟨p0, p1, p2, p3, p4, p5, p6, p7, p8⟩ := nine AB_83.out
    obtain ⟨q0, q1, q2, q3, q4, q5, q6, q7, q8⟩ := nine BB_84.out
    go_wp2_with fail
    try any_goals (exfalso; omega)
    have hq := same_r w33 none none 0 0 [] (by simp) (Kd.C_nil _ _) (Kd.C_nil _ _)
    rw [show ([] : List Int).length = 0 from rfl] at hq
    have HQ := lhid hq
    clear hq
    with_reducible refine HQ.out.mono ?_
    rintro e w40 ⟨rfl, hb⟩
    clear p0 p1 p2 p3 p4 p5 p6 p7 p8 q0 q1 q2 q3 q4 q5 q6 q7 q8
    have HBK_85 := lhid (HBK_80.out.next hb)
    have HB_86 := lhid (below_then HB_81.out HB_81.out.size hb)
    have XB_87 := lhid (blk_below XB_82.out hb)
    have AB_88 := lhid (blk_below AB_83.out hb)
    have BB_89 := lhid (blk_below BB_84.out hb)
    clear HBK_80 HB_81 XB_82 AB_83 BB_84 hb
    go_wp2_with fail
    go_ret
    exact ⟨rfl, HB_86.out⟩
end Go.Proofs.Ytfnlghjkjmppdaa.PC
end
