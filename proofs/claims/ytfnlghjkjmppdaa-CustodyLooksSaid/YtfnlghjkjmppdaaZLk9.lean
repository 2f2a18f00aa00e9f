/-
  The texts that the theorem in YtfnlghjkjmppdaaZRowLk rests on, merged (part 10); only what it reaches.
-/
import Derived.Test.YtfnlghjkjmppdaaZLk8
section
namespace Go.Proofs.Ytfnlghjkjmppdaa.PC
open Go.RowKit Go.Proofs.YtfnlghjkjmppdaaW.PrintWords Go.Proofs.YtfnlghjkjmppdaaW.PrintLast Go.Proofs.YtfnlghjkjmppdaaW.PrintMore
set_option linter.unusedVariables false
set_option linter.unusedSimpArgs false
theorem RB.of_R {w : World} {base : Nat} {F F' : Nat → Prop} {A1 A2 : Option Addr} {c1 c2 : Nat} {G : List S39} {E : List S44} (h1 : Kd.R k39 39 w base F (.slice A1 G.length c1) G) (h2 : Kd.R k44 44 w base F' (.slice A2 E.length c2) E) : RB w A1 c1 G A2 c2 E := by
  obtain ⟨a1, a2, a3⟩ := Kd.R_reads' h1
  obtain ⟨b1, b2, b3⟩ := Kd.R_reads' h2
  exact ⟨a3, a2, b3, b2⟩
def Stay (P : Nat → Prop) (w : World) (AG : Option Addr) (cG : Nat) (G : List S39) (AE : Option Addr) (cE : Nat) (E : List S44) : Prop := ∀ W', Chg P w W' → RB W' AG cG G AE cE E
theorem Stay.next {P P' : Nat → Prop} {w w' : World} {AG : Option Addr} {cG : Nat} {G : List S39} {AE : Option Addr} {cE : Nat} {E : List S44} (h : Stay P w AG cG G AE cE E) (hc : Chg P w w') (hP : ∀ k, k < w.heap.size → P' k → P k) : Stay P' w' AG cG G AE cE E := fun W' k => h W' (hc.trans k hP)
theorem Stay.rb {P : Nat → Prop} {w w' : World} {AG : Option Addr} {cG : Nat} {G : List S39} {AE : Option Addr} {cE : Nat} {E : List S44} (h : Stay P w AG cG G AE cE E) (hb : Below w.heap.size w w') : RB w' AG cG G AE cE E := h w' (Chg.of_below hb)
def Bok (P : Nat → Prop) (w' : World) (G : List S39) (E : List S44) (day : Int) (v : Value) : Prop := ∃ A1 c1 A2 c2, v = .agg #[.slice A1 G.length c1, .slice A2 E.length c2, .int .i64 day] ∧ Stay P w' A1 c1 G A2 c2 E
theorem R_chg {α : Type} {d : Kd α} {e : Nat} {w w' W' : World} {F : Nat → Prop} {v : Value} {xs : List α} (h : d.R e w' w.heap.size F v xs) {Q : Nat → Prop} (hc : Chg Q w' W') (hQ : ∀ k, Q k → k < w.heap.size) : d.R e W' w.heap.size F v xs :=
  Kd.R_mono (Kd.R_step (Kd.R_bound h) (fun k hk hl => hc.block k hl (fun q => by have := hQ k q; have := hk.2.1; omega))) (fun k hk => hk.1)
theorem bok_new {P : Nat → Prop} {w w' : World} (hP : ∀ k, P k → k < w.heap.size) {A1 A2 : Option Addr} {c1 c2 : Nat} {G : List S39} {E : List S44} {F F' : Nat → Prop} {day : Int} (h1 : Kd.R k39 39 w' w.heap.size F (.slice A1 G.length c1) G) (h2 : Kd.R k44 44 w' w.heap.size F' (.slice A2 E.length c2) E) : Bok P w' G E day (.agg #[.slice A1 G.length c1, .slice A2 E.length c2, .int .i64 day]) :=
  ⟨_, _, _, _, rfl, fun W' hc => RB.of_R (R_chg h1 hc hP) (R_chg h2 hc hP)⟩
theorem bok_same {P : Nat → Prop} {w w' : World} {AG AE : Option Addr} {cG cE : Nat} {G : List S39} {E : List S44} {day : Int} (h : Stay P w AG cG G AE cE E) (hb : Below w.heap.size w w') : Bok P w' G E day (.agg #[.slice AG G.length cG, .slice AE E.length cE, .int .i64 day]) :=
  ⟨_, _, _, _, rfl, h.next (Chg.of_below hb) (fun _ _ q => q)⟩
theorem bok_thru {P P3 : Nat → Prop} {w' w9 : World} {A1 A2 : Option Addr} {c1 c2 : Nat} {G : List S39} {E : List S44} {day : Int} (h : Stay P3 w' A1 c1 G A2 c2 E) (hc : Chg P3 w' w9) (hs : ∀ k, P k → P3 k) : Bok P w9 G E day (.agg #[.slice A1 G.length c1, .slice A2 E.length c2, .int .i64 day]) :=
  ⟨_, _, _, _, rfl, h.next hc (fun k _ q => hs k q)⟩
theorem stay_box {P : Nat → Prop} {w w3 : World} {AG AE : Option Addr} {cG cE : Nat} {G : List S39} {E : List S44} (h : Stay P w AG cG G AE cE E) (hb : Below w.heap.size w w3) : Stay (fun k => P k ∨ (w.heap.size ≤ k ∧ k < w3.heap.size)) w3 AG cG G AE cE E :=
  h.next (Chg.of_below hb) (fun k hk q => q.resolve_right (fun z => by omega))
theorem stay_lt {P : Nat → Prop} {w w3 : World} (hP : ∀ k, P k → k < w.heap.size) (hs : w.heap.size ≤ w3.heap.size) : ∀ k, (P k ∨ (w.heap.size ≤ k ∧ k < w3.heap.size)) → k < w3.heap.size := fun k q => q.elim (fun z => Nat.lt_of_lt_of_le (hP k z) hs) (fun z => z.2)
def putG (G : List S39) (x : S39) : List S39 := if 128 ≤ G.length then G else G ++ [newG G x]
def putN (G : List S39) : Int := if 128 ≤ G.length then 0 else (G.length : Int) + 1
def putC (G : List S39) : Int := if 128 ≤ G.length then 8 else 0
set_option maxHeartbeats 12800000 in
set_option maxRecDepth 100000 in
theorem put_r (P : Nat → Prop) (w : World) (AG : Option Addr) (cG : Nat) (G : List S39) (AE : Option Addr) (cE : Nat) (E : List S44) (day : Int) (x : S39) (hS : Stay P w AG cG G AE cE E) (hP : ∀ k, P k → k < w.heap.size) (hT : Tree G) (hlE : E.length ≤ 100) : Calls Try.prog 87 #[.agg #[.slice AG G.length cG, .slice AE E.length cE, .int .i64 day], .agg #[.int .i64 x.f0, .int .i64 x.f1, .int .i64 x.f2, .int .i64 x.f3, .int .i64 x.f4, .int .i64 x.f5, .int .i64 x.f6, .int .i64 x.f7, .bool x.f8]] w fun e w' => ∃ v, e = .returned (.tuple #[v, .int .i64 (putN G), .int .i64 (putC G)]) ∧ Bok P w' (putG G x) E day v ∧ Below w.heap.size w w' := by
  have HRW := lhid hS
  have HPW := lhid hP
  have hgl := hT.1
  have HLE := lhid hlE
  clear hS hP hT hlE
  by_cases hl : 128 ≤ G.length
  · have hd : decide ((G.length : Int) ≥ 128) = true := decide_eq_true (by omega)
    have hG : putG G x = G ∧ putN G = 0 ∧ putC G = 8 := ⟨if_pos hl, if_pos hl, if_pos hl⟩
    rw [hG.1, hG.2.1, hG.2.2]
    have hu51 := Try.underlying51
    have hu39 := Try.underlying39
    have hu44 := Try.underlying44
    go_enter Try.func87, Try.ntmps87
    have HB_1 := lhid (Below.refl w.heap.size w)
    go_upto_region 1 with (fail)
    have hb := below_alloc (Below.refl w.heap.size w) (.cells #[.slice AG G.length cG, .slice AE E.length cE, .int .i64 day] 51)
    have hn := blk_new w (.cells #[.slice AG G.length cG, .slice AE E.length cE, .int .i64 day] 51)
    have HZ1 := lhid (show (World.alloc w (.cells #[.slice AG G.length cG, .slice AE E.length cE, .int .i64 day] 51)).heap.size = w.heap.size + 1 from by simp)
    generalize hq : World.alloc w (.cells #[.slice AG G.length cG, .slice AE E.length cE, .int .i64 day] 51) = w1 at hb hn HZ1 ⊢
    clear hq
    have HB_2 := lhid (below_then HB_1.out HB_1.out.size hb)
    clear HB_1 hb
    have XB_3 := lhid (hn)
    clear hn
    obtain ⟨xb, hxb⟩ : ∃ q, q = w.heap.size := ⟨_, rfl⟩
    rw [← hxb] at XB_3 ⊢
    have Exb := lhid hxb
    clear hxb
    have hb := below_alloc (Below.refl w1.heap.size w1) (.cells #[.int .i64 x.f0, .int .i64 x.f1, .int .i64 x.f2, .int .i64 x.f3, .int .i64 x.f4, .int .i64 x.f5, .int .i64 x.f6, .int .i64 x.f7, .bool x.f8] 39)
    have hn := blk_new w1 (.cells #[.int .i64 x.f0, .int .i64 x.f1, .int .i64 x.f2, .int .i64 x.f3, .int .i64 x.f4, .int .i64 x.f5, .int .i64 x.f6, .int .i64 x.f7, .bool x.f8] 39)
    have HZ2 := lhid (show (World.alloc w1 (.cells #[.int .i64 x.f0, .int .i64 x.f1, .int .i64 x.f2, .int .i64 x.f3, .int .i64 x.f4, .int .i64 x.f5, .int .i64 x.f6, .int .i64 x.f7, .bool x.f8] 39)).heap.size = w1.heap.size + 1 from by simp)
    generalize hq : World.alloc w1 (.cells #[.int .i64 x.f0, .int .i64 x.f1, .int .i64 x.f2, .int .i64 x.f3, .int .i64 x.f4, .int .i64 x.f5, .int .i64 x.f6, .int .i64 x.f7, .bool x.f8] 39) = w2 at hb hn HZ2 ⊢
    clear hq
    have HB_4 := lhid (below_then HB_2.out HB_2.out.size hb)
    have XB_5 := lhid (blk_below XB_3.out hb)
    clear HB_2 XB_3 hb
    have GX_6 := lhid (hn)
    clear hn
    obtain ⟨gx, hgx⟩ : ∃ q, q = xb + 1 := ⟨_, rfl⟩
    rw [show w1.heap.size = gx by rw [hgx]; have z1 := HZ1.out; have y0 := Exb.out; omega] at GX_6
    rw [← hgx]
    have Egx := lhid hgx
    clear hgx
    have hb := below_alloc (Below.refl w2.heap.size w2) (.cells #[.slice none 0 0, .slice none 0 0, .int .i64 0] 51)
    have hn := blk_new w2 (.cells #[.slice none 0 0, .slice none 0 0, .int .i64 0] 51)
    have HZ3 := lhid (show (World.alloc w2 (.cells #[.slice none 0 0, .slice none 0 0, .int .i64 0] 51)).heap.size = w2.heap.size + 1 from by simp)
    generalize hq : World.alloc w2 (.cells #[.slice none 0 0, .slice none 0 0, .int .i64 0] 51) = w3 at hb hn HZ3 ⊢
    clear hq
    have HB_7 := lhid (below_then HB_4.out HB_4.out.size hb)
    have XB_8 := lhid (blk_below XB_5.out hb)
    have GX_9 := lhid (blk_below GX_6.out hb)
    clear HB_4 XB_5 GX_6 hb
    have RZ_10 := lhid (hn)
    clear hn
    obtain ⟨rb, hrb⟩ : ∃ q, q = gx + 1 := ⟨_, rfl⟩
    rw [show w2.heap.size = rb by rw [hrb]; have z1 := HZ1.out; have z2 := HZ2.out; have y0 := Exb.out; have y1 := Egx.out; omega] at RZ_10
    rw [← hrb]
    have Erb := lhid hrb
    clear hrb
    have HNE := lhid (show xb = w.heap.size + 0 ∧ gx = w.heap.size + 1 ∧ rb = w.heap.size + 2 ∧ w3.heap.size = w.heap.size + 3 by have z1 := HZ1.out; have z2 := HZ2.out; have z3 := HZ3.out; have y0 := Exb.out;  have y1 := Egx.out;  have y2 := Erb.out; omega)
    clear Exb Egx Erb HZ1 HZ2 HZ3
    have HRB := lhid (show w.heap.size ≤ rb by have := HNE.out; omega)
    obtain ⟨z0, z1, z2⟩ := three XB_8.out
    obtain ⟨r0, r1, r2⟩ := three RZ_10.out
    have hfz : ∀ o, w3.frozen? ⟨rb, o, none⟩ = false := fun o => blk_frozen RZ_10.out o
    go_wp2_with fail
    try any_goals (exfalso; omega)
    clear z0 z1 z2
    clear r0 r1 r2 hfz
    have hz1 := blk_put RZ_10.out 0 (.slice AG G.length cG) rfl
    have hz2 := blk_put hz1 1 (.slice AE E.length cE) rfl
    have hz3 := blk_put hz2 2 (.int .i64 day) rfl
    have hB := ((HB_7.out.setCell (p := ⟨rb, 0, none⟩) HRB.out (.slice AG G.length cG)).setCell (p := ⟨rb, 1, none⟩) HRB.out (.slice AE E.length cE)).setCell (p := ⟨rb, 2, none⟩) HRB.out (.int .i64 day)
    clear hz1 hz2
    generalize (World.setCell (World.setCell (World.setCell w3 ⟨rb, 0, none⟩ (.slice AG G.length cG)) ⟨rb, 1, none⟩ (.slice AE E.length cE)) ⟨rb, 2, none⟩ (.int .i64 day)) = w9 at hz3  hB ⊢
    refine bodyPost_ret (results_ctt rfl _ _ rb 51 #[(.slice AG G.length cG), (.slice AE E.length cE), (.int .i64 day)] (0, 0) _ rfl hz3 Try.underlying51 rfl (by kernel_rfl)) rfl ?_
    exact ⟨_, rfl, bok_same HRW.out hB, hB⟩
  · have hd : decide ((G.length : Int) ≥ 128) = false := decide_eq_false (by omega)
    have hG : putG G x = G ++ [newG G x] ∧ putN G = (G.length : Int) + 1 ∧ putC G = 0 := ⟨if_neg hl, if_neg hl, if_neg hl⟩
    rw [hG.1, hG.2.1, hG.2.2]
    clear hG
    have hu51 := Try.underlying51
    have hu39 := Try.underlying39
    have hu44 := Try.underlying44
    go_enter Try.func87, Try.ntmps87
    have HB_11 := lhid (Below.refl w.heap.size w)
    go_upto_region 1 with (fail)
    have hb := below_alloc (Below.refl w.heap.size w) (.cells #[.slice AG G.length cG, .slice AE E.length cE, .int .i64 day] 51)
    have hn := blk_new w (.cells #[.slice AG G.length cG, .slice AE E.length cE, .int .i64 day] 51)
    have HZ1 := lhid (show (World.alloc w (.cells #[.slice AG G.length cG, .slice AE E.length cE, .int .i64 day] 51)).heap.size = w.heap.size + 1 from by simp)
    generalize hq : World.alloc w (.cells #[.slice AG G.length cG, .slice AE E.length cE, .int .i64 day] 51) = w1 at hb hn HZ1 ⊢
    clear hq
    have HB_12 := lhid (below_then HB_11.out HB_11.out.size hb)
    clear HB_11 hb
    have XB_13 := lhid (hn)
    clear hn
    obtain ⟨xb, hxb⟩ : ∃ q, q = w.heap.size := ⟨_, rfl⟩
    rw [← hxb] at XB_13 ⊢
    have Exb := lhid hxb
    clear hxb
    have hb := below_alloc (Below.refl w1.heap.size w1) (.cells #[.int .i64 x.f0, .int .i64 x.f1, .int .i64 x.f2, .int .i64 x.f3, .int .i64 x.f4, .int .i64 x.f5, .int .i64 x.f6, .int .i64 x.f7, .bool x.f8] 39)
    have hn := blk_new w1 (.cells #[.int .i64 x.f0, .int .i64 x.f1, .int .i64 x.f2, .int .i64 x.f3, .int .i64 x.f4, .int .i64 x.f5, .int .i64 x.f6, .int .i64 x.f7, .bool x.f8] 39)
    have HZ2 := lhid (show (World.alloc w1 (.cells #[.int .i64 x.f0, .int .i64 x.f1, .int .i64 x.f2, .int .i64 x.f3, .int .i64 x.f4, .int .i64 x.f5, .int .i64 x.f6, .int .i64 x.f7, .bool x.f8] 39)).heap.size = w1.heap.size + 1 from by simp)
    generalize hq : World.alloc w1 (.cells #[.int .i64 x.f0, .int .i64 x.f1, .int .i64 x.f2, .int .i64 x.f3, .int .i64 x.f4, .int .i64 x.f5, .int .i64 x.f6, .int .i64 x.f7, .bool x.f8] 39) = w2 at hb hn HZ2 ⊢
    clear hq
    have HB_14 := lhid (below_then HB_12.out HB_12.out.size hb)
    have XB_15 := lhid (blk_below XB_13.out hb)
    clear HB_12 XB_13 hb
    have GX_16 := lhid (hn)
    clear hn
    obtain ⟨gx, hgx⟩ : ∃ q, q = xb + 1 := ⟨_, rfl⟩
    rw [show w1.heap.size = gx by rw [hgx]; have z1 := HZ1.out; have y0 := Exb.out; omega] at GX_16
    rw [← hgx]
    have Egx := lhid hgx
    clear hgx
    have hb := below_alloc (Below.refl w2.heap.size w2) (.cells #[.slice none 0 0, .slice none 0 0, .int .i64 0] 51)
    have hn := blk_new w2 (.cells #[.slice none 0 0, .slice none 0 0, .int .i64 0] 51)
    have HZ3 := lhid (show (World.alloc w2 (.cells #[.slice none 0 0, .slice none 0 0, .int .i64 0] 51)).heap.size = w2.heap.size + 1 from by simp)
    generalize hq : World.alloc w2 (.cells #[.slice none 0 0, .slice none 0 0, .int .i64 0] 51) = w3 at hb hn HZ3 ⊢
    clear hq
    have HB_17 := lhid (below_then HB_14.out HB_14.out.size hb)
    have XB_18 := lhid (blk_below XB_15.out hb)
    have GX_19 := lhid (blk_below GX_16.out hb)
    clear HB_14 XB_15 GX_16 hb
    have RZ_20 := lhid (hn)
    clear hn
    obtain ⟨rb, hrb⟩ : ∃ q, q = gx + 1 := ⟨_, rfl⟩
    rw [show w2.heap.size = rb by rw [hrb]; have z1 := HZ1.out; have z2 := HZ2.out; have y0 := Exb.out; have y1 := Egx.out; omega] at RZ_20
    rw [← hrb]
    have Erb := lhid hrb
    clear hrb
    have HNE := lhid (show xb = w.heap.size + 0 ∧ gx = w.heap.size + 1 ∧ rb = w.heap.size + 2 ∧ w3.heap.size = w.heap.size + 3 by have z1 := HZ1.out; have z2 := HZ2.out; have z3 := HZ3.out; have y0 := Exb.out;  have y1 := Egx.out;  have y2 := Erb.out; omega)
    clear Exb Egx Erb HZ1 HZ2 HZ3
    have HRB := lhid (show w.heap.size ≤ rb by have := HNE.out; omega)
    obtain ⟨z0, z1, z2⟩ := three XB_18.out
    go_wp2_with fail
    try any_goals (exfalso; omega)
    with_reducible refine (copied_r w3 AG cG G AE cE E day (HRW.out.rb HB_17.out) (by omega) HLE.out).mono ?_
    rintro e w20 ⟨A1, c1, A2, c2, rfl, hG, hE, hb⟩
    have HG0 := lhid (Kd.R_lower hG HB_17.out.size)
    have HE0 := lhid (Kd.R_lower hE HB_17.out.size)
    have HS3 := lhid (show w3.heap.size ≤ w20.heap.size from hb.size)
    have HGXN := lhid (show some gx ≠ (Value.slice A1 G.length c1).ownBlock from fun e_ => by have h1 := Kd.R_own hG; have h2 := HNE.out; have h3 := own_base h1.choose_spec gx e_.symm; omega)
    clear hG hE hd
    clear z0 z1 z2
    have HB_21 := lhid (below_then HB_17.out HB_17.out.size hb)
    have XB_22 := lhid (blk_below XB_18.out hb)
    have GX_23 := lhid (blk_below GX_19.out hb)
    have RZ_24 := lhid (blk_below RZ_20.out hb)
    clear HB_17 XB_18 GX_19 RZ_20 hb
    go_upto_region 4 with (fail)
    have HZS := lhid (show w.heap.size + 3 ≤ w20.heap.size by have h1 := HNE.out; have h2 := HS3.out; omega)
    have hb := below_alloc (Below.refl w20.heap.size w20) (.cells #[.slice A1 G.length c1, .slice A2 E.length c2, .int .i64 day] 51)
    have hn := blk_new w20 (.cells #[.slice A1 G.length c1, .slice A2 E.length c2, .int .i64 day] 51)
    have HZ21 := lhid (show (World.alloc w20 (.cells #[.slice A1 G.length c1, .slice A2 E.length c2, .int .i64 day] 51)).heap.size = w20.heap.size + 1 from by simp)
    generalize hq : World.alloc w20 (.cells #[.slice A1 G.length c1, .slice A2 E.length c2, .int .i64 day] 51) = w21 at hb hn HZ21 ⊢
    clear hq
    have HB_25 := lhid (below_then HB_21.out HB_21.out.size hb)
    have XB_26 := lhid (blk_below XB_22.out hb)
    have GX_27 := lhid (blk_below GX_23.out hb)
    have RZ_28 := lhid (blk_below RZ_24.out hb)
    have HG_29 := lhid (Kd.R_below HG0.out hb)
    have HE_30 := lhid (Kd.R_below HE0.out hb)
    clear HB_21 XB_22 GX_23 RZ_24 HG0 HE0 hb
    have NB_31 := lhid (hn)
    clear hn
    obtain ⟨nb, hnb⟩ : ∃ q, q = w20.heap.size := ⟨_, rfl⟩
    rw [← hnb] at NB_31 ⊢
    have HNN := lhid (show gx < nb ∧ rb < nb ∧ w.heap.size ≤ nb ∧ gx ≠ rb ∧ w.heap.size ≤ gx by
      have h1 := HNE.out
      have h4 := HZS.out
      omega)
    clear hnb
    have HGE_gx := lhid HNN.out.2.2.2.2
    have HGE_nb := lhid HNN.out.2.2.1
    obtain ⟨n0, n1, n2⟩ := three NB_31.out
    obtain ⟨x0, x1, x2, x3, x4, x5, x6, x7, x8⟩ := nine GX_27.out
    have hfz : ∀ o, w21.frozen? ⟨gx, o, none⟩ = false := fun o => blk_frozen GX_27.out o
    go_upto_region 5 with (fail)
    try any_goals (exfalso; omega)
    clear n0 n1 n2 x0 x1 x2 x3 x4 x5 x6 x7 x8 hfz
    have HB_32 := lhid (HB_25.out.setCell (p := ⟨gx, 0, none⟩) HGE_gx.out (.int .i64 ((G.length : Int) + 1)))
    have XB_33 := lhid (blk_far XB_26.out (p := ⟨gx, 0, none⟩) (by have h1 := HNE.out; have h2 := HNN.out; show _ ≠ gx; omega) (.int .i64 ((G.length : Int) + 1)))
    have GX_34 := lhid ((show (World.setCell w21 ⟨gx, 0, none⟩ (.int .i64 ((G.length : Int) + 1))).heap[gx]? = some (.cells #[.int .i64 ((G.length : Int) + 1), .int .i64 x.f1, .int .i64 x.f2, .int .i64 x.f3, .int .i64 x.f4, .int .i64 x.f5, .int .i64 x.f6, .int .i64 x.f7, .bool x.f8] 39) from blk_put GX_27.out 0 (.int .i64 ((G.length : Int) + 1)) rfl))
    have RZ_35 := lhid (blk_far RZ_28.out (p := ⟨gx, 0, none⟩) (by have h1 := HNE.out; have h2 := HNN.out; show _ ≠ gx; omega) (.int .i64 ((G.length : Int) + 1)))
    have HG_36 := lhid (Kd.R_mono (Kd.R_far (p := ⟨gx, 0, none⟩) (Kd.R_far1 HG_29.out rfl HGXN.out) (fun _ hk => hk.2) (.int .i64 ((G.length : Int) + 1))) (fun _ hk => hk.1))
    have HE_37 := lhid (Kd.R_set HE_30.out GX_27.out (by decide) 0 (.int .i64 ((G.length : Int) + 1)))
    have NB_38 := lhid (blk_far NB_31.out (p := ⟨gx, 0, none⟩) (by have h1 := HNE.out; have h2 := HNN.out; show _ ≠ gx; omega) (.int .i64 ((G.length : Int) + 1)))
    clear HB_25 XB_26 GX_27 RZ_28 HG_29 HE_30 NB_31
    generalize World.setCell w21 ⟨gx, 0, none⟩ (.int .i64 ((G.length : Int) + 1)) = w22 at HB_32 XB_33 GX_34 RZ_35 HG_36 HE_37 NB_38 ⊢
    obtain ⟨y, hy⟩ : ∃ y, y = newG G x := ⟨_, rfl⟩
    by_cases hf : x.f1 = 0
    · have hd : (x.f1 == 0) = true := beq_iff_eq.2 hf
      obtain ⟨x0, x1, x2, x3, x4, x5, x6, x7, x8⟩ := nine GX_34.out
      have hfz : ∀ o, w22.frozen? ⟨gx, o, none⟩ = false := fun o => blk_frozen GX_34.out o
      go_upto_region 7 with (fail)
      clear x0 x1 x2 x3 x4 x5 x6 x7 x8 hfz hd
      have HB_39 := lhid (HB_32.out.setCell (p := ⟨gx, 2, none⟩) HGE_gx.out (.int .i64 ((G.length : Int) + 1)))
      have XB_40 := lhid (blk_far XB_33.out (p := ⟨gx, 2, none⟩) (by have h1 := HNE.out; have h2 := HNN.out; show _ ≠ gx; omega) (.int .i64 ((G.length : Int) + 1)))
      have GX_41 := lhid ((show (World.setCell w22 ⟨gx, 2, none⟩ (.int .i64 ((G.length : Int) + 1))).heap[gx]? = some (.cells #[.int .i64 ((G.length : Int) + 1), .int .i64 x.f1, .int .i64 ((G.length : Int) + 1), .int .i64 x.f3, .int .i64 x.f4, .int .i64 x.f5, .int .i64 x.f6, .int .i64 x.f7, .bool x.f8] 39) from blk_put GX_34.out 2 (.int .i64 ((G.length : Int) + 1)) rfl))
      have RZ_42 := lhid (blk_far RZ_35.out (p := ⟨gx, 2, none⟩) (by have h1 := HNE.out; have h2 := HNN.out; show _ ≠ gx; omega) (.int .i64 ((G.length : Int) + 1)))
      have HG_43 := lhid (Kd.R_mono (Kd.R_far (p := ⟨gx, 2, none⟩) (Kd.R_far1 HG_36.out rfl HGXN.out) (fun _ hk => hk.2) (.int .i64 ((G.length : Int) + 1))) (fun _ hk => hk.1))
      have HE_44 := lhid (Kd.R_set HE_37.out GX_34.out (by decide) 2 (.int .i64 ((G.length : Int) + 1)))
      have NB_45 := lhid (blk_far NB_38.out (p := ⟨gx, 2, none⟩) (by have h1 := HNE.out; have h2 := HNN.out; show _ ≠ gx; omega) (.int .i64 ((G.length : Int) + 1)))
      clear HB_32 XB_33 GX_34 RZ_35 HG_36 HE_37 NB_38
      generalize World.setCell w22 ⟨gx, 2, none⟩ (.int .i64 ((G.length : Int) + 1)) = w23 at HB_39 XB_40 GX_41 RZ_42 HG_43 HE_44 NB_45 ⊢
      have HGY := lhid (show w23.heap[gx]? = some (.cells #[.int .i64 (newG G x).f0, .int .i64 (newG G x).f1, .int .i64 (newG G x).f2, .int .i64 (newG G x).f3, .int .i64 (newG G x).f4, .int .i64 (newG G x).f5, .int .i64 (newG G x).f6, .int .i64 (newG G x).f7, .bool (newG G x).f8] 39) by unfold newG; simp only [if_pos hf]; exact GX_41.out)
      clear GX_41
      have HY := lhid hy
      clear hy
      have GY := lhid (show w23.heap[gx]? = some (.cells #[.int .i64 y.f0, .int .i64 y.f1, .int .i64 y.f2, .int .i64 y.f3, .int .i64 y.f4, .int .i64 y.f5, .int .i64 y.f6, .int .i64 y.f7, .bool y.f8] 39) by rw [HY.out]; exact HGY.out)
      clear HGY
      have hy0 : y.f0 = (G.length : Int) + 1 := by rw [HY.out]; rfl
      have HY0 := lhid hy0
      clear hy0
      obtain ⟨n0, n1, n2⟩ := three NB_45.out
      obtain ⟨x0, x1, x2, x3, x4, x5, x6, x7, x8⟩ := nine GY.out
      go_upto_region 8 with (first | ((with_reducible refine gate_builtin (b := .append) (xs := #[.tmp 27, .tmp 29]) rfl ?_); at_builtin; refine Kd.R_append k39 (w0 := w) w.heap.size rfl (.tmp 27) (.tmp 29) 33 39 (.agg #[(.int .i64 0), (.int .i64 0), (.int .i64 0), (.int .i64 0), (.int .i64 0), (.int .i64 0), (.int .i64 0), (.int .i64 0), (.bool false)]) 72 rfl Try.underlying33 info39 rfl (by decide) (by omega) (.slice A1 G.length c1) G y [.int .i64 y.f0, .int .i64 y.f1, .int .i64 y.f2, .int .i64 y.f3, .int .i64 y.f4, .int .i64 y.f5, .int .i64 y.f6, .int .i64 y.f7, .bool y.f8] (fun _ => True) (fun _ => False) rfl rfl ?aP (fun _ hk => hk.elim) ?aF ?aO ?aB ?aS ?aL ?_; (case aP => exact k39_mkM _ _ _ y); (case aF => exact fun _ _ => trivial); (case aO => exact HG_43.out); (case aB => exact HB_39.out); (case aS => exact HB_39.out.size); (case aL => omega); intro v8 w8 ho8 hb8 hg8 hat8; obtain ⟨A8, c8, hv8⟩ := Kd.R_slice ho8; rw [show (G ++ [y]).length = G.length + 1 by simp] at hv8; subst hv8; have HP8 := lhid ho8; have HB8 := lhid hb8; have NB8 := lhid (blk_grown NB_45.out hg8 (Kd.R_ne HG_43.out NB_45.out (by decide))); have GX8 := lhid (blk_grown GY.out hg8 (HGXN.out)); have RZ8 := lhid (blk_grown RZ_42.out hg8 (Kd.R_ne HG_43.out RZ_42.out (by decide))); have HE8 := lhid (Kd.R_grown2 HE_44.out rfl hg8 (fun z hz e_ => by rcases own_type_ne (Kd.R_own HG_43.out).choose_spec (Kd.R_own HE_44.out).choose_spec (by decide) with q | q; (rw [q] at hz; cases hz); exact q (hz.trans e_))); have hn8 := (three NB8.out).1; have hf8 := blk_frozen NB8.out 0; clear ho8 hb8 hg8 hat8))
      try any_goals (exfalso; omega)
      clear n0 n1 n2 x0 x1 x2 x3 x4 x5 x6 x7 x8 hn8 hf8
      have HB_46 := lhid (HB8.out.setCell (p := ⟨nb, 0, none⟩) HGE_nb.out (.slice A8 (G.length + 1) c8))
      have HG_47 := lhid (Kd.R_set HP8.out NB8.out (by decide) 0 (.slice A8 (G.length + 1) c8))
      have NB_48 := lhid ((show (World.setCell w8 ⟨nb, 0, none⟩ (.slice A8 (G.length + 1) c8)).heap[nb]? = some (.cells #[.slice A8 (G.length + 1) c8, .slice A2 E.length c2, .int .i64 day] 51) from blk_put NB8.out 0 (.slice A8 (G.length + 1) c8) rfl))
      have GX_49 := lhid (blk_far GX8.out (p := ⟨nb, 0, none⟩) (by have h1 := HNE.out; have h2 := HNN.out; show _ ≠ nb; omega) (.slice A8 (G.length + 1) c8))
      have RZ_50 := lhid (blk_far RZ8.out (p := ⟨nb, 0, none⟩) (by have h1 := HNE.out; have h2 := HNN.out; show _ ≠ nb; omega) (.slice A8 (G.length + 1) c8))
      have HE_51 := lhid (Kd.R_set HE8.out NB8.out (by decide) 0 (.slice A8 (G.length + 1) c8))
      clear HB8 HP8 NB8 GX8 RZ8 HE8
      generalize World.setCell w8 ⟨nb, 0, none⟩ (.slice A8 (G.length + 1) c8) = w24 at HB_46 HG_47 NB_48 GX_49 RZ_50 HE_51 ⊢
      have hb := below_drew1 (Below.refl w24.heap.size w24)
      have HB_52 := lhid (below_then HB_46.out HB_46.out.size hb)
      have HG_53 := lhid (Kd.R_below HG_47.out hb)
      have NB_54 := lhid (blk_below NB_48.out hb)
      have GX_55 := lhid (blk_below GX_49.out hb)
      have RZ_56 := lhid (blk_below RZ_50.out hb)
      have HE_57 := lhid (Kd.R_below HE_51.out hb)
      clear HB_46 HG_47 NB_48 GX_49 RZ_50 HE_51 hb
      refine start_ (n := 6) (S := fun w' => w'.cell? ⟨nb, 0, none⟩ = some (.slice A8 (G.length + 1) c8) ∧ w'.cell? ⟨nb, 1, none⟩ = some (.slice A2 E.length c2) ∧ w'.cell? ⟨nb, 2, none⟩ = some (.int .i64 day) ∧ w'.cell? ⟨gx, 0, none⟩ = some (.int .i64 y.f0)) (ds := []) (lsb 6 0) (by kernel_rfl) rfl (by kernel_rfl) ⟨(three NB_54.out).1, (three NB_54.out).2.1, (three NB_54.out).2.2, (nine GX_55.out).1⟩ (fun hHeld => ?_)
      generalize w24.drew = w25 at HB_52 HG_53 NB_54 GX_55 RZ_56 HE_57 hHeld ⊢
      refine pu 1 (some 33) 6 2 rfl rfl (v := ?_) (a' := ?_) ?_ ?_ ?_; rotate_left; (intro w'; go_simp; with_reducible rfl); rotate_left; (simp only [Act.put, pS]; rfl)
      refine tk 0 (some 32) 6 3 rfl rfl hHeld (v := ?_) (a' := ?_) ?_ ?_ ?_; rotate_left; (rintro w' ⟨s0, s1, s2, s3⟩; go_simp; with_reducible rfl); rotate_left; (simp only [Act.put, pS]; rfl)
      refine tk 2 (some 34) 6 7 rfl rfl hHeld (v := ?_) (a' := ?_) ?_ ?_ ?_; rotate_left; (rintro w' ⟨s0, s1, s2, s3⟩; go_simp; with_reducible rfl); rotate_left; (simp only [Act.put, pS]; rfl)
      refine one_ (i := 3) (N := none) (lsb 6 15) rfl rfl (by kernel_rfl) (by decide) (fun K hK => ?_)
      obtain ⟨r0, r1, r2⟩ := three RZ_56.out
      have hfz := fun o => blk_frozen RZ_56.out o
      refine skip_ (w1 := ?_) (by rfl) rfl ?_ ?_
      rotate_left
      · go_simp
        rfl
      clear r0 r1 r2 hfz
      have NBz := blk_far (blk_far (blk_far NB_54.out (p := ⟨rb, 0, none⟩) (by have h2 := HNN.out; show nb ≠ rb; omega) (.slice A8 (G.length + 1) c8)) (p := ⟨rb, 1, none⟩) (by have h2 := HNN.out; show nb ≠ rb; omega) (.slice A2 E.length c2)) (p := ⟨rb, 2, none⟩) (by have h2 := HNN.out; show nb ≠ rb; omega) (.int .i64 day)
      have GXz := blk_far (blk_far (blk_far GX_55.out (p := ⟨rb, 0, none⟩) (by have h2 := HNN.out; show gx ≠ rb; omega) (.slice A8 (G.length + 1) c8)) (p := ⟨rb, 1, none⟩) (by have h2 := HNN.out; show gx ≠ rb; omega) (.slice A2 E.length c2)) (p := ⟨rb, 2, none⟩) (by have h2 := HNN.out; show gx ≠ rb; omega) (.int .i64 day)
      refine hK.out _ _ ⟨(three NBz).1, (three NBz).2.1, (three NBz).2.2, (nine GXz).1⟩ (fun hHeld => ?_)
      clear hK K
      refine pu 4 (some 5) 6 31 rfl rfl (v := ?_) (a' := ?_) ?_ ?_ ?_; rotate_left; (intro w'; go_simp; with_reducible rfl); rotate_left; (simp only [Act.put, pS]; rfl)
      refine pu 5 (some 6) 6 63 rfl rfl (v := ?_) (a' := ?_) ?_ ?_ ?_; rotate_left; (intro w'; go_simp; with_reducible rfl); rotate_left; (simp only [Act.put, pS]; rfl)
      refine done_ (by kernel_rfl) ?_
      
      rw [HY0.out]
      have hlen : (G ++ [y]).length = G.length + 1 := by simp
      go_wp2_with fail
      have hz1 := blk_put RZ_56.out 0 (.slice A8 (G.length + 1) c8) rfl
      have hz2 := blk_put hz1 1 (.slice A2 E.length c2) rfl
      have hz3 := blk_put hz2 2 (.int .i64 day) rfl
      have hHG := Kd.R_set (Kd.R_set (Kd.R_set HG_53.out RZ_56.out (by decide) 0 (.slice A8 (G.length + 1) c8)) hz1 (by decide) 1 (.slice A2 E.length c2)) hz2 (by decide) 2 (.int .i64 day)
      have hHE := Kd.R_set (Kd.R_set (Kd.R_set HE_57.out RZ_56.out (by decide) 0 (.slice A8 (G.length + 1) c8)) hz1 (by decide) 1 (.slice A2 E.length c2)) hz2 (by decide) 2 (.int .i64 day)
      have hB := ((HB_52.out.setCell (p := ⟨rb, 0, none⟩) HRB.out (.slice A8 (G.length + 1) c8)).setCell (p := ⟨rb, 1, none⟩) HRB.out (.slice A2 E.length c2)).setCell (p := ⟨rb, 2, none⟩) HRB.out (.int .i64 day)
      clear hz1 hz2
      generalize (World.setCell (World.setCell (World.setCell w25 ⟨rb, 0, none⟩ (.slice A8 (G.length + 1) c8)) ⟨rb, 1, none⟩ (.slice A2 E.length c2)) ⟨rb, 2, none⟩ (.int .i64 day)) = w9 at hz3 hHG hHE hB ⊢
      refine bodyPost_ret (results_ctt rfl _ _ rb 51 #[(.slice A8 (G.length + 1) c8), (.slice A2 E.length c2), (.int .i64 day)] (0, 0) _ rfl hz3 Try.underlying51 rfl (by kernel_rfl)) rfl ?_
      have hbn := bok_new (P := P) (w := w) HPW.out (day := day) (show Kd.R k39 39 w9 w.heap.size _ (.slice A8 (G ++ [y]).length c8) (G ++ [y]) by rw [hlen]; exact hHG) hHE
      rw [hlen] at hbn
      exact ⟨_, rfl, by rw [← HY.out]; exact hbn, hB⟩
    · have hd : (x.f1 == 0) = false := beq_eq_false_iff_ne.2 hf
      obtain ⟨x0, x1, x2, x3, x4, x5, x6, x7, x8⟩ := nine GX_34.out
      go_upto_region 7 with (fail)
      clear x0 x1 x2 x3 x4 x5 x6 x7 x8 hd
      have HGY := lhid (show w22.heap[gx]? = some (.cells #[.int .i64 (newG G x).f0, .int .i64 (newG G x).f1, .int .i64 (newG G x).f2, .int .i64 (newG G x).f3, .int .i64 (newG G x).f4, .int .i64 (newG G x).f5, .int .i64 (newG G x).f6, .int .i64 (newG G x).f7, .bool (newG G x).f8] 39) by unfold newG; simp only [if_neg hf]; exact GX_34.out)
      clear GX_34
      have HY := lhid hy
      clear hy
      have GY := lhid (show w22.heap[gx]? = some (.cells #[.int .i64 y.f0, .int .i64 y.f1, .int .i64 y.f2, .int .i64 y.f3, .int .i64 y.f4, .int .i64 y.f5, .int .i64 y.f6, .int .i64 y.f7, .bool y.f8] 39) by rw [HY.out]; exact HGY.out)
      clear HGY
      have hy0 : y.f0 = (G.length : Int) + 1 := by rw [HY.out]; rfl
      have HY0 := lhid hy0
      clear hy0
      obtain ⟨n0, n1, n2⟩ := three NB_38.out
      obtain ⟨x0, x1, x2, x3, x4, x5, x6, x7, x8⟩ := nine GY.out
      go_upto_region 8 with (first | ((with_reducible refine gate_builtin (b := .append) (xs := #[.tmp 27, .tmp 29]) rfl ?_); at_builtin; refine Kd.R_append k39 (w0 := w) w.heap.size rfl (.tmp 27) (.tmp 29) 33 39 (.agg #[(.int .i64 0), (.int .i64 0), (.int .i64 0), (.int .i64 0), (.int .i64 0), (.int .i64 0), (.int .i64 0), (.int .i64 0), (.bool false)]) 72 rfl Try.underlying33 info39 rfl (by decide) (by omega) (.slice A1 G.length c1) G y [.int .i64 y.f0, .int .i64 y.f1, .int .i64 y.f2, .int .i64 y.f3, .int .i64 y.f4, .int .i64 y.f5, .int .i64 y.f6, .int .i64 y.f7, .bool y.f8] (fun _ => True) (fun _ => False) rfl rfl ?aP (fun _ hk => hk.elim) ?aF ?aO ?aB ?aS ?aL ?_; (case aP => exact k39_mkM _ _ _ y); (case aF => exact fun _ _ => trivial); (case aO => exact HG_36.out); (case aB => exact HB_32.out); (case aS => exact HB_32.out.size); (case aL => omega); intro v8 w8 ho8 hb8 hg8 hat8; obtain ⟨A8, c8, hv8⟩ := Kd.R_slice ho8; rw [show (G ++ [y]).length = G.length + 1 by simp] at hv8; subst hv8; have HP8 := lhid ho8; have HB8 := lhid hb8; have NB8 := lhid (blk_grown NB_38.out hg8 (Kd.R_ne HG_36.out NB_38.out (by decide))); have GX8 := lhid (blk_grown GY.out hg8 (HGXN.out)); have RZ8 := lhid (blk_grown RZ_35.out hg8 (Kd.R_ne HG_36.out RZ_35.out (by decide))); have HE8 := lhid (Kd.R_grown2 HE_37.out rfl hg8 (fun z hz e_ => by rcases own_type_ne (Kd.R_own HG_36.out).choose_spec (Kd.R_own HE_37.out).choose_spec (by decide) with q | q; (rw [q] at hz; cases hz); exact q (hz.trans e_))); have hn8 := (three NB8.out).1; have hf8 := blk_frozen NB8.out 0; clear ho8 hb8 hg8 hat8))
      try any_goals (exfalso; omega)
      clear n0 n1 n2 x0 x1 x2 x3 x4 x5 x6 x7 x8 hn8 hf8
      have HB_58 := lhid (HB8.out.setCell (p := ⟨nb, 0, none⟩) HGE_nb.out (.slice A8 (G.length + 1) c8))
      have HG_59 := lhid (Kd.R_set HP8.out NB8.out (by decide) 0 (.slice A8 (G.length + 1) c8))
      have NB_60 := lhid ((show (World.setCell w8 ⟨nb, 0, none⟩ (.slice A8 (G.length + 1) c8)).heap[nb]? = some (.cells #[.slice A8 (G.length + 1) c8, .slice A2 E.length c2, .int .i64 day] 51) from blk_put NB8.out 0 (.slice A8 (G.length + 1) c8) rfl))
      have GX_61 := lhid (blk_far GX8.out (p := ⟨nb, 0, none⟩) (by have h1 := HNE.out; have h2 := HNN.out; show _ ≠ nb; omega) (.slice A8 (G.length + 1) c8))
      have RZ_62 := lhid (blk_far RZ8.out (p := ⟨nb, 0, none⟩) (by have h1 := HNE.out; have h2 := HNN.out; show _ ≠ nb; omega) (.slice A8 (G.length + 1) c8))
      have HE_63 := lhid (Kd.R_set HE8.out NB8.out (by decide) 0 (.slice A8 (G.length + 1) c8))
      clear HB8 HP8 NB8 GX8 RZ8 HE8
      generalize World.setCell w8 ⟨nb, 0, none⟩ (.slice A8 (G.length + 1) c8) = w23 at HB_58 HG_59 NB_60 GX_61 RZ_62 HE_63 ⊢
      have hb := below_drew1 (Below.refl w23.heap.size w23)
      have HB_64 := lhid (below_then HB_58.out HB_58.out.size hb)
      have HG_65 := lhid (Kd.R_below HG_59.out hb)
      have NB_66 := lhid (blk_below NB_60.out hb)
      have GX_67 := lhid (blk_below GX_61.out hb)
      have RZ_68 := lhid (blk_below RZ_62.out hb)
      have HE_69 := lhid (Kd.R_below HE_63.out hb)
      clear HB_58 HG_59 NB_60 GX_61 RZ_62 HE_63 hb
      refine start_ (n := 6) (S := fun w' => w'.cell? ⟨nb, 0, none⟩ = some (.slice A8 (G.length + 1) c8) ∧ w'.cell? ⟨nb, 1, none⟩ = some (.slice A2 E.length c2) ∧ w'.cell? ⟨nb, 2, none⟩ = some (.int .i64 day) ∧ w'.cell? ⟨gx, 0, none⟩ = some (.int .i64 y.f0)) (ds := []) (lsb 6 0) (by kernel_rfl) rfl (by kernel_rfl) ⟨(three NB_66.out).1, (three NB_66.out).2.1, (three NB_66.out).2.2, (nine GX_67.out).1⟩ (fun hHeld => ?_)
      generalize w23.drew = w24 at HB_64 HG_65 NB_66 GX_67 RZ_68 HE_69 hHeld ⊢
      refine pu 1 (some 33) 6 2 rfl rfl (v := ?_) (a' := ?_) ?_ ?_ ?_; rotate_left; (intro w'; go_simp; with_reducible rfl); rotate_left; (simp only [Act.put, pS]; rfl)
      refine tk 0 (some 32) 6 3 rfl rfl hHeld (v := ?_) (a' := ?_) ?_ ?_ ?_; rotate_left; (rintro w' ⟨s0, s1, s2, s3⟩; go_simp; with_reducible rfl); rotate_left; (simp only [Act.put, pS]; rfl)
      refine tk 2 (some 34) 6 7 rfl rfl hHeld (v := ?_) (a' := ?_) ?_ ?_ ?_; rotate_left; (rintro w' ⟨s0, s1, s2, s3⟩; go_simp; with_reducible rfl); rotate_left; (simp only [Act.put, pS]; rfl)
      refine one_ (i := 3) (N := none) (lsb 6 15) rfl rfl (by kernel_rfl) (by decide) (fun K hK => ?_)
      obtain ⟨r0, r1, r2⟩ := three RZ_68.out
      have hfz := fun o => blk_frozen RZ_68.out o
      refine skip_ (w1 := ?_) (by rfl) rfl ?_ ?_
      rotate_left
      · go_simp
        rfl
      clear r0 r1 r2 hfz
      have NBz := blk_far (blk_far (blk_far NB_66.out (p := ⟨rb, 0, none⟩) (by have h2 := HNN.out; show nb ≠ rb; omega) (.slice A8 (G.length + 1) c8)) (p := ⟨rb, 1, none⟩) (by have h2 := HNN.out; show nb ≠ rb; omega) (.slice A2 E.length c2)) (p := ⟨rb, 2, none⟩) (by have h2 := HNN.out; show nb ≠ rb; omega) (.int .i64 day)
      have GXz := blk_far (blk_far (blk_far GX_67.out (p := ⟨rb, 0, none⟩) (by have h2 := HNN.out; show gx ≠ rb; omega) (.slice A8 (G.length + 1) c8)) (p := ⟨rb, 1, none⟩) (by have h2 := HNN.out; show gx ≠ rb; omega) (.slice A2 E.length c2)) (p := ⟨rb, 2, none⟩) (by have h2 := HNN.out; show gx ≠ rb; omega) (.int .i64 day)
      refine hK.out _ _ ⟨(three NBz).1, (three NBz).2.1, (three NBz).2.2, (nine GXz).1⟩ (fun hHeld => ?_)
      clear hK K
      refine pu 4 (some 5) 6 31 rfl rfl (v := ?_) (a' := ?_) ?_ ?_ ?_; rotate_left; (intro w'; go_simp; with_reducible rfl); rotate_left; (simp only [Act.put, pS]; rfl)
      refine pu 5 (some 6) 6 63 rfl rfl (v := ?_) (a' := ?_) ?_ ?_ ?_; rotate_left; (intro w'; go_simp; with_reducible rfl); rotate_left; (simp only [Act.put, pS]; rfl)
      refine done_ (by kernel_rfl) ?_
      
      rw [HY0.out]
      have hlen : (G ++ [y]).length = G.length + 1 := by simp
      go_wp2_with fail
      have hz1 := blk_put RZ_68.out 0 (.slice A8 (G.length + 1) c8) rfl
      have hz2 := blk_put hz1 1 (.slice A2 E.length c2) rfl
      have hz3 := blk_put hz2 2 (.int .i64 day) rfl
      have hHG := Kd.R_set (Kd.R_set (Kd.R_set HG_65.out RZ_68.out (by decide) 0 (.slice A8 (G.length + 1) c8)) hz1 (by decide) 1 (.slice A2 E.length c2)) hz2 (by decide) 2 (.int .i64 day)
      have hHE := Kd.R_set (Kd.R_set (Kd.R_set HE_69.out RZ_68.out (by decide) 0 (.slice A8 (G.length + 1) c8)) hz1 (by decide) 1 (.slice A2 E.length c2)) hz2 (by decide) 2 (.int .i64 day)
      have hB := ((HB_64.out.setCell (p := ⟨rb, 0, none⟩) HRB.out (.slice A8 (G.length + 1) c8)).setCell (p := ⟨rb, 1, none⟩) HRB.out (.slice A2 E.length c2)).setCell (p := ⟨rb, 2, none⟩) HRB.out (.int .i64 day)
      clear hz1 hz2
      generalize (World.setCell (World.setCell (World.setCell w24 ⟨rb, 0, none⟩ (.slice A8 (G.length + 1) c8)) ⟨rb, 1, none⟩ (.slice A2 E.length c2)) ⟨rb, 2, none⟩ (.int .i64 day)) = w9 at hz3 hHG hHE hB ⊢
      refine bodyPost_ret (results_ctt rfl _ _ rb 51 #[(.slice A8 (G.length + 1) c8), (.slice A2 E.length c2), (.int .i64 day)] (0, 0) _ rfl hz3 Try.underlying51 rfl (by kernel_rfl)) rfl ?_
      have hbn := bok_new (P := P) (w := w) HPW.out (day := day) (show Kd.R k39 39 w9 w.heap.size _ (.slice A8 (G ++ [y]).length c8) (G ++ [y]) by rw [hlen]; exact hHG) hHE
      rw [hlen] at hbn
      exact ⟨_, rfl, by rw [← HY.out]; exact hbn, hB⟩
end Go.Proofs.Ytfnlghjkjmppdaa.PC
end
section
namespace Go.Proofs.Ytfnlghjkjmppdaa.PC
open Go.RowKit Go.Proofs.YtfnlghjkjmppdaaW.PrintWords Go.Proofs.YtfnlghjkjmppdaaW.PrintLast Go.Proofs.YtfnlghjkjmppdaaW.PrintMore
set_option linter.unusedVariables false
set_option linter.unusedSimpArgs false
set_option maxHeartbeats 12800000 in
set_option maxRecDepth 100000 in
theorem person_r (w : World) (n : Int) : Calls Try.prog 88 #[.int .i64 n] w fun e w' => e = .returned (.bool (perB n)) ∧ w = w' := by
  go_enter Try.func88, Try.ntmps88
  by_cases c1 : n ≥ 0
  · have d1 : decide (n ≥ 0) = true := decide_eq_true c1
    by_cases c2 : n ≤ 15
    · have d2 : decide (n ≤ 15) = true := decide_eq_true c2
      have hr : perB n = true := by unfold perB; rw [d2]; simp; omega
      go_wp2_with fail
      go_ret
      exact ⟨by first | (rw [hr]; rfl) | rfl, rfl⟩
    · have d2 : decide (n ≤ 15) = false := decide_eq_false c2
      have hr : perB n = false := by unfold perB; rw [d2]; simp
      go_wp2_with fail
      go_ret
      exact ⟨by first | (rw [hr]; rfl) | rfl, rfl⟩
  · have d1 : decide (n ≥ 0) = false := decide_eq_false c1
    have hr : perB n = false := by unfold perB; rw [decide_eq_false (show ¬ 0 ≤ n by omega)]; rfl
    go_wp2_with fail
    go_ret
    exact ⟨by first | (rw [hr]; rfl) | rfl, rfl⟩
set_option maxHeartbeats 12800000 in
set_option maxRecDepth 100000 in
theorem day_r (w : World) (n : Int) : Calls Try.prog 91 #[.int .i64 n] w fun e w' => e = .returned (.bool (dayB n)) ∧ w = w' := by
  go_enter Try.func91, Try.ntmps91
  by_cases c1 : n ≥ 0
  · have d1 : decide (n ≥ 0) = true := decide_eq_true c1
    by_cases c2 : n ≤ 1073741824
    · have d2 : decide (n ≤ 1073741824) = true := decide_eq_true c2
      have hr : dayB n = true := by unfold dayB; rw [d2]; simp; omega
      go_wp2_with fail
      go_ret
      exact ⟨by first | (rw [hr]; rfl) | rfl, rfl⟩
    · have d2 : decide (n ≤ 1073741824) = false := decide_eq_false c2
      have hr : dayB n = false := by unfold dayB; rw [d2]; simp
      go_wp2_with fail
      go_ret
      exact ⟨by first | (rw [hr]; rfl) | rfl, rfl⟩
  · have d1 : decide (n ≥ 0) = false := decide_eq_false c1
    have hr : dayB n = false := by unfold dayB; rw [decide_eq_false (show ¬ 0 ≤ n by omega)]; rfl
    go_wp2_with fail
    go_ret
    exact ⟨by first | (rw [hr]; rfl) | rfl, rfl⟩
set_option maxHeartbeats 12800000 in
set_option maxRecDepth 100000 in
theorem wide_r (w : World) (h v r u s : Int) : Calls Try.prog 86 #[.int .i64 h, .int .i64 v, .int .i64 r, .int .i64 u, .int .i64 s] w fun e w' => e = .returned (.bool (mayB h v r u s)) ∧ w = w' := by
  go_enter Try.func86, Try.ntmps86
  go_wp2_with fail
  with_reducible refine (person_r _ h).mono ?_
  rintro e w' ⟨rfl, rfl⟩
  cases k1 : perB h
  · have hm : mayB h v r u s = false := by unfold mayB; simp [k1]
    go_wp2_with fail
    try any_goals (exfalso; omega)
    go_ret
    exact ⟨by first | (rw [hm]; rfl) | rfl, rfl⟩
  · by_cases k2 : v ≥ 1
    · have dk2 : decide (v ≥ 1) = true := decide_eq_true k2
      by_cases k3 : v < 65536
      · have dk3 : decide (v < 65536) = true := decide_eq_true k3
        by_cases k4 : r ≥ 1
        · have dk4 : decide (r ≥ 1) = true := decide_eq_true k4
          by_cases k5 : r ≤ 3
          · have dk5 : decide (r ≤ 3) = true := decide_eq_true k5
            go_wp2_with fail
            with_reducible refine (day_r _ u).mono ?_
            rintro e w' ⟨rfl, rfl⟩
            cases k6 : dayB u
            · have hm : mayB h v r u s = false := by unfold mayB; simp [k1, k2, k3, k4, k5, k6]
              go_wp2_with fail
              try any_goals (exfalso; omega)
              go_ret
              exact ⟨by first | (rw [hm]; rfl) | rfl, rfl⟩
            · by_cases u0 : s = -1
              · have du : (s == -1) = true := beq_iff_eq.2 u0
                have hm : mayB h v r u s = true := by unfold mayB; simp [k1, k2, k3, k4, k5, k6, u0]
                go_wp2_with fail
                try any_goals (exfalso; omega)
                go_ret
                exact ⟨by first | (rw [hm]; rfl) | rfl, rfl⟩
              · have du : (s == -1) = false := beq_eq_false_iff_ne.2 u0
                by_cases u1 : s ≥ 1
                · have du1 : decide (s ≥ 1) = true := decide_eq_true u1
                  by_cases u2 : s ≤ 1048576
                  · have du2 : decide (s ≤ 1048576) = true := decide_eq_true u2
                    have hm : mayB h v r u s = true := by unfold mayB; simp [k1, k2, k3, k4, k5, k6, u0, u1, u2]
                    go_wp2_with fail
                    try any_goals (exfalso; omega)
                    go_ret
                    exact ⟨by first | (rw [hm]; rfl) | rfl, rfl⟩
                  · have du2 : decide (s ≤ 1048576) = false := decide_eq_false u2
                    have hm : mayB h v r u s = false := by unfold mayB; simp [k1, k2, k3, k4, k5, k6, u0, u1, u2]
                    go_wp2_with fail
                    try any_goals (exfalso; omega)
                    go_ret
                    exact ⟨by first | (rw [hm]; rfl) | rfl, rfl⟩
                · have du1 : decide (s ≥ 1) = false := decide_eq_false u1
                  have hm : mayB h v r u s = false := by unfold mayB; simp [k1, k2, k3, k4, k5, k6, u0, u1]
                  go_wp2_with fail
                  try any_goals (exfalso; omega)
                  go_ret
                  exact ⟨by first | (rw [hm]; rfl) | rfl, rfl⟩
          · have dk5 : decide (r ≤ 3) = false := decide_eq_false k5
            have hm : mayB h v r u s = false := by unfold mayB; simp [k1, k2, k3, k4, k5]
            go_wp2_with fail
            try any_goals (exfalso; omega)
            go_ret
            exact ⟨by first | (rw [hm]; rfl) | rfl, rfl⟩
        · have dk4 : decide (r ≥ 1) = false := decide_eq_false k4
          have hm : mayB h v r u s = false := by unfold mayB; simp [k1, k2, k3, k4]
          go_wp2_with fail
          try any_goals (exfalso; omega)
          go_ret
          exact ⟨by first | (rw [hm]; rfl) | rfl, rfl⟩
      · have dk3 : decide (v < 65536) = false := decide_eq_false k3
        have hm : mayB h v r u s = false := by unfold mayB; simp [k1, k2, k3]
        go_wp2_with fail
        try any_goals (exfalso; omega)
        go_ret
        exact ⟨by first | (rw [hm]; rfl) | rfl, rfl⟩
    · have dk2 : decide (v ≥ 1) = false := decide_eq_false k2
      have hm : mayB h v r u s = false := by unfold mayB; simp [k1, k2]
      go_wp2_with fail
      try any_goals (exfalso; omega)
      go_ret
      exact ⟨by first | (rw [hm]; rfl) | rfl, rfl⟩
def gRG (G : List S39) (h v r u s : Int) : List S39 := if mayB h v r u s = true then putG G ⟨0, 0, 0, h, v, r, u, s, false⟩ else G
def gRN (G : List S39) (h v r u s : Int) : Int := if mayB h v r u s = true then putN G else 0
def gRC (G : List S39) (h v r u s : Int) : Int := if mayB h v r u s = true then putC G else 2
set_option maxHeartbeats 12800000 in
set_option maxRecDepth 100000 in
theorem Grant_r (P : Nat → Prop) (w : World) (AG : Option Addr) (cG : Nat) (G : List S39) (AE : Option Addr) (cE : Nat) (E : List S44) (day : Int) (h_ v r u s : Int) (hS : Stay P w AG cG G AE cE E) (hP : ∀ k, P k → k < w.heap.size) (hT : Tree G) (hlE : E.length ≤ 100) : Calls Try.prog 68 #[.agg #[.slice AG G.length cG, .slice AE E.length cE, .int .i64 day], .int .i64 h_, .int .i64 v, .int .i64 r, .int .i64 u, .int .i64 s] w fun e w' => ∃ b, e = .returned (.tuple #[b, .int .i64 (gRN G h_ v r u s), .int .i64 (gRC G h_ v r u s)]) ∧ Bok P w' (gRG G h_ v r u s) E day b ∧ Below w.heap.size w w' := by
  have HRW := lhid hS
  have HPW := lhid hP
  have HT := lhid hT
  have hgl := hT.1
  have HLE := lhid hlE
  clear hS hP hT hlE
  cases hm : mayB h_ v r u s
  · have hG : gRG G h_ v r u s = G ∧ gRN G h_ v r u s = 0 ∧ gRC G h_ v r u s = 2 := by unfold gRG gRN gRC; simp [hm]
    rw [hG.1, hG.2.1, hG.2.2]
    clear hG
    have hu51 := Try.underlying51
    have hu39 := Try.underlying39
    have hu44 := Try.underlying44
    go_enter Try.func68, Try.ntmps68
    have HB_1 := lhid (Below.refl w.heap.size w)
    go_upto_region 1 with (fail)
    have hb := below_alloc (Below.refl w.heap.size w) (.cells #[.slice AG G.length cG, .slice AE E.length cE, .int .i64 day] 51)
    have hn := blk_new w (.cells #[.slice AG G.length cG, .slice AE E.length cE, .int .i64 day] 51)
    have HZ1 := lhid (show (World.alloc w (.cells #[.slice AG G.length cG, .slice AE E.length cE, .int .i64 day] 51)).heap.size = w.heap.size + 1 from by simp)
    generalize hq : World.alloc w (.cells #[.slice AG G.length cG, .slice AE E.length cE, .int .i64 day] 51) = w1 at hb hn HZ1 ⊢
    clear hq
    have HB_2 := lhid (below_then HB_1.out HB_1.out.size hb)
    clear HB_1 hb
    have XB_3 := lhid (hn)
    clear hn
    obtain ⟨xb, hxb⟩ : ∃ q, q = w.heap.size := ⟨_, rfl⟩
    rw [← hxb] at XB_3 ⊢
    have Exb := lhid hxb
    clear hxb
    have hb := below_alloc (Below.refl w1.heap.size w1) (.cells #[.slice none 0 0, .slice none 0 0, .int .i64 0] 51)
    have hn := blk_new w1 (.cells #[.slice none 0 0, .slice none 0 0, .int .i64 0] 51)
    have HZ2 := lhid (show (World.alloc w1 (.cells #[.slice none 0 0, .slice none 0 0, .int .i64 0] 51)).heap.size = w1.heap.size + 1 from by simp)
    generalize hq : World.alloc w1 (.cells #[.slice none 0 0, .slice none 0 0, .int .i64 0] 51) = w2 at hb hn HZ2 ⊢
    clear hq
    have HB_4 := lhid (below_then HB_2.out HB_2.out.size hb)
    have XB_5 := lhid (blk_below XB_3.out hb)
    clear HB_2 XB_3 hb
    have RZ_6 := lhid (hn)
    clear hn
    obtain ⟨rb, hrb⟩ : ∃ q, q = xb + 1 := ⟨_, rfl⟩
    rw [show w1.heap.size = rb by rw [hrb]; have z1 := HZ1.out; have y0 := Exb.out; omega] at RZ_6
    rw [← hrb]
    have Erb := lhid hrb
    clear hrb
    have HNE := lhid (show xb = w.heap.size + 0 ∧ rb = w.heap.size + 1 ∧ w2.heap.size = w.heap.size + 2 by have z1 := HZ1.out; have z2 := HZ2.out; have y0 := Exb.out;  have y1 := Erb.out; omega)
    clear Exb Erb HZ1 HZ2
    have HRB := lhid (show w.heap.size ≤ rb by have := HNE.out; omega)
    go_wp2_with fail
    with_reducible refine (wide_r _ h_ v r u s).mono ?_
    rintro e w' ⟨rfl, rfl⟩
    rw [hm]
    obtain ⟨z0, z1, z2⟩ := three XB_5.out
    obtain ⟨r0, r1, r2⟩ := three RZ_6.out
    have hfz : ∀ o, w2.frozen? ⟨rb, o, none⟩ = false := fun o => blk_frozen RZ_6.out o
    go_wp2_with fail
    try any_goals (exfalso; omega)
    clear z0 z1 z2
    clear r0 r1 r2 hfz
    have hz1 := blk_put RZ_6.out 0 (.slice AG G.length cG) rfl
    have hz2 := blk_put hz1 1 (.slice AE E.length cE) rfl
    have hz3 := blk_put hz2 2 (.int .i64 day) rfl
    have hB := ((HB_4.out.setCell (p := ⟨rb, 0, none⟩) HRB.out (.slice AG G.length cG)).setCell (p := ⟨rb, 1, none⟩) HRB.out (.slice AE E.length cE)).setCell (p := ⟨rb, 2, none⟩) HRB.out (.int .i64 day)
    clear hz1 hz2
    generalize (World.setCell (World.setCell (World.setCell w2 ⟨rb, 0, none⟩ (.slice AG G.length cG)) ⟨rb, 1, none⟩ (.slice AE E.length cE)) ⟨rb, 2, none⟩ (.int .i64 day)) = w9 at hz3  hB ⊢
    refine bodyPost_ret (results_ctt rfl _ _ rb 51 #[(.slice AG G.length cG), (.slice AE E.length cE), (.int .i64 day)] (0, 0) _ rfl hz3 Try.underlying51 rfl (by kernel_rfl)) rfl ?_
    exact ⟨_, rfl, bok_same HRW.out hB, hB⟩
  · have hG : gRG G h_ v r u s = putG G ⟨0, 0, 0, h_, v, r, u, s, false⟩ ∧ gRN G h_ v r u s = putN G ∧ gRC G h_ v r u s = putC G := by unfold gRG gRN gRC; simp [hm]
    rw [hG.1, hG.2.1, hG.2.2]
    clear hG
    have hu51 := Try.underlying51
    have hu39 := Try.underlying39
    have hu44 := Try.underlying44
    go_enter Try.func68, Try.ntmps68
    have HB_7 := lhid (Below.refl w.heap.size w)
    go_upto_region 1 with (fail)
    have hb := below_alloc (Below.refl w.heap.size w) (.cells #[.slice AG G.length cG, .slice AE E.length cE, .int .i64 day] 51)
    have hn := blk_new w (.cells #[.slice AG G.length cG, .slice AE E.length cE, .int .i64 day] 51)
    have HZ1 := lhid (show (World.alloc w (.cells #[.slice AG G.length cG, .slice AE E.length cE, .int .i64 day] 51)).heap.size = w.heap.size + 1 from by simp)
    generalize hq : World.alloc w (.cells #[.slice AG G.length cG, .slice AE E.length cE, .int .i64 day] 51) = w1 at hb hn HZ1 ⊢
    clear hq
    have HB_8 := lhid (below_then HB_7.out HB_7.out.size hb)
    clear HB_7 hb
    have XB_9 := lhid (hn)
    clear hn
    obtain ⟨xb, hxb⟩ : ∃ q, q = w.heap.size := ⟨_, rfl⟩
    rw [← hxb] at XB_9 ⊢
    have Exb := lhid hxb
    clear hxb
    have hb := below_alloc (Below.refl w1.heap.size w1) (.cells #[.slice none 0 0, .slice none 0 0, .int .i64 0] 51)
    have hn := blk_new w1 (.cells #[.slice none 0 0, .slice none 0 0, .int .i64 0] 51)
    have HZ2 := lhid (show (World.alloc w1 (.cells #[.slice none 0 0, .slice none 0 0, .int .i64 0] 51)).heap.size = w1.heap.size + 1 from by simp)
    generalize hq : World.alloc w1 (.cells #[.slice none 0 0, .slice none 0 0, .int .i64 0] 51) = w2 at hb hn HZ2 ⊢
    clear hq
    have HB_10 := lhid (below_then HB_8.out HB_8.out.size hb)
    have XB_11 := lhid (blk_below XB_9.out hb)
    clear HB_8 XB_9 hb
    have RZ_12 := lhid (hn)
    clear hn
    obtain ⟨rb, hrb⟩ : ∃ q, q = xb + 1 := ⟨_, rfl⟩
    rw [show w1.heap.size = rb by rw [hrb]; have z1 := HZ1.out; have y0 := Exb.out; omega] at RZ_12
    rw [← hrb]
    have Erb := lhid hrb
    clear hrb
    have HNE := lhid (show xb = w.heap.size + 0 ∧ rb = w.heap.size + 1 ∧ w2.heap.size = w.heap.size + 2 by have z1 := HZ1.out; have z2 := HZ2.out; have y0 := Exb.out;  have y1 := Erb.out; omega)
    clear Exb Erb HZ1 HZ2
    have HRB := lhid (show w.heap.size ≤ rb by have := HNE.out; omega)
    go_wp2_with fail
    with_reducible refine (wide_r _ h_ v r u s).mono ?_
    rintro e w' ⟨rfl, rfl⟩
    rw [hm]
    obtain ⟨z0, z1, z2⟩ := three XB_11.out
    go_wp2_with fail
    try any_goals (exfalso; omega)
    clear z0 z1 z2
    have HW3 := lhid (show w2.heap.size = w.heap.size + 2 from HNE.out.2.2)
    have HIN := lhid (show P rb ∨ (w.heap.size ≤ rb ∧ rb < w2.heap.size) from Or.inr (by have h1 := HNE.out; have h3 := HW3.out; omega))
    have HS3 := lhid (show w.heap.size ≤ w2.heap.size from HB_10.out.size)
    with_reducible refine (put_r (fun k => P k ∨ (w.heap.size ≤ k ∧ k < w2.heap.size)) w2 AG cG G AE cE E day ⟨0, 0, 0, h_, v, r, u, s, false⟩ (stay_box HRW.out HB_10.out) (stay_lt HPW.out HB_10.out.size) HT.out HLE.out).mono ?_
    rintro e w20 ⟨vb, rfl, ⟨A1, c1, A2, c2, rfl, hR⟩, hb⟩
    have HRK := lhid hR
    clear hR
    have HB_13 := lhid (below_then HB_10.out HB_10.out.size hb)
    have XB_14 := lhid (blk_below XB_11.out hb)
    have RZ_15 := lhid (blk_below RZ_12.out hb)
    clear HB_10 XB_11 RZ_12 hb
    obtain ⟨G2, hG2⟩ : ∃ q, q = putG G ⟨0, 0, 0, h_, v, r, u, s, false⟩ := ⟨_, rfl⟩
    rw [← hG2] at HRK ⊢
    have HG2 := lhid hG2
    clear hG2
    obtain ⟨r0, r1, r2⟩ := three RZ_15.out
    have hfz : ∀ o, w20.frozen? ⟨rb, o, none⟩ = false := fun o => blk_frozen RZ_15.out o
    go_wp2_with fail
    try any_goals (exfalso; omega)
    clear r0 r1 r2 hfz
    have hz1 := blk_put RZ_15.out 0 (.slice A1 G2.length c1) rfl
    have hz2 := blk_put hz1 1 (.slice A2 E.length c2) rfl
    have hz3 := blk_put hz2 2 (.int .i64 day) rfl
    have hB := ((HB_13.out.setCell (p := ⟨rb, 0, none⟩) HRB.out (.slice A1 G2.length c1)).setCell (p := ⟨rb, 1, none⟩) HRB.out (.slice A2 E.length c2)).setCell (p := ⟨rb, 2, none⟩) HRB.out (.int .i64 day)
    clear hz1 hz2
    have hC := (((Chg.refl (fun k => P k ∨ (w.heap.size ≤ k ∧ k < w2.heap.size)) w20).set (p := ⟨rb, 0, none⟩) (Or.inr HIN.out) (.slice A1 G2.length c1)).set (p := ⟨rb, 1, none⟩) (Or.inr HIN.out) (.slice A2 E.length c2)).set (p := ⟨rb, 2, none⟩) (Or.inr HIN.out) (.int .i64 day)
    generalize (World.setCell (World.setCell (World.setCell w20 ⟨rb, 0, none⟩ (.slice A1 G2.length c1)) ⟨rb, 1, none⟩ (.slice A2 E.length c2)) ⟨rb, 2, none⟩ (.int .i64 day)) = w9 at hz3  hB hC ⊢
    refine bodyPost_ret (results_ctt rfl _ _ rb 51 #[(.slice A1 G2.length c1), (.slice A2 E.length c2), (.int .i64 day)] (0, 0) _ rfl hz3 Try.underlying51 rfl (by kernel_rfl)) rfl ?_
    exact ⟨_, rfl, by rw [← HG2.out]; exact bok_thru HRK.out hC (fun k z => Or.inl z), hB⟩
def nRD (day n : Int) : Int := if dayB n = false then day else if n < day then day else n
set_option maxHeartbeats 12800000 in
set_option maxRecDepth 100000 in
theorem Next_r (P : Nat → Prop) (w : World) (AG : Option Addr) (cG : Nat) (G : List S39) (AE : Option Addr) (cE : Nat) (E : List S44) (day : Int) (n : Int) (hS : Stay P w AG cG G AE cE E) (hP : ∀ k, P k → k < w.heap.size) (hT : Tree G) (hlE : E.length ≤ 100) : Calls Try.prog 71 #[.agg #[.slice AG G.length cG, .slice AE E.length cE, .int .i64 day], .int .i64 n] w fun e w' => ∃ b, e = .returned (.tuple #[b, .int .i64 (nextC day n)]) ∧ Bok P w' G E (nRD day n) b ∧ Below w.heap.size w w' := by
  have HRW := lhid hS
  have HPW := lhid hP
  have HT := lhid hT
  have hgl := hT.1
  have HLE := lhid hlE
  clear hS hP hT hlE
  cases hm : dayB n
  · have hG : nRD day n = day ∧ nextC day n = 2 := by unfold nRD nextC; rw [hm]; simp
    rw [hG.1, hG.2]
    clear hG
    have hu51 := Try.underlying51
    have hu39 := Try.underlying39
    have hu44 := Try.underlying44
    go_enter Try.func71, Try.ntmps71
    have HB_1 := lhid (Below.refl w.heap.size w)
    go_upto_region 1 with (fail)
    have hb := below_alloc (Below.refl w.heap.size w) (.cells #[.slice AG G.length cG, .slice AE E.length cE, .int .i64 day] 51)
    have hn := blk_new w (.cells #[.slice AG G.length cG, .slice AE E.length cE, .int .i64 day] 51)
    have HZ1 := lhid (show (World.alloc w (.cells #[.slice AG G.length cG, .slice AE E.length cE, .int .i64 day] 51)).heap.size = w.heap.size + 1 from by simp)
    generalize hq : World.alloc w (.cells #[.slice AG G.length cG, .slice AE E.length cE, .int .i64 day] 51) = w1 at hb hn HZ1 ⊢
    clear hq
    have HB_2 := lhid (below_then HB_1.out HB_1.out.size hb)
    clear HB_1 hb
    have XB_3 := lhid (hn)
    clear hn
    obtain ⟨xb, hxb⟩ : ∃ q, q = w.heap.size := ⟨_, rfl⟩
    rw [← hxb] at XB_3 ⊢
    have Exb := lhid hxb
    clear hxb
    have hb := below_alloc (Below.refl w1.heap.size w1) (.cells #[.slice none 0 0, .slice none 0 0, .int .i64 0] 51)
    have hn := blk_new w1 (.cells #[.slice none 0 0, .slice none 0 0, .int .i64 0] 51)
    have HZ2 := lhid (show (World.alloc w1 (.cells #[.slice none 0 0, .slice none 0 0, .int .i64 0] 51)).heap.size = w1.heap.size + 1 from by simp)
    generalize hq : World.alloc w1 (.cells #[.slice none 0 0, .slice none 0 0, .int .i64 0] 51) = w2 at hb hn HZ2 ⊢
    clear hq
    have HB_4 := lhid (below_then HB_2.out HB_2.out.size hb)
    have XB_5 := lhid (blk_below XB_3.out hb)
    clear HB_2 XB_3 hb
    have RZ_6 := lhid (hn)
    clear hn
    obtain ⟨rb, hrb⟩ : ∃ q, q = xb + 1 := ⟨_, rfl⟩
    rw [show w1.heap.size = rb by rw [hrb]; have z1 := HZ1.out; have y0 := Exb.out; omega] at RZ_6
    rw [← hrb]
    have Erb := lhid hrb
    clear hrb
    have HNE := lhid (show xb = w.heap.size + 0 ∧ rb = w.heap.size + 1 ∧ w2.heap.size = w.heap.size + 2 by have z1 := HZ1.out; have z2 := HZ2.out; have y0 := Exb.out;  have y1 := Erb.out; omega)
    clear Exb Erb HZ1 HZ2
    have HRB := lhid (show w.heap.size ≤ rb by have := HNE.out; omega)
    go_wp2_with fail
    with_reducible refine (day_r _ n).mono ?_
    rintro e w' ⟨rfl, rfl⟩
    rw [hm]
    obtain ⟨z0, z1, z2⟩ := three XB_5.out
    obtain ⟨r0, r1, r2⟩ := three RZ_6.out
    have hfz : ∀ o, w2.frozen? ⟨rb, o, none⟩ = false := fun o => blk_frozen RZ_6.out o
    go_wp2_with fail
    try any_goals (exfalso; omega)
    clear z0 z1 z2
    clear r0 r1 r2 hfz
    have hz1 := blk_put RZ_6.out 0 (.slice AG G.length cG) rfl
    have hz2 := blk_put hz1 1 (.slice AE E.length cE) rfl
    have hz3 := blk_put hz2 2 (.int .i64 day) rfl
    have hB := ((HB_4.out.setCell (p := ⟨rb, 0, none⟩) HRB.out (.slice AG G.length cG)).setCell (p := ⟨rb, 1, none⟩) HRB.out (.slice AE E.length cE)).setCell (p := ⟨rb, 2, none⟩) HRB.out (.int .i64 day)
    clear hz1 hz2
    generalize (World.setCell (World.setCell (World.setCell w2 ⟨rb, 0, none⟩ (.slice AG G.length cG)) ⟨rb, 1, none⟩ (.slice AE E.length cE)) ⟨rb, 2, none⟩ (.int .i64 day)) = w9 at hz3  hB ⊢
    refine bodyPost_ret (results_ct rfl _ _ rb 51 #[(.slice AG G.length cG), (.slice AE E.length cE), (.int .i64 day)] (0, 0) _ rfl hz3 Try.underlying51 rfl (by kernel_rfl)) rfl ?_
    exact ⟨_, rfl, bok_same HRW.out hB, hB⟩
  · by_cases hn : n < day
    · have hG : nRD day n = day ∧ nextC day n = 9 := by unfold nRD nextC; rw [hm, if_pos hn]; simp [hn]
      rw [hG.1, hG.2]
      clear hG
      have hu51 := Try.underlying51
      have hu39 := Try.underlying39
      have hu44 := Try.underlying44
      go_enter Try.func71, Try.ntmps71
      have HB_7 := lhid (Below.refl w.heap.size w)
      go_upto_region 1 with (fail)
      have hb := below_alloc (Below.refl w.heap.size w) (.cells #[.slice AG G.length cG, .slice AE E.length cE, .int .i64 day] 51)
      have hn := blk_new w (.cells #[.slice AG G.length cG, .slice AE E.length cE, .int .i64 day] 51)
      have HZ1 := lhid (show (World.alloc w (.cells #[.slice AG G.length cG, .slice AE E.length cE, .int .i64 day] 51)).heap.size = w.heap.size + 1 from by simp)
      generalize hq : World.alloc w (.cells #[.slice AG G.length cG, .slice AE E.length cE, .int .i64 day] 51) = w1 at hb hn HZ1 ⊢
      clear hq
      have HB_8 := lhid (below_then HB_7.out HB_7.out.size hb)
      clear HB_7 hb
      have XB_9 := lhid (hn)
      clear hn
      obtain ⟨xb, hxb⟩ : ∃ q, q = w.heap.size := ⟨_, rfl⟩
      rw [← hxb] at XB_9 ⊢
      have Exb := lhid hxb
      clear hxb
      have hb := below_alloc (Below.refl w1.heap.size w1) (.cells #[.slice none 0 0, .slice none 0 0, .int .i64 0] 51)
      have hn := blk_new w1 (.cells #[.slice none 0 0, .slice none 0 0, .int .i64 0] 51)
      have HZ2 := lhid (show (World.alloc w1 (.cells #[.slice none 0 0, .slice none 0 0, .int .i64 0] 51)).heap.size = w1.heap.size + 1 from by simp)
      generalize hq : World.alloc w1 (.cells #[.slice none 0 0, .slice none 0 0, .int .i64 0] 51) = w2 at hb hn HZ2 ⊢
      clear hq
      have HB_10 := lhid (below_then HB_8.out HB_8.out.size hb)
      have XB_11 := lhid (blk_below XB_9.out hb)
      clear HB_8 XB_9 hb
      have RZ_12 := lhid (hn)
      clear hn
      obtain ⟨rb, hrb⟩ : ∃ q, q = xb + 1 := ⟨_, rfl⟩
      rw [show w1.heap.size = rb by rw [hrb]; have z1 := HZ1.out; have y0 := Exb.out; omega] at RZ_12
      rw [← hrb]
      have Erb := lhid hrb
      clear hrb
      have HNE := lhid (show xb = w.heap.size + 0 ∧ rb = w.heap.size + 1 ∧ w2.heap.size = w.heap.size + 2 by have z1 := HZ1.out; have z2 := HZ2.out; have y0 := Exb.out;  have y1 := Erb.out; omega)
      clear Exb Erb HZ1 HZ2
      have HRB := lhid (show w.heap.size ≤ rb by have := HNE.out; omega)
      go_wp2_with fail
      with_reducible refine (day_r _ n).mono ?_
      rintro e w' ⟨rfl, rfl⟩
      rw [hm]
      have hd : decide (n < day) = true := decide_eq_true hn
      obtain ⟨z0, z1, z2⟩ := three XB_11.out
      obtain ⟨r0, r1, r2⟩ := three RZ_12.out
      have hfz : ∀ o, w2.frozen? ⟨rb, o, none⟩ = false := fun o => blk_frozen RZ_12.out o
      go_wp2_with fail
      try any_goals (exfalso; omega)
      clear z0 z1 z2
      clear r0 r1 r2 hfz
      have hz1 := blk_put RZ_12.out 0 (.slice AG G.length cG) rfl
      have hz2 := blk_put hz1 1 (.slice AE E.length cE) rfl
      have hz3 := blk_put hz2 2 (.int .i64 day) rfl
      have hB := ((HB_10.out.setCell (p := ⟨rb, 0, none⟩) HRB.out (.slice AG G.length cG)).setCell (p := ⟨rb, 1, none⟩) HRB.out (.slice AE E.length cE)).setCell (p := ⟨rb, 2, none⟩) HRB.out (.int .i64 day)
      clear hz1 hz2
      generalize (World.setCell (World.setCell (World.setCell w2 ⟨rb, 0, none⟩ (.slice AG G.length cG)) ⟨rb, 1, none⟩ (.slice AE E.length cE)) ⟨rb, 2, none⟩ (.int .i64 day)) = w9 at hz3  hB ⊢
      refine bodyPost_ret (results_ct rfl _ _ rb 51 #[(.slice AG G.length cG), (.slice AE E.length cE), (.int .i64 day)] (0, 0) _ rfl hz3 Try.underlying51 rfl (by kernel_rfl)) rfl ?_
      exact ⟨_, rfl, bok_same HRW.out hB, hB⟩
    · have hG : nRD day n = n ∧ nextC day n = 0 := by unfold nRD nextC; rw [hm, if_neg hn]; simp [hn]
      rw [hG.1, hG.2]
      clear hG
      have hu51 := Try.underlying51
      have hu39 := Try.underlying39
      have hu44 := Try.underlying44
      go_enter Try.func71, Try.ntmps71
      have HB_13 := lhid (Below.refl w.heap.size w)
      go_upto_region 1 with (fail)
      have hb := below_alloc (Below.refl w.heap.size w) (.cells #[.slice AG G.length cG, .slice AE E.length cE, .int .i64 day] 51)
      have hn := blk_new w (.cells #[.slice AG G.length cG, .slice AE E.length cE, .int .i64 day] 51)
      have HZ1 := lhid (show (World.alloc w (.cells #[.slice AG G.length cG, .slice AE E.length cE, .int .i64 day] 51)).heap.size = w.heap.size + 1 from by simp)
      generalize hq : World.alloc w (.cells #[.slice AG G.length cG, .slice AE E.length cE, .int .i64 day] 51) = w1 at hb hn HZ1 ⊢
      clear hq
      have HB_14 := lhid (below_then HB_13.out HB_13.out.size hb)
      clear HB_13 hb
      have XB_15 := lhid (hn)
      clear hn
      obtain ⟨xb, hxb⟩ : ∃ q, q = w.heap.size := ⟨_, rfl⟩
      rw [← hxb] at XB_15 ⊢
      have Exb := lhid hxb
      clear hxb
      have hb := below_alloc (Below.refl w1.heap.size w1) (.cells #[.slice none 0 0, .slice none 0 0, .int .i64 0] 51)
      have hn := blk_new w1 (.cells #[.slice none 0 0, .slice none 0 0, .int .i64 0] 51)
      have HZ2 := lhid (show (World.alloc w1 (.cells #[.slice none 0 0, .slice none 0 0, .int .i64 0] 51)).heap.size = w1.heap.size + 1 from by simp)
      generalize hq : World.alloc w1 (.cells #[.slice none 0 0, .slice none 0 0, .int .i64 0] 51) = w2 at hb hn HZ2 ⊢
      clear hq
      have HB_16 := lhid (below_then HB_14.out HB_14.out.size hb)
      have XB_17 := lhid (blk_below XB_15.out hb)
      clear HB_14 XB_15 hb
      have RZ_18 := lhid (hn)
      clear hn
      obtain ⟨rb, hrb⟩ : ∃ q, q = xb + 1 := ⟨_, rfl⟩
      rw [show w1.heap.size = rb by rw [hrb]; have z1 := HZ1.out; have y0 := Exb.out; omega] at RZ_18
      rw [← hrb]
      have Erb := lhid hrb
      clear hrb
      have HNE := lhid (show xb = w.heap.size + 0 ∧ rb = w.heap.size + 1 ∧ w2.heap.size = w.heap.size + 2 by have z1 := HZ1.out; have z2 := HZ2.out; have y0 := Exb.out;  have y1 := Erb.out; omega)
      clear Exb Erb HZ1 HZ2
      have HRB := lhid (show w.heap.size ≤ rb by have := HNE.out; omega)
      go_wp2_with fail
      with_reducible refine (day_r _ n).mono ?_
      rintro e w' ⟨rfl, rfl⟩
      rw [hm]
      have hd : decide (n < day) = false := decide_eq_false (by omega)
      obtain ⟨z0, z1, z2⟩ := three XB_17.out
      go_wp2_with fail
      try any_goals (exfalso; omega)
      with_reducible refine (copied_r w2 AG cG G AE cE E day (HRW.out.rb HB_16.out) (by omega) HLE.out).mono ?_
      rintro e w20 ⟨A1, c1, A2, c2, rfl, hG, hE, hb⟩
      have HG0 := lhid (Kd.R_lower hG HB_16.out.size)
      have HE0 := lhid (Kd.R_lower hE HB_16.out.size)
      have HS3 := lhid (show w2.heap.size ≤ w20.heap.size from hb.size)
      clear hG hE hd
      clear z0 z1 z2
      have HB_19 := lhid (below_then HB_16.out HB_16.out.size hb)
      have XB_20 := lhid (blk_below XB_17.out hb)
      have RZ_21 := lhid (blk_below RZ_18.out hb)
      clear HB_16 XB_17 RZ_18 hb
      go_upto_region 6 with (fail)
      try any_goals (exfalso; omega)
      have HZS := lhid (show w.heap.size + 2 ≤ w20.heap.size by have h1 := HNE.out; have h2 := HS3.out; omega)
      have hb := below_alloc (Below.refl w20.heap.size w20) (.cells #[.slice A1 G.length c1, .slice A2 E.length c2, .int .i64 day] 51)
      have hn := blk_new w20 (.cells #[.slice A1 G.length c1, .slice A2 E.length c2, .int .i64 day] 51)
      have HZ21 := lhid (show (World.alloc w20 (.cells #[.slice A1 G.length c1, .slice A2 E.length c2, .int .i64 day] 51)).heap.size = w20.heap.size + 1 from by simp)
      generalize hq : World.alloc w20 (.cells #[.slice A1 G.length c1, .slice A2 E.length c2, .int .i64 day] 51) = w21 at hb hn HZ21 ⊢
      clear hq
      have HB_22 := lhid (below_then HB_19.out HB_19.out.size hb)
      have XB_23 := lhid (blk_below XB_20.out hb)
      have RZ_24 := lhid (blk_below RZ_21.out hb)
      have HG_25 := lhid (Kd.R_below HG0.out hb)
      have HE_26 := lhid (Kd.R_below HE0.out hb)
      clear HB_19 XB_20 RZ_21 HG0 HE0 hb
      have NB_27 := lhid (hn)
      clear hn
      obtain ⟨nb, hnb⟩ : ∃ q, q = w20.heap.size := ⟨_, rfl⟩
      rw [← hnb] at NB_27 ⊢
      have HNN := lhid (show rb ≠ nb ∧ w.heap.size ≤ nb by have h1 := HNE.out; have h2 := HZS.out; omega)
      clear hnb
      obtain ⟨n0, n1, n2⟩ := three NB_27.out
      have hfz : ∀ o, w21.frozen? ⟨nb, o, none⟩ = false := fun o => blk_frozen NB_27.out o
      go_upto_region 7 with (fail)
      clear n0 n1 n2 hfz
      have NB6 := lhid (blk_put NB_27.out 2 (.int .i64 n) rfl)
      have RZ6 := lhid (blk_far RZ_24.out (p := ⟨nb, 2, none⟩) HNN.out.1 (.int .i64 n))
      have HG6 := lhid (Kd.R_set HG_25.out NB_27.out (by decide) 2 (.int .i64 n))
      have HE6 := lhid (Kd.R_set HE_26.out NB_27.out (by decide) 2 (.int .i64 n))
      have HB6 := lhid (HB_22.out.setCell (p := ⟨nb, 2, none⟩) HNN.out.2 (.int .i64 n))
      generalize World.setCell w21 ⟨nb, 2, none⟩ (.int .i64 n) = w6 at NB6 RZ6 HG6 HE6 HB6 ⊢
      obtain ⟨n0, n1, n2⟩ := three NB6.out
      obtain ⟨r0, r1, r2⟩ := three RZ6.out
      have hfz : ∀ o, w6.frozen? ⟨rb, o, none⟩ = false := fun o => blk_frozen RZ6.out o
      go_wp2_with fail
      clear n0 n1 n2 r0 r1 r2 hfz
      have hz1 := blk_put RZ6.out 0 (.slice A1 G.length c1) rfl
      have hz2 := blk_put hz1 1 (.slice A2 E.length c2) rfl
      have hz3 := blk_put hz2 2 (.int .i64 n) rfl
      have hHG := Kd.R_set (Kd.R_set (Kd.R_set HG6.out RZ6.out (by decide) 0 (.slice A1 G.length c1)) hz1 (by decide) 1 (.slice A2 E.length c2)) hz2 (by decide) 2 (.int .i64 n)
      have hHE := Kd.R_set (Kd.R_set (Kd.R_set HE6.out RZ6.out (by decide) 0 (.slice A1 G.length c1)) hz1 (by decide) 1 (.slice A2 E.length c2)) hz2 (by decide) 2 (.int .i64 n)
      have hB := ((HB6.out.setCell (p := ⟨rb, 0, none⟩) HRB.out (.slice A1 G.length c1)).setCell (p := ⟨rb, 1, none⟩) HRB.out (.slice A2 E.length c2)).setCell (p := ⟨rb, 2, none⟩) HRB.out (.int .i64 n)
      clear hz1 hz2
      generalize (World.setCell (World.setCell (World.setCell w6 ⟨rb, 0, none⟩ (.slice A1 G.length c1)) ⟨rb, 1, none⟩ (.slice A2 E.length c2)) ⟨rb, 2, none⟩ (.int .i64 n)) = w9 at hz3 hHG hHE hB ⊢
      refine bodyPost_ret (results_ct rfl _ _ rb 51 #[(.slice A1 G.length c1), (.slice A2 E.length c2), (.int .i64 n)] (0, 0) _ rfl hz3 Try.underlying51 rfl (by kernel_rfl)) rfl ?_
      exact ⟨_, rfl, bok_new HPW.out hHG hHE, hB⟩
end Go.Proofs.Ytfnlghjkjmppdaa.PC
end
section
namespace Go.Proofs.Ytfnlghjkjmppdaa.PC
open Go.RowKit Go.Proofs.YtfnlghjkjmppdaaW.PrintWords Go.Proofs.YtfnlghjkjmppdaaW.PrintLast Go.Proofs.YtfnlghjkjmppdaaW.PrintMore
set_option linter.unusedVariables false
set_option linter.unusedSimpArgs false
def fitsR (l s : Int) : Bool := (l == -1) || ((s != -1) && decide (s ≤ l))
def badP (day : Int) (G : List S39) (E : List S44) (n : Nat) (by_ v r u s : Int) : Bool := ((gr G n).f3 != by_) || (!stB day G n || ((bits .and .i64 (gr G n).f5 2 == 0) || ((bits .and .i64 v (gr G n).f4 != v) || ((bits .and .i64 r (gr G n).f5 != r) || (decide (u > (gr G n).f6) || !fitsR (leftN G E n) s)))))
def pOk (day : Int) (G : List S39) (E : List S44) (n by_ h v r u s : Int) : Bool := decide (1 ≤ n ∧ n ≤ G.length) && (perB by_ && (mayB h v r u s && !badP day G E n.toNat by_ v r u s))
def pRG (day : Int) (G : List S39) (E : List S44) (n by_ h v r u s : Int) : List S39 := if pOk day G E n by_ h v r u s = true then putG G ⟨0, n, (gr G n.toNat).f2, h, v, r, u, s, false⟩ else G
def pRN (day : Int) (G : List S39) (E : List S44) (n by_ h v r u s : Int) : Int := if pOk day G E n by_ h v r u s = true then putN G else 0
def pRC (day : Int) (G : List S39) (E : List S44) (n by_ h v r u s : Int) : Int := if ¬ (1 ≤ n ∧ n ≤ G.length) then 6 else if (perB by_ && mayB h v r u s) = false then 2 else if badP day G E n.toNat by_ v r u s = true then 12 else putC G
theorem fits4 {l s : Int} : ((l == -1) = true ∧ fitsR l s = true) ∨ ((l == -1) = false ∧ (s != -1) = false ∧ fitsR l s = false) ∨ ((l == -1) = false ∧ (s != -1) = true ∧ decide (s ≤ l) = true ∧ fitsR l s = true) ∨ ((l == -1) = false ∧ (s != -1) = true ∧ decide (s ≤ l) = false ∧ fitsR l s = false) := by
  unfold fitsR
  cases l == -1 <;> cases s != -1 <;> cases decide (s ≤ l) <;> simp
set_option maxHeartbeats 12800000 in
set_option maxRecDepth 100000 in
theorem Pass_r (P : Nat → Prop) (w : World) (AG : Option Addr) (cG : Nat) (G : List S39) (AE : Option Addr) (cE : Nat) (E : List S44) (day : Int) (n by_ h_ v r u s : Int) (hS : Stay P w AG cG G AE cE E) (hP : ∀ k, P k → k < w.heap.size) (hT : Tree G) (hlE : E.length ≤ 100) (hE : EIn G E) (hU : ∀ m : Nat, 1 ≤ m → m ≤ G.length → (gr G m).f7 ≤ 1048576) : Calls Try.prog 69 #[.agg #[.slice AG G.length cG, .slice AE E.length cE, .int .i64 day], .int .i64 n, .int .i64 by_, .int .i64 h_, .int .i64 v, .int .i64 r, .int .i64 u, .int .i64 s] w fun e w' => ∃ b, e = .returned (.tuple #[b, .int .i64 (pRN day G E n by_ h_ v r u s), .int .i64 (pRC day G E n by_ h_ v r u s)]) ∧ Bok P w' (pRG day G E n by_ h_ v r u s) E day b ∧ Below w.heap.size w w' := by
  have HRW := lhid hS
  have HPW := lhid hP
  have HT := lhid hT
  have hgl := hT.1
  have HLE := lhid hlE
  clear hS hP hT hlE
  have HE := lhid hE
  have HU := lhid hU
  clear hE hU
  by_cases hr : 1 ≤ n ∧ n ≤ (G.length : Int)
  · have hrd : decide (1 ≤ n ∧ n ≤ (G.length : Int)) = true := decide_eq_true hr
    cases hp : perB by_
    · have hG : pRG day G E n by_ h_ v r u s = G ∧ pRN day G E n by_ h_ v r u s = 0 ∧ pRC day G E n by_ h_ v r u s = 2 := by unfold pRG pRN pRC pOk; simp [hp, hr]
      rw [hG.1, hG.2.1, hG.2.2]
      clear hG
      have hu51 := Try.underlying51
      have hu39 := Try.underlying39
      have hu44 := Try.underlying44
      go_enter Try.func69, Try.ntmps69
      have HB_1 := lhid (Below.refl w.heap.size w)
      go_upto_region 1 with (fail)
      have hb := below_alloc (Below.refl w.heap.size w) (.cells #[.slice AG G.length cG, .slice AE E.length cE, .int .i64 day] 51)
      have hn := blk_new w (.cells #[.slice AG G.length cG, .slice AE E.length cE, .int .i64 day] 51)
      have HZ1 := lhid (show (World.alloc w (.cells #[.slice AG G.length cG, .slice AE E.length cE, .int .i64 day] 51)).heap.size = w.heap.size + 1 from by simp)
      generalize hq : World.alloc w (.cells #[.slice AG G.length cG, .slice AE E.length cE, .int .i64 day] 51) = w1 at hb hn HZ1 ⊢
      clear hq
      have HB_2 := lhid (below_then HB_1.out HB_1.out.size hb)
      clear HB_1 hb
      have XB_3 := lhid (hn)
      clear hn
      obtain ⟨xb, hxb⟩ : ∃ q, q = w.heap.size := ⟨_, rfl⟩
      rw [← hxb] at XB_3 ⊢
      have Exb := lhid hxb
      clear hxb
      have hb := below_alloc (Below.refl w1.heap.size w1) (.cells #[.slice none 0 0, .slice none 0 0, .int .i64 0] 51)
      have hn := blk_new w1 (.cells #[.slice none 0 0, .slice none 0 0, .int .i64 0] 51)
      have HZ2 := lhid (show (World.alloc w1 (.cells #[.slice none 0 0, .slice none 0 0, .int .i64 0] 51)).heap.size = w1.heap.size + 1 from by simp)
      generalize hq : World.alloc w1 (.cells #[.slice none 0 0, .slice none 0 0, .int .i64 0] 51) = w2 at hb hn HZ2 ⊢
      clear hq
      have HB_4 := lhid (below_then HB_2.out HB_2.out.size hb)
      have XB_5 := lhid (blk_below XB_3.out hb)
      clear HB_2 XB_3 hb
      have RZ_6 := lhid (hn)
      clear hn
      obtain ⟨rb, hrb⟩ : ∃ q, q = xb + 1 := ⟨_, rfl⟩
      rw [show w1.heap.size = rb by rw [hrb]; have z1 := HZ1.out; have y0 := Exb.out; omega] at RZ_6
      rw [← hrb]
      have Erb := lhid hrb
      clear hrb
      have HNE := lhid (show xb = w.heap.size + 0 ∧ rb = w.heap.size + 1 ∧ w2.heap.size = w.heap.size + 2 by have z1 := HZ1.out; have z2 := HZ2.out; have y0 := Exb.out;  have y1 := Erb.out; omega)
      clear Exb Erb HZ1 HZ2
      have HRB := lhid (show w.heap.size ≤ rb by have := HNE.out; omega)
      have HW3 := lhid (show w2.heap.size = w.heap.size + 2 from HNE.out.2.2)
      obtain ⟨z0, z1, z2⟩ := three XB_5.out
      go_wp2_with fail
      have hq := has_r w2 AG cG G AE cE E day n (HRW.out.rb HB_4.out) HT.out
      rw [hasB_yes hr] at hq
      have HQ := lhid hq
      clear hq
      with_reducible refine HQ.out.mono ?_
      rintro e w5 ⟨rfl, hb⟩
      clear HQ
      clear z0 z1 z2
      have HB_7 := lhid (below_then HB_4.out HB_4.out.size hb)
      have XB_8 := lhid (blk_below XB_5.out hb)
      have RZ_9 := lhid (blk_below RZ_6.out hb)
      clear HB_4 XB_5 RZ_6 hb
      go_wp2_with fail
      with_reducible refine (person_r _ by_).mono ?_
      rintro e w' ⟨rfl, rfl⟩
      rw [hp]
      obtain ⟨z0, z1, z2⟩ := three XB_8.out
      obtain ⟨r0, r1, r2⟩ := three RZ_9.out
      have hfz : ∀ o, w5.frozen? ⟨rb, o, none⟩ = false := fun o => blk_frozen RZ_9.out o
      go_wp2_with fail
      try any_goals (exfalso; omega)
      clear z0 z1 z2
      clear r0 r1 r2 hfz
      have hz1 := blk_put RZ_9.out 0 (.slice AG G.length cG) rfl
      have hz2 := blk_put hz1 1 (.slice AE E.length cE) rfl
      have hz3 := blk_put hz2 2 (.int .i64 day) rfl
      have hB := ((HB_7.out.setCell (p := ⟨rb, 0, none⟩) HRB.out (.slice AG G.length cG)).setCell (p := ⟨rb, 1, none⟩) HRB.out (.slice AE E.length cE)).setCell (p := ⟨rb, 2, none⟩) HRB.out (.int .i64 day)
      clear hz1 hz2
      generalize (World.setCell (World.setCell (World.setCell w5 ⟨rb, 0, none⟩ (.slice AG G.length cG)) ⟨rb, 1, none⟩ (.slice AE E.length cE)) ⟨rb, 2, none⟩ (.int .i64 day)) = w9 at hz3  hB ⊢
      refine bodyPost_ret (results_ctt rfl _ _ rb 51 #[(.slice AG G.length cG), (.slice AE E.length cE), (.int .i64 day)] (0, 0) _ rfl hz3 Try.underlying51 rfl (by kernel_rfl)) rfl ?_
      exact ⟨_, rfl, bok_same HRW.out hB, hB⟩
    · cases hm : mayB h_ v r u s
      · have hG : pRG day G E n by_ h_ v r u s = G ∧ pRN day G E n by_ h_ v r u s = 0 ∧ pRC day G E n by_ h_ v r u s = 2 := by unfold pRG pRN pRC pOk; simp [hp, hm, hr]
        rw [hG.1, hG.2.1, hG.2.2]
        clear hG
        have hu51 := Try.underlying51
        have hu39 := Try.underlying39
        have hu44 := Try.underlying44
        go_enter Try.func69, Try.ntmps69
        have HB_10 := lhid (Below.refl w.heap.size w)
        go_upto_region 1 with (fail)
        have hb := below_alloc (Below.refl w.heap.size w) (.cells #[.slice AG G.length cG, .slice AE E.length cE, .int .i64 day] 51)
        have hn := blk_new w (.cells #[.slice AG G.length cG, .slice AE E.length cE, .int .i64 day] 51)
        have HZ1 := lhid (show (World.alloc w (.cells #[.slice AG G.length cG, .slice AE E.length cE, .int .i64 day] 51)).heap.size = w.heap.size + 1 from by simp)
        generalize hq : World.alloc w (.cells #[.slice AG G.length cG, .slice AE E.length cE, .int .i64 day] 51) = w1 at hb hn HZ1 ⊢
        clear hq
        have HB_11 := lhid (below_then HB_10.out HB_10.out.size hb)
        clear HB_10 hb
        have XB_12 := lhid (hn)
        clear hn
        obtain ⟨xb, hxb⟩ : ∃ q, q = w.heap.size := ⟨_, rfl⟩
        rw [← hxb] at XB_12 ⊢
        have Exb := lhid hxb
        clear hxb
        have hb := below_alloc (Below.refl w1.heap.size w1) (.cells #[.slice none 0 0, .slice none 0 0, .int .i64 0] 51)
        have hn := blk_new w1 (.cells #[.slice none 0 0, .slice none 0 0, .int .i64 0] 51)
        have HZ2 := lhid (show (World.alloc w1 (.cells #[.slice none 0 0, .slice none 0 0, .int .i64 0] 51)).heap.size = w1.heap.size + 1 from by simp)
        generalize hq : World.alloc w1 (.cells #[.slice none 0 0, .slice none 0 0, .int .i64 0] 51) = w2 at hb hn HZ2 ⊢
        clear hq
        have HB_13 := lhid (below_then HB_11.out HB_11.out.size hb)
        have XB_14 := lhid (blk_below XB_12.out hb)
        clear HB_11 XB_12 hb
        have RZ_15 := lhid (hn)
        clear hn
        obtain ⟨rb, hrb⟩ : ∃ q, q = xb + 1 := ⟨_, rfl⟩
        rw [show w1.heap.size = rb by rw [hrb]; have z1 := HZ1.out; have y0 := Exb.out; omega] at RZ_15
        rw [← hrb]
        have Erb := lhid hrb
        clear hrb
        have HNE := lhid (show xb = w.heap.size + 0 ∧ rb = w.heap.size + 1 ∧ w2.heap.size = w.heap.size + 2 by have z1 := HZ1.out; have z2 := HZ2.out; have y0 := Exb.out;  have y1 := Erb.out; omega)
        clear Exb Erb HZ1 HZ2
        have HRB := lhid (show w.heap.size ≤ rb by have := HNE.out; omega)
        have HW3 := lhid (show w2.heap.size = w.heap.size + 2 from HNE.out.2.2)
        obtain ⟨z0, z1, z2⟩ := three XB_14.out
        go_wp2_with fail
        have hq := has_r w2 AG cG G AE cE E day n (HRW.out.rb HB_13.out) HT.out
        rw [hasB_yes hr] at hq
        have HQ := lhid hq
        clear hq
        with_reducible refine HQ.out.mono ?_
        rintro e w5 ⟨rfl, hb⟩
        clear HQ
        clear z0 z1 z2
        have HB_16 := lhid (below_then HB_13.out HB_13.out.size hb)
        have XB_17 := lhid (blk_below XB_14.out hb)
        have RZ_18 := lhid (blk_below RZ_15.out hb)
        clear HB_13 XB_14 RZ_15 hb
        go_wp2_with fail
        with_reducible refine (person_r _ by_).mono ?_
        rintro e w' ⟨rfl, rfl⟩
        rw [hp]
        go_wp2_with fail
        with_reducible refine (wide_r _ h_ v r u s).mono ?_
        rintro e w' ⟨rfl, rfl⟩
        rw [hm]
        obtain ⟨z0, z1, z2⟩ := three XB_17.out
        obtain ⟨r0, r1, r2⟩ := three RZ_18.out
        have hfz : ∀ o, w5.frozen? ⟨rb, o, none⟩ = false := fun o => blk_frozen RZ_18.out o
        go_wp2_with fail
        try any_goals (exfalso; omega)
        clear z0 z1 z2
        clear r0 r1 r2 hfz
        have hz1 := blk_put RZ_18.out 0 (.slice AG G.length cG) rfl
        have hz2 := blk_put hz1 1 (.slice AE E.length cE) rfl
        have hz3 := blk_put hz2 2 (.int .i64 day) rfl
        have hB := ((HB_16.out.setCell (p := ⟨rb, 0, none⟩) HRB.out (.slice AG G.length cG)).setCell (p := ⟨rb, 1, none⟩) HRB.out (.slice AE E.length cE)).setCell (p := ⟨rb, 2, none⟩) HRB.out (.int .i64 day)
        clear hz1 hz2
        generalize (World.setCell (World.setCell (World.setCell w5 ⟨rb, 0, none⟩ (.slice AG G.length cG)) ⟨rb, 1, none⟩ (.slice AE E.length cE)) ⟨rb, 2, none⟩ (.int .i64 day)) = w9 at hz3  hB ⊢
        refine bodyPost_ret (results_ctt rfl _ _ rb 51 #[(.slice AG G.length cG), (.slice AE E.length cE), (.int .i64 day)] (0, 0) _ rfl hz3 Try.underlying51 rfl (by kernel_rfl)) rfl ?_
        exact ⟨_, rfl, bok_same HRW.out hB, hB⟩
      · cases hb9 : badP day G E n.toNat by_ v r u s
        · have hG : pRG day G E n by_ h_ v r u s = putG G ⟨0, n, (gr G n.toNat).f2, h_, v, r, u, s, false⟩ ∧ pRN day G E n by_ h_ v r u s = putN G ∧ pRC day G E n by_ h_ v r u s = putC G := by unfold pRG pRN pRC pOk; simp [hp, hm, hr, hb9]
          rw [hG.1, hG.2.1, hG.2.2]
          clear hG
          have hu51 := Try.underlying51
          have hu39 := Try.underlying39
          have hu44 := Try.underlying44
          go_enter Try.func69, Try.ntmps69
          have HB_19 := lhid (Below.refl w.heap.size w)
          go_upto_region 1 with (fail)
          have hb := below_alloc (Below.refl w.heap.size w) (.cells #[.slice AG G.length cG, .slice AE E.length cE, .int .i64 day] 51)
          have hn := blk_new w (.cells #[.slice AG G.length cG, .slice AE E.length cE, .int .i64 day] 51)
          have HZ1 := lhid (show (World.alloc w (.cells #[.slice AG G.length cG, .slice AE E.length cE, .int .i64 day] 51)).heap.size = w.heap.size + 1 from by simp)
          generalize hq : World.alloc w (.cells #[.slice AG G.length cG, .slice AE E.length cE, .int .i64 day] 51) = w1 at hb hn HZ1 ⊢
          clear hq
          have HB_20 := lhid (below_then HB_19.out HB_19.out.size hb)
          clear HB_19 hb
          have XB_21 := lhid (hn)
          clear hn
          obtain ⟨xb, hxb⟩ : ∃ q, q = w.heap.size := ⟨_, rfl⟩
          rw [← hxb] at XB_21 ⊢
          have Exb := lhid hxb
          clear hxb
          have hb := below_alloc (Below.refl w1.heap.size w1) (.cells #[.slice none 0 0, .slice none 0 0, .int .i64 0] 51)
          have hn := blk_new w1 (.cells #[.slice none 0 0, .slice none 0 0, .int .i64 0] 51)
          have HZ2 := lhid (show (World.alloc w1 (.cells #[.slice none 0 0, .slice none 0 0, .int .i64 0] 51)).heap.size = w1.heap.size + 1 from by simp)
          generalize hq : World.alloc w1 (.cells #[.slice none 0 0, .slice none 0 0, .int .i64 0] 51) = w2 at hb hn HZ2 ⊢
          clear hq
          have HB_22 := lhid (below_then HB_20.out HB_20.out.size hb)
          have XB_23 := lhid (blk_below XB_21.out hb)
          clear HB_20 XB_21 hb
          have RZ_24 := lhid (hn)
          clear hn
          obtain ⟨rb, hrb⟩ : ∃ q, q = xb + 1 := ⟨_, rfl⟩
          rw [show w1.heap.size = rb by rw [hrb]; have z1 := HZ1.out; have y0 := Exb.out; omega] at RZ_24
          rw [← hrb]
          have Erb := lhid hrb
          clear hrb
          have HNE := lhid (show xb = w.heap.size + 0 ∧ rb = w.heap.size + 1 ∧ w2.heap.size = w.heap.size + 2 by have z1 := HZ1.out; have z2 := HZ2.out; have y0 := Exb.out;  have y1 := Erb.out; omega)
          clear Exb Erb HZ1 HZ2
          have HRB := lhid (show w.heap.size ≤ rb by have := HNE.out; omega)
          have HW3 := lhid (show w2.heap.size = w.heap.size + 2 from HNE.out.2.2)
          obtain ⟨z0, z1, z2⟩ := three XB_23.out
          go_wp2_with fail
          have hq := has_r w2 AG cG G AE cE E day n (HRW.out.rb HB_22.out) HT.out
          rw [hasB_yes hr] at hq
          have HQ := lhid hq
          clear hq
          with_reducible refine HQ.out.mono ?_
          rintro e w5 ⟨rfl, hb⟩
          clear HQ
          clear z0 z1 z2
          have HB_25 := lhid (below_then HB_22.out HB_22.out.size hb)
          have XB_26 := lhid (blk_below XB_23.out hb)
          have RZ_27 := lhid (blk_below RZ_24.out hb)
          clear HB_22 XB_23 RZ_24 hb
          go_wp2_with fail
          with_reducible refine (person_r _ by_).mono ?_
          rintro e w' ⟨rfl, rfl⟩
          rw [hp]
          go_wp2_with fail
          with_reducible refine (wide_r _ h_ v r u s).mono ?_
          rintro e w' ⟨rfl, rfl⟩
          rw [hm]
          clear hp hm hrd
          obtain ⟨q, hq⟩ : ∃ q : Nat, n = (q : Int) + 1 := ⟨n.toNat - 1, by omega⟩
          subst hq
          obtain ⟨r1, r2⟩ := hr
          have hq1 : (0 : Int) ≤ (q : Int) := by omega
          have hq2 : (q : Int) < (G.length : Int) := by omega
          rw [show ((q : Int) + 1).toNat = q + 1 by omega] at hb9
          obtain ⟨ad, eA, x0, x1, x2, x3, x4, x5, x6, x7, x8⟩ := at_T39 ((HRW.out.rb HB_25.out)).c (q : Int) (by omega) (by omega)
          subst eA
          simp only [rd_gr, Int.toNat_natCast] at x0 x1 x2 x3 x4 x5 x6 x7 x8
          obtain ⟨x, hx⟩ : ∃ x, x = gr G (q + 1) := ⟨_, rfl⟩
          rw [← hx] at x0 x1 x2 x3 x4 x5 x6 x7 x8
          have HX := lhid hx
          clear hx
          obtain ⟨z0, z1, z2⟩ := three XB_26.out
          go_upto_region 6 with (fail)
          try any_goals (exfalso; omega)
          clear z0 z1 z2
          clear x0 x1 x2 x3 x4 x5 x6 x7 x8
          have hb := below_alloc (Below.refl w5.heap.size w5) (.cells #[.int .i64 x.f0, .int .i64 x.f1, .int .i64 x.f2, .int .i64 x.f3, .int .i64 x.f4, .int .i64 x.f5, .int .i64 x.f6, .int .i64 x.f7, .bool x.f8] 39)
          have hn := blk_new w5 (.cells #[.int .i64 x.f0, .int .i64 x.f1, .int .i64 x.f2, .int .i64 x.f3, .int .i64 x.f4, .int .i64 x.f5, .int .i64 x.f6, .int .i64 x.f7, .bool x.f8] 39)
          have HZ3 := lhid (show (World.alloc w5 (.cells #[.int .i64 x.f0, .int .i64 x.f1, .int .i64 x.f2, .int .i64 x.f3, .int .i64 x.f4, .int .i64 x.f5, .int .i64 x.f6, .int .i64 x.f7, .bool x.f8] 39)).heap.size = w5.heap.size + 1 from by simp)
          generalize hq : World.alloc w5 (.cells #[.int .i64 x.f0, .int .i64 x.f1, .int .i64 x.f2, .int .i64 x.f3, .int .i64 x.f4, .int .i64 x.f5, .int .i64 x.f6, .int .i64 x.f7, .bool x.f8] 39) = w3 at hb hn HZ3 ⊢
          clear hq
          have HB_28 := lhid (below_then HB_25.out HB_25.out.size hb)
          have XB_29 := lhid (blk_below XB_26.out hb)
          have RZ_30 := lhid (blk_below RZ_27.out hb)
          clear HB_25 XB_26 RZ_27 hb
          have NB_31 := lhid (hn)
          clear hn
          obtain ⟨nb, hnb⟩ : ∃ z, z = w5.heap.size := ⟨_, rfl⟩
          rw [← hnb] at NB_31 ⊢
          have HNB := lhid hnb
          have HNS := lhid (show w3.heap.size = nb + 1 by have := HZ3.out; omega)
          clear hnb
          obtain ⟨z0, z1, z2⟩ := three XB_29.out
          go_wp2_with fail
          try any_goals (exfalso; omega)
          have hq := left_r w3 (some ad) cG G AE cE E day ((q : Int) + 1) (HRW.out.rb HB_28.out) HT.out HE.out HLE.out (by omega) (by omega) (HU.out _ (by omega) (by omega))
          rw [show ((q : Int) + 1).toNat = q + 1 by omega] at hq
          obtain ⟨l, hl⟩ : ∃ l, l = leftN G E (q + 1) := ⟨_, rfl⟩
          rw [← hl] at hq
          have HQ := lhid hq
          clear hq
          with_reducible refine HQ.out.mono ?_
          rintro e w6 ⟨rfl, hb⟩
          clear HQ
          clear z0 z1 z2
          have HB_32 := lhid (below_then HB_28.out HB_28.out.size hb)
          have XB_33 := lhid (blk_below XB_29.out hb)
          have RZ_34 := lhid (blk_below RZ_30.out hb)
          have NB_35 := lhid (blk_below NB_31.out hb)
          clear HB_28 XB_29 RZ_30 NB_31 hb
          unfold badP at hb9
          rw [← HX.out, ← hl] at hb9
          have HL := lhid hl
          clear hl
          simp only [Bool.or_eq_false_iff, Bool.not_eq_false'] at hb9
          obtain ⟨b1, b2, b3, b4, b5, b6, b7⟩ := hb9
          obtain ⟨f, hf⟩ : ∃ f, f = x.f2 := ⟨_, rfl⟩
          have HF2 := lhid hf
          clear hf
          rcases fits4 (l := l) (s := s) with ⟨d1, d2⟩ | ⟨d1, d2, d3⟩ | ⟨d1, d2, d3, d4⟩ | ⟨d1, d2, d3, d4⟩
          rotate_left
          · rw [b7] at d3; cases d3
          rotate_left
          · rw [b7] at d4; cases d4
          all_goals (
            obtain ⟨y0, y1, y2, y3, y4, y5, y6, y7, y8⟩ := nine NB_35.out
            obtain ⟨z0, z1, z2⟩ := three XB_33.out
            go_wp2_with fail
            try any_goals (exfalso; omega)
            have hq := stands_r w6 (some ad) cG G AE cE E day ((q : Int) + 1) (HRW.out.rb HB_32.out) HT.out (by omega) (by omega)
            rw [show ((q : Int) + 1).toNat = q + 1 by omega] at hq
            have HQ := lhid hq
            clear hq
            with_reducible refine HQ.out.mono ?_
            rintro e w7 ⟨rfl, hb⟩
            clear HQ
            clear z0 z1 z2
            clear y0 y1 y2 y3 y4 y5 y6 y7 y8
            have HB_36 := lhid (below_then HB_32.out HB_32.out.size hb)
            have XB_37 := lhid (blk_below XB_33.out hb)
            have RZ_38 := lhid (blk_below RZ_34.out hb)
            have NB_39 := lhid (blk_below NB_35.out hb)
            clear HB_32 XB_33 RZ_34 NB_35 hb
            rw [b2]
            obtain ⟨y0, y1, y2, y3, y4, y5, y6, y7, y8⟩ := nine NB_39.out
            obtain ⟨z0, z1, z2⟩ := three XB_37.out
            go_wp2_with fail
            try any_goals (exfalso; omega)
            try any_goals (exfalso; contradiction)
            have HIN := lhid (show P rb ∨ (w.heap.size ≤ rb ∧ rb < w7.heap.size) from Or.inr ⟨by have h1 := HNE.out; omega, blk_lt RZ_38.out⟩)
            have HS3 := lhid (show w.heap.size ≤ w7.heap.size from HB_36.out.size)
            with_reducible refine (put_r (fun k => P k ∨ (w.heap.size ≤ k ∧ k < w7.heap.size)) w7 (some ad) cG G AE cE E day ⟨0, (q : Int) + 1, x.f2, h_, v, r, u, s, false⟩ (stay_box HRW.out HB_36.out) (stay_lt HPW.out HB_36.out.size) HT.out HLE.out).mono ?_
            rintro e w20 ⟨vb, rfl, ⟨A1, c1, A2, c2, rfl, hR⟩, hb⟩
            have HRK := lhid hR
            clear hR
            clear z0 z1 z2
            clear y0 y1 y2 y3 y4 y5 y6 y7 y8
            have HB_40 := lhid (below_then HB_36.out HB_36.out.size hb)
            have XB_41 := lhid (blk_below XB_37.out hb)
            have RZ_42 := lhid (blk_below RZ_38.out hb)
            have NB_43 := lhid (blk_below NB_39.out hb)
            clear HB_36 XB_37 RZ_38 NB_39 hb
            obtain ⟨G2, hG2⟩ : ∃ q2, q2 = putG G ⟨0, (q : Int) + 1, x.f2, h_, v, r, u, s, false⟩ := ⟨_, rfl⟩
            rw [← hG2] at HRK ⊢
            have HG2 := lhid hG2
            clear hG2
            obtain ⟨r0, r1, r2⟩ := three RZ_42.out
            have hfz : ∀ o, w20.frozen? ⟨rb, o, none⟩ = false := fun o => blk_frozen RZ_42.out o
            go_wp2_with fail
            try any_goals (exfalso; omega)
            clear r0 r1 r2 hfz
            have hz1 := blk_put RZ_42.out 0 (.slice A1 G2.length c1) rfl
            have hz2 := blk_put hz1 1 (.slice A2 E.length c2) rfl
            have hz3 := blk_put hz2 2 (.int .i64 day) rfl
            have hB := ((HB_40.out.setCell (p := ⟨rb, 0, none⟩) HRB.out (.slice A1 G2.length c1)).setCell (p := ⟨rb, 1, none⟩) HRB.out (.slice A2 E.length c2)).setCell (p := ⟨rb, 2, none⟩) HRB.out (.int .i64 day)
            clear hz1 hz2
            have hC := (((Chg.refl (fun k => P k ∨ (w.heap.size ≤ k ∧ k < w7.heap.size)) w20).set (p := ⟨rb, 0, none⟩) (Or.inr HIN.out) (.slice A1 G2.length c1)).set (p := ⟨rb, 1, none⟩) (Or.inr HIN.out) (.slice A2 E.length c2)).set (p := ⟨rb, 2, none⟩) (Or.inr HIN.out) (.int .i64 day)
            generalize (World.setCell (World.setCell (World.setCell w20 ⟨rb, 0, none⟩ (.slice A1 G2.length c1)) ⟨rb, 1, none⟩ (.slice A2 E.length c2)) ⟨rb, 2, none⟩ (.int .i64 day)) = w9 at hz3  hB hC ⊢
            refine bodyPost_ret (results_ctt rfl _ _ rb 51 #[(.slice A1 G2.length c1), (.slice A2 E.length c2), (.int .i64 day)] (0, 0) _ rfl hz3 Try.underlying51 rfl (by kernel_rfl)) rfl ?_
            exact ⟨_, rfl, by rw [show ((q : Int) + 1).toNat = q + 1 by omega, ← HX.out, ← HG2.out]; exact bok_thru HRK.out hC (fun k z => Or.inl z), hB⟩)
        · have hG : pRG day G E n by_ h_ v r u s = G ∧ pRN day G E n by_ h_ v r u s = 0 ∧ pRC day G E n by_ h_ v r u s = 12 := by unfold pRG pRN pRC pOk; simp [hp, hm, hr, hb9]
          rw [hG.1, hG.2.1, hG.2.2]
          clear hG
          have hu51 := Try.underlying51
          have hu39 := Try.underlying39
          have hu44 := Try.underlying44
          go_enter Try.func69, Try.ntmps69
          have HB_44 := lhid (Below.refl w.heap.size w)
          go_upto_region 1 with (fail)
          have hb := below_alloc (Below.refl w.heap.size w) (.cells #[.slice AG G.length cG, .slice AE E.length cE, .int .i64 day] 51)
          have hn := blk_new w (.cells #[.slice AG G.length cG, .slice AE E.length cE, .int .i64 day] 51)
          have HZ1 := lhid (show (World.alloc w (.cells #[.slice AG G.length cG, .slice AE E.length cE, .int .i64 day] 51)).heap.size = w.heap.size + 1 from by simp)
          generalize hq : World.alloc w (.cells #[.slice AG G.length cG, .slice AE E.length cE, .int .i64 day] 51) = w1 at hb hn HZ1 ⊢
          clear hq
          have HB_45 := lhid (below_then HB_44.out HB_44.out.size hb)
          clear HB_44 hb
          have XB_46 := lhid (hn)
          clear hn
          obtain ⟨xb, hxb⟩ : ∃ q, q = w.heap.size := ⟨_, rfl⟩
          rw [← hxb] at XB_46 ⊢
          have Exb := lhid hxb
          clear hxb
          have hb := below_alloc (Below.refl w1.heap.size w1) (.cells #[.slice none 0 0, .slice none 0 0, .int .i64 0] 51)
          have hn := blk_new w1 (.cells #[.slice none 0 0, .slice none 0 0, .int .i64 0] 51)
          have HZ2 := lhid (show (World.alloc w1 (.cells #[.slice none 0 0, .slice none 0 0, .int .i64 0] 51)).heap.size = w1.heap.size + 1 from by simp)
          generalize hq : World.alloc w1 (.cells #[.slice none 0 0, .slice none 0 0, .int .i64 0] 51) = w2 at hb hn HZ2 ⊢
          clear hq
          have HB_47 := lhid (below_then HB_45.out HB_45.out.size hb)
          have XB_48 := lhid (blk_below XB_46.out hb)
          clear HB_45 XB_46 hb
          have RZ_49 := lhid (hn)
          clear hn
          obtain ⟨rb, hrb⟩ : ∃ q, q = xb + 1 := ⟨_, rfl⟩
          rw [show w1.heap.size = rb by rw [hrb]; have z1 := HZ1.out; have y0 := Exb.out; omega] at RZ_49
          rw [← hrb]
          have Erb := lhid hrb
          clear hrb
          have HNE := lhid (show xb = w.heap.size + 0 ∧ rb = w.heap.size + 1 ∧ w2.heap.size = w.heap.size + 2 by have z1 := HZ1.out; have z2 := HZ2.out; have y0 := Exb.out;  have y1 := Erb.out; omega)
          clear Exb Erb HZ1 HZ2
          have HRB := lhid (show w.heap.size ≤ rb by have := HNE.out; omega)
          have HW3 := lhid (show w2.heap.size = w.heap.size + 2 from HNE.out.2.2)
          obtain ⟨z0, z1, z2⟩ := three XB_48.out
          go_wp2_with fail
          have hq := has_r w2 AG cG G AE cE E day n (HRW.out.rb HB_47.out) HT.out
          rw [hasB_yes hr] at hq
          have HQ := lhid hq
          clear hq
          with_reducible refine HQ.out.mono ?_
          rintro e w5 ⟨rfl, hb⟩
          clear HQ
          clear z0 z1 z2
          have HB_50 := lhid (below_then HB_47.out HB_47.out.size hb)
          have XB_51 := lhid (blk_below XB_48.out hb)
          have RZ_52 := lhid (blk_below RZ_49.out hb)
          clear HB_47 XB_48 RZ_49 hb
          go_wp2_with fail
          with_reducible refine (person_r _ by_).mono ?_
          rintro e w' ⟨rfl, rfl⟩
          rw [hp]
          go_wp2_with fail
          with_reducible refine (wide_r _ h_ v r u s).mono ?_
          rintro e w' ⟨rfl, rfl⟩
          rw [hm]
          clear hp hm hrd
          obtain ⟨q, hq⟩ : ∃ q : Nat, n = (q : Int) + 1 := ⟨n.toNat - 1, by omega⟩
          subst hq
          obtain ⟨r1, r2⟩ := hr
          have hq1 : (0 : Int) ≤ (q : Int) := by omega
          have hq2 : (q : Int) < (G.length : Int) := by omega
          rw [show ((q : Int) + 1).toNat = q + 1 by omega] at hb9
          obtain ⟨ad, eA, x0, x1, x2, x3, x4, x5, x6, x7, x8⟩ := at_T39 ((HRW.out.rb HB_50.out)).c (q : Int) (by omega) (by omega)
          subst eA
          simp only [rd_gr, Int.toNat_natCast] at x0 x1 x2 x3 x4 x5 x6 x7 x8
          obtain ⟨x, hx⟩ : ∃ x, x = gr G (q + 1) := ⟨_, rfl⟩
          rw [← hx] at x0 x1 x2 x3 x4 x5 x6 x7 x8
          have HX := lhid hx
          clear hx
          obtain ⟨z0, z1, z2⟩ := three XB_51.out
          go_upto_region 6 with (fail)
          try any_goals (exfalso; omega)
          clear z0 z1 z2
          clear x0 x1 x2 x3 x4 x5 x6 x7 x8
          have hb := below_alloc (Below.refl w5.heap.size w5) (.cells #[.int .i64 x.f0, .int .i64 x.f1, .int .i64 x.f2, .int .i64 x.f3, .int .i64 x.f4, .int .i64 x.f5, .int .i64 x.f6, .int .i64 x.f7, .bool x.f8] 39)
          have hn := blk_new w5 (.cells #[.int .i64 x.f0, .int .i64 x.f1, .int .i64 x.f2, .int .i64 x.f3, .int .i64 x.f4, .int .i64 x.f5, .int .i64 x.f6, .int .i64 x.f7, .bool x.f8] 39)
          have HZ3 := lhid (show (World.alloc w5 (.cells #[.int .i64 x.f0, .int .i64 x.f1, .int .i64 x.f2, .int .i64 x.f3, .int .i64 x.f4, .int .i64 x.f5, .int .i64 x.f6, .int .i64 x.f7, .bool x.f8] 39)).heap.size = w5.heap.size + 1 from by simp)
          generalize hq : World.alloc w5 (.cells #[.int .i64 x.f0, .int .i64 x.f1, .int .i64 x.f2, .int .i64 x.f3, .int .i64 x.f4, .int .i64 x.f5, .int .i64 x.f6, .int .i64 x.f7, .bool x.f8] 39) = w3 at hb hn HZ3 ⊢
          clear hq
          have HB_53 := lhid (below_then HB_50.out HB_50.out.size hb)
          have XB_54 := lhid (blk_below XB_51.out hb)
          have RZ_55 := lhid (blk_below RZ_52.out hb)
          clear HB_50 XB_51 RZ_52 hb
          have NB_56 := lhid (hn)
          clear hn
          obtain ⟨nb, hnb⟩ : ∃ z, z = w5.heap.size := ⟨_, rfl⟩
          rw [← hnb] at NB_56 ⊢
          have HNB := lhid hnb
          have HNS := lhid (show w3.heap.size = nb + 1 by have := HZ3.out; omega)
          clear hnb
          obtain ⟨z0, z1, z2⟩ := three XB_54.out
          go_wp2_with fail
          try any_goals (exfalso; omega)
          have hq := left_r w3 (some ad) cG G AE cE E day ((q : Int) + 1) (HRW.out.rb HB_53.out) HT.out HE.out HLE.out (by omega) (by omega) (HU.out _ (by omega) (by omega))
          rw [show ((q : Int) + 1).toNat = q + 1 by omega] at hq
          obtain ⟨l, hl⟩ : ∃ l, l = leftN G E (q + 1) := ⟨_, rfl⟩
          rw [← hl] at hq
          have HQ := lhid hq
          clear hq
          with_reducible refine HQ.out.mono ?_
          rintro e w6 ⟨rfl, hb⟩
          clear HQ
          clear z0 z1 z2
          have HB_57 := lhid (below_then HB_53.out HB_53.out.size hb)
          have XB_58 := lhid (blk_below XB_54.out hb)
          have RZ_59 := lhid (blk_below RZ_55.out hb)
          have NB_60 := lhid (blk_below NB_56.out hb)
          clear HB_53 XB_54 RZ_55 NB_56 hb
          unfold badP at hb9
          rw [← HX.out, ← hl] at hb9
          have HL := lhid hl
          clear hl
          rcases fits4 (l := l) (s := s) with ⟨d1, d2⟩ | ⟨d1, d2, d3⟩ | ⟨d1, d2, d3, d4⟩ | ⟨d1, d2, d3, d4⟩
          all_goals (
            have hft := (by assumption : fitsR l s = _)
            rw [hft] at hb9
            cases b1 : (x.f3 != by_)
            · obtain ⟨y0, y1, y2, y3, y4, y5, y6, y7, y8⟩ := nine NB_60.out
              obtain ⟨z0, z1, z2⟩ := three XB_58.out
              go_wp2_with fail
              try any_goals (exfalso; omega)
              have hq := stands_r w6 (some ad) cG G AE cE E day ((q : Int) + 1) (HRW.out.rb HB_57.out) HT.out (by omega) (by omega)
              rw [show ((q : Int) + 1).toNat = q + 1 by omega] at hq
              have HQ := lhid hq
              clear hq
              with_reducible refine HQ.out.mono ?_
              rintro e w7 ⟨rfl, hb⟩
              clear HQ
              clear z0 z1 z2
              clear y0 y1 y2 y3 y4 y5 y6 y7 y8
              have HB_61 := lhid (below_then HB_57.out HB_57.out.size hb)
              have XB_62 := lhid (blk_below XB_58.out hb)
              have RZ_63 := lhid (blk_below RZ_59.out hb)
              have NB_64 := lhid (blk_below NB_60.out hb)
              clear HB_57 XB_58 RZ_59 NB_60 hb
              cases b2 : stB day G (q + 1)
              · obtain ⟨y0, y1, y2, y3, y4, y5, y6, y7, y8⟩ := nine NB_64.out
                obtain ⟨z0, z1, z2⟩ := three XB_62.out
                obtain ⟨r0, r1, r2⟩ := three RZ_63.out
                have hfz : ∀ o, w7.frozen? ⟨rb, o, none⟩ = false := fun o => blk_frozen RZ_63.out o
                go_wp2_with fail
                try any_goals (exfalso; omega)
                try any_goals (exfalso; contradiction)
                clear z0 z1 z2
                clear y0 y1 y2 y3 y4 y5 y6 y7 y8
                clear r0 r1 r2 hfz
                have hz1 := blk_put RZ_63.out 0 (.slice (some ad) G.length cG) rfl
                have hz2 := blk_put hz1 1 (.slice AE E.length cE) rfl
                have hz3 := blk_put hz2 2 (.int .i64 day) rfl
                have hB := ((HB_61.out.setCell (p := ⟨rb, 0, none⟩) HRB.out (.slice (some ad) G.length cG)).setCell (p := ⟨rb, 1, none⟩) HRB.out (.slice AE E.length cE)).setCell (p := ⟨rb, 2, none⟩) HRB.out (.int .i64 day)
                clear hz1 hz2
                generalize (World.setCell (World.setCell (World.setCell w7 ⟨rb, 0, none⟩ (.slice (some ad) G.length cG)) ⟨rb, 1, none⟩ (.slice AE E.length cE)) ⟨rb, 2, none⟩ (.int .i64 day)) = w9 at hz3  hB ⊢
                refine bodyPost_ret (results_ctt rfl _ _ rb 51 #[(.slice (some ad) G.length cG), (.slice AE E.length cE), (.int .i64 day)] (0, 0) _ rfl hz3 Try.underlying51 rfl (by kernel_rfl)) rfl ?_
                exact ⟨_, rfl, bok_same HRW.out hB, hB⟩
              · rw [b1, b2] at hb9
                cases b3 : (bits .and .i64 x.f5 2 == 0) <;> cases b4 : (bits .and .i64 v x.f4 != v) <;> cases b5 : (bits .and .i64 r x.f5 != r) <;> cases b6 : decide (u > x.f6)
                all_goals (first | (rw [b3, b4, b5, b6] at hb9; cases hb9; done) | (
                  obtain ⟨y0, y1, y2, y3, y4, y5, y6, y7, y8⟩ := nine NB_64.out
                  obtain ⟨z0, z1, z2⟩ := three XB_62.out
                  obtain ⟨r0, r1, r2⟩ := three RZ_63.out
                  have hfz : ∀ o, w7.frozen? ⟨rb, o, none⟩ = false := fun o => blk_frozen RZ_63.out o
                  go_wp2_with fail
                  try any_goals (exfalso; omega)
                  try any_goals (exfalso; contradiction)
                  clear z0 z1 z2
                  clear y0 y1 y2 y3 y4 y5 y6 y7 y8
                  clear r0 r1 r2 hfz
                  have hz1 := blk_put RZ_63.out 0 (.slice (some ad) G.length cG) rfl
                  have hz2 := blk_put hz1 1 (.slice AE E.length cE) rfl
                  have hz3 := blk_put hz2 2 (.int .i64 day) rfl
                  have hB := ((HB_61.out.setCell (p := ⟨rb, 0, none⟩) HRB.out (.slice (some ad) G.length cG)).setCell (p := ⟨rb, 1, none⟩) HRB.out (.slice AE E.length cE)).setCell (p := ⟨rb, 2, none⟩) HRB.out (.int .i64 day)
                  clear hz1 hz2
                  generalize (World.setCell (World.setCell (World.setCell w7 ⟨rb, 0, none⟩ (.slice (some ad) G.length cG)) ⟨rb, 1, none⟩ (.slice AE E.length cE)) ⟨rb, 2, none⟩ (.int .i64 day)) = w9 at hz3  hB ⊢
                  refine bodyPost_ret (results_ctt rfl _ _ rb 51 #[(.slice (some ad) G.length cG), (.slice AE E.length cE), (.int .i64 day)] (0, 0) _ rfl hz3 Try.underlying51 rfl (by kernel_rfl)) rfl ?_
                  exact ⟨_, rfl, bok_same HRW.out hB, hB⟩))
            · obtain ⟨y0, y1, y2, y3, y4, y5, y6, y7, y8⟩ := nine NB_60.out
              obtain ⟨z0, z1, z2⟩ := three XB_58.out
              obtain ⟨r0, r1, r2⟩ := three RZ_59.out
              have hfz : ∀ o, w6.frozen? ⟨rb, o, none⟩ = false := fun o => blk_frozen RZ_59.out o
              go_wp2_with fail
              try any_goals (exfalso; omega)
              try any_goals (exfalso; contradiction)
              clear z0 z1 z2
              clear y0 y1 y2 y3 y4 y5 y6 y7 y8
              clear r0 r1 r2 hfz
              have hz1 := blk_put RZ_59.out 0 (.slice (some ad) G.length cG) rfl
              have hz2 := blk_put hz1 1 (.slice AE E.length cE) rfl
              have hz3 := blk_put hz2 2 (.int .i64 day) rfl
              have hB := ((HB_57.out.setCell (p := ⟨rb, 0, none⟩) HRB.out (.slice (some ad) G.length cG)).setCell (p := ⟨rb, 1, none⟩) HRB.out (.slice AE E.length cE)).setCell (p := ⟨rb, 2, none⟩) HRB.out (.int .i64 day)
              clear hz1 hz2
              generalize (World.setCell (World.setCell (World.setCell w6 ⟨rb, 0, none⟩ (.slice (some ad) G.length cG)) ⟨rb, 1, none⟩ (.slice AE E.length cE)) ⟨rb, 2, none⟩ (.int .i64 day)) = w9 at hz3  hB ⊢
              refine bodyPost_ret (results_ctt rfl _ _ rb 51 #[(.slice (some ad) G.length cG), (.slice AE E.length cE), (.int .i64 day)] (0, 0) _ rfl hz3 Try.underlying51 rfl (by kernel_rfl)) rfl ?_
              exact ⟨_, rfl, bok_same HRW.out hB, hB⟩)
  · have hG : pRG day G E n by_ h_ v r u s = G ∧ pRN day G E n by_ h_ v r u s = 0 ∧ pRC day G E n by_ h_ v r u s = 6 := by unfold pRG pRN pRC pOk; simp [hr]
    rw [hG.1, hG.2.1, hG.2.2]
    clear hG
    have hu51 := Try.underlying51
    have hu39 := Try.underlying39
    have hu44 := Try.underlying44
    go_enter Try.func69, Try.ntmps69
    have HB_65 := lhid (Below.refl w.heap.size w)
    go_upto_region 1 with (fail)
    have hb := below_alloc (Below.refl w.heap.size w) (.cells #[.slice AG G.length cG, .slice AE E.length cE, .int .i64 day] 51)
    have hn := blk_new w (.cells #[.slice AG G.length cG, .slice AE E.length cE, .int .i64 day] 51)
    have HZ1 := lhid (show (World.alloc w (.cells #[.slice AG G.length cG, .slice AE E.length cE, .int .i64 day] 51)).heap.size = w.heap.size + 1 from by simp)
    generalize hq : World.alloc w (.cells #[.slice AG G.length cG, .slice AE E.length cE, .int .i64 day] 51) = w1 at hb hn HZ1 ⊢
    clear hq
    have HB_66 := lhid (below_then HB_65.out HB_65.out.size hb)
    clear HB_65 hb
    have XB_67 := lhid (hn)
    clear hn
    obtain ⟨xb, hxb⟩ : ∃ q, q = w.heap.size := ⟨_, rfl⟩
    rw [← hxb] at XB_67 ⊢
    have Exb := lhid hxb
    clear hxb
    have hb := below_alloc (Below.refl w1.heap.size w1) (.cells #[.slice none 0 0, .slice none 0 0, .int .i64 0] 51)
    have hn := blk_new w1 (.cells #[.slice none 0 0, .slice none 0 0, .int .i64 0] 51)
    have HZ2 := lhid (show (World.alloc w1 (.cells #[.slice none 0 0, .slice none 0 0, .int .i64 0] 51)).heap.size = w1.heap.size + 1 from by simp)
    generalize hq : World.alloc w1 (.cells #[.slice none 0 0, .slice none 0 0, .int .i64 0] 51) = w2 at hb hn HZ2 ⊢
    clear hq
    have HB_68 := lhid (below_then HB_66.out HB_66.out.size hb)
    have XB_69 := lhid (blk_below XB_67.out hb)
    clear HB_66 XB_67 hb
    have RZ_70 := lhid (hn)
    clear hn
    obtain ⟨rb, hrb⟩ : ∃ q, q = xb + 1 := ⟨_, rfl⟩
    rw [show w1.heap.size = rb by rw [hrb]; have z1 := HZ1.out; have y0 := Exb.out; omega] at RZ_70
    rw [← hrb]
    have Erb := lhid hrb
    clear hrb
    have HNE := lhid (show xb = w.heap.size + 0 ∧ rb = w.heap.size + 1 ∧ w2.heap.size = w.heap.size + 2 by have z1 := HZ1.out; have z2 := HZ2.out; have y0 := Exb.out;  have y1 := Erb.out; omega)
    clear Exb Erb HZ1 HZ2
    have HRB := lhid (show w.heap.size ≤ rb by have := HNE.out; omega)
    have HW3 := lhid (show w2.heap.size = w.heap.size + 2 from HNE.out.2.2)
    obtain ⟨z0, z1, z2⟩ := three XB_69.out
    go_wp2_with fail
    have hq := has_r w2 AG cG G AE cE E day n (HRW.out.rb HB_68.out) HT.out
    rw [hasB_no hr] at hq
    have HQ := lhid hq
    clear hq
    with_reducible refine HQ.out.mono ?_
    rintro e w5 ⟨rfl, hb⟩
    clear HQ
    clear z0 z1 z2
    have HB_71 := lhid (below_then HB_68.out HB_68.out.size hb)
    have XB_72 := lhid (blk_below XB_69.out hb)
    have RZ_73 := lhid (blk_below RZ_70.out hb)
    clear HB_68 XB_69 RZ_70 hb
    obtain ⟨z0, z1, z2⟩ := three XB_72.out
    obtain ⟨r0, r1, r2⟩ := three RZ_73.out
    have hfz : ∀ o, w5.frozen? ⟨rb, o, none⟩ = false := fun o => blk_frozen RZ_73.out o
    go_wp2_with fail
    try any_goals (exfalso; omega)
    clear z0 z1 z2
    clear r0 r1 r2 hfz
    have hz1 := blk_put RZ_73.out 0 (.slice AG G.length cG) rfl
    have hz2 := blk_put hz1 1 (.slice AE E.length cE) rfl
    have hz3 := blk_put hz2 2 (.int .i64 day) rfl
    have hB := ((HB_71.out.setCell (p := ⟨rb, 0, none⟩) HRB.out (.slice AG G.length cG)).setCell (p := ⟨rb, 1, none⟩) HRB.out (.slice AE E.length cE)).setCell (p := ⟨rb, 2, none⟩) HRB.out (.int .i64 day)
    clear hz1 hz2
    generalize (World.setCell (World.setCell (World.setCell w5 ⟨rb, 0, none⟩ (.slice AG G.length cG)) ⟨rb, 1, none⟩ (.slice AE E.length cE)) ⟨rb, 2, none⟩ (.int .i64 day)) = w9 at hz3  hB ⊢
    refine bodyPost_ret (results_ctt rfl _ _ rb 51 #[(.slice AG G.length cG), (.slice AE E.length cE), (.int .i64 day)] (0, 0) _ rfl hz3 Try.underlying51 rfl (by kernel_rfl)) rfl ?_
    exact ⟨_, rfl, bok_same HRW.out hB, hB⟩
end Go.Proofs.Ytfnlghjkjmppdaa.PC
end
