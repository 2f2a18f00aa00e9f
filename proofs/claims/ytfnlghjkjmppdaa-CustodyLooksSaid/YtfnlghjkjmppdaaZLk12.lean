/-
  The texts that the theorem in YtfnlghjkjmppdaaZRowLk rests on, merged (part 13); only what it reaches.
-/
import Derived.Test.YtfnlghjkjmppdaaZLk7
import Derived.Test.YtfnlghjkjmppdaaZLk11
section
namespace Go.Proofs.Ytfnlghjkjmppdaa.PC
open Go.RowKit Go.Proofs.YtfnlghjkjmppdaaW.PrintWords Go.Proofs.YtfnlghjkjmppdaaW.PrintLast Go.Proofs.YtfnlghjkjmppdaaW.PrintMore
set_option linter.unusedVariables false
set_option linter.unusedSimpArgs false
theorem do_stay {base g : Nat} {F Q : Nat → Prop} {w w3 w4 : World} {day : Int} {G' : List S39} {E' : List S44} {AG AE : Option Addr} {cG cE : Nat} {G : List S39} {E : List S44} (h : Stay (fun k => F k ∨ Q k) w AG cG G AE cE E) (hQ : ∀ k, Q k → k < w.heap.size) (hb : Below w.heap.size w w3) (hg : Got base F w3 w4 g day G' E') :
    ∃ F', BK base F' w4 g day G' E' ∧ (∀ k, F' k → F k ∨ w3.heap.size ≤ k) ∧ Chg F w w4 ∧ Stay (fun k => (F' k ∨ Q k) ∨ (w.heap.size ≤ k ∧ k < w3.heap.size)) w4 AG cG G AE cE E ∧ (∀ k, ((F' k ∨ Q k) ∨ (w.heap.size ≤ k ∧ k < w3.heap.size)) → k < w4.heap.size) ∧ w3.heap.size ≤ w4.heap.size := by
  obtain ⟨F', k1, k2, k3⟩ := hg
  have hc : Chg F w w4 := (Chg.of_below hb).trans k3 (fun _ _ q => q)
  refine ⟨F', k1, k2, hc, h.next (hc.mono (fun _ _ q => Or.inl q)) (fun k hk q => ?_), fun k q => ?_, k3.size⟩
  · have hs := hb.size
    rcases q with (q | q) | q
    · rcases k2 k q with r | r
      · exact Or.inl r
      · omega
    · exact Or.inr q
    · omega
  · have hs := k3.size
    have hs2 := hb.size
    rcases q with (q | q) | q
    · exact (k1.fb k q).2
    · have := hQ k q; omega
    · omega
set_option maxHeartbeats 12800000 in
set_option maxRecDepth 100000 in
theorem do_calls (base g : Nat) (F : Nat → Prop) (w : World) (s : St) (M : List Int) (a : S37) (AG : Option Addr) (cG : Nat) (G : List S39) (AE : Option Addr) (cE : Nat) (E : List S44) (day : Int) (h : Bk base F w g s) (Q : Nat → Prop) (hS : Stay (fun k => F k ∨ Q k) w AG cG G AE cE E) (hQ : ∀ k, Q k → k < w.heap.size) (hM : Same s M) (hG : G = refG s.G M) (hE0 : E = s.E) (hd : day = s.day) (hk : 0 ≤ a.f0 ∧ a.f0 < 256) (hE : E.length ≤ 100) : Calls Try.prog 36 #[.pointer (some ⟨g, 0, none⟩), .agg #[.slice AG G.length cG, .slice AE E.length cE, .int .i64 day], .agg #[.int .u8 a.f0, .int .i64 a.f1, .int .i64 a.f2, .int .i64 a.f3, .int .i64 a.f4, .int .i64 a.f5, .int .i64 a.f6, .int .i64 a.f7, .int .i64 a.f8, .int .i64 a.f9, .int .i64 a.f10]] w fun e w' => ∃ b F', e = .returned (.tuple #[b, .bool true]) ∧ BK base F' w' g (stepS s a).day (stepS s a).G (stepS s a).E ∧ (∀ k, F' k → F k ∨ w.heap.size ≤ k) ∧ Chg F w w' ∧ Bok (fun k => F' k ∨ Q k) w' (refS s M a) (stepS s a).E (stepS s a).day b := by
  have HS0 := lhid hS
  have HQ0 := lhid hQ
  have HM := lhid hM
  have hu37 := Try.underlying37
  have hk0 : 0 ≤ a.f0 := hk.1
  have hk1 : a.f0 < 256 := hk.2
  have HGE := lhid hG
  have HEE := lhid hE0
  have HDE := lhid hd
  have HEL := lhid hE
  have HTR := lhid (show Tree G by rw [hG]; exact hM.tree)
  have HER := lhid (show EIn G E by rw [hG, hE0]; exact hM.einR)
  have HUR := lhid (show ∀ m : Nat, 1 ≤ m → m ≤ G.length → (gr G m).f7 ≤ 1048576 by rw [hG]; exact hM.bound)
  have HFB := lhid (show ∀ k, F k → k < w.heap.size from fun k q => (BK.fb h k q).2)
  have HBK0 := lhid (show BK base F w g s.day s.G s.E from h)
  have HI := lhid hM.inv
  have HT := lhid hM.inv.1
  have HI := lhid hM.inv
  have HIR := lhid (show Inv G by rw [hG]; exact hM.invR)
  clear h hS hQ hM hG hE0 hd hE hk
  have hu51 := Try.underlying51
  have hu39 := Try.underlying39
  have hu44 := Try.underlying44
  go_enter Try.func36, Try.ntmps36
  have HB_1 := lhid (Below.refl w.heap.size w)
  go_upto_region 1 with (fail)
  have hb := below_alloc (Below.refl w.heap.size w) (.cells #[.slice AG G.length cG, .slice AE E.length cE, .int .i64 day] 51)
  have hn := blk_new w (.cells #[.slice AG G.length cG, .slice AE E.length cE, .int .i64 day] 51)
  have HZ1 := lhid (show (World.alloc w (.cells #[.slice AG G.length cG, .slice AE E.length cE, .int .i64 day] 51)).heap.size = w.heap.size + 1 from by simp)
  generalize hq : World.alloc w (.cells #[.slice AG G.length cG, .slice AE E.length cE, .int .i64 day] 51) = w1 at hb hn HZ1 ⊢
  clear hq
  have HBK_2 := lhid (HBK0.out.next hb)
  have HB_3 := lhid (below_then HB_1.out HB_1.out.size hb)
  clear HBK0 HB_1 hb
  have XB_4 := lhid (hn)
  clear hn
  obtain ⟨xb, hxb⟩ : ∃ q, q = w.heap.size := ⟨_, rfl⟩
  rw [← hxb] at XB_4 ⊢
  have Exb := lhid hxb
  clear hxb
  have hb := below_alloc (Below.refl w1.heap.size w1) (.cells #[.int .u8 a.f0, .int .i64 a.f1, .int .i64 a.f2, .int .i64 a.f3, .int .i64 a.f4, .int .i64 a.f5, .int .i64 a.f6, .int .i64 a.f7, .int .i64 a.f8, .int .i64 a.f9, .int .i64 a.f10] 37)
  have hn := blk_new w1 (.cells #[.int .u8 a.f0, .int .i64 a.f1, .int .i64 a.f2, .int .i64 a.f3, .int .i64 a.f4, .int .i64 a.f5, .int .i64 a.f6, .int .i64 a.f7, .int .i64 a.f8, .int .i64 a.f9, .int .i64 a.f10] 37)
  have HZ2 := lhid (show (World.alloc w1 (.cells #[.int .u8 a.f0, .int .i64 a.f1, .int .i64 a.f2, .int .i64 a.f3, .int .i64 a.f4, .int .i64 a.f5, .int .i64 a.f6, .int .i64 a.f7, .int .i64 a.f8, .int .i64 a.f9, .int .i64 a.f10] 37)).heap.size = w1.heap.size + 1 from by simp)
  generalize hq : World.alloc w1 (.cells #[.int .u8 a.f0, .int .i64 a.f1, .int .i64 a.f2, .int .i64 a.f3, .int .i64 a.f4, .int .i64 a.f5, .int .i64 a.f6, .int .i64 a.f7, .int .i64 a.f8, .int .i64 a.f9, .int .i64 a.f10] 37) = w2 at hb hn HZ2 ⊢
  clear hq
  have HBK_5 := lhid (HBK_2.out.next hb)
  have HB_6 := lhid (below_then HB_3.out HB_3.out.size hb)
  have XB_7 := lhid (blk_below XB_4.out hb)
  clear HBK_2 HB_3 XB_4 hb
  have AX_8 := lhid (hn)
  clear hn
  obtain ⟨ax, hax⟩ : ∃ q, q = xb + 1 := ⟨_, rfl⟩
  rw [show w1.heap.size = ax by rw [hax]; have z1 := HZ1.out; have y0 := Exb.out; omega] at AX_8
  rw [← hax]
  have Eax := lhid hax
  clear hax
  have hb := below_alloc (Below.refl w2.heap.size w2) (.cells #[.slice none 0 0, .slice none 0 0, .int .i64 0] 51)
  have hn := blk_new w2 (.cells #[.slice none 0 0, .slice none 0 0, .int .i64 0] 51)
  have HZ3 := lhid (show (World.alloc w2 (.cells #[.slice none 0 0, .slice none 0 0, .int .i64 0] 51)).heap.size = w2.heap.size + 1 from by simp)
  generalize hq : World.alloc w2 (.cells #[.slice none 0 0, .slice none 0 0, .int .i64 0] 51) = w3 at hb hn HZ3 ⊢
  clear hq
  have HBK_9 := lhid (HBK_5.out.next hb)
  have HB_10 := lhid (below_then HB_6.out HB_6.out.size hb)
  have XB_11 := lhid (blk_below XB_7.out hb)
  have AX_12 := lhid (blk_below AX_8.out hb)
  clear HBK_5 HB_6 XB_7 AX_8 hb
  have RZ_13 := lhid (hn)
  clear hn
  obtain ⟨rb, hrb⟩ : ∃ q, q = ax + 1 := ⟨_, rfl⟩
  rw [show w2.heap.size = rb by rw [hrb]; have z1 := HZ1.out; have z2 := HZ2.out; have y0 := Exb.out; have y1 := Eax.out; omega] at RZ_13
  rw [← hrb]
  have Erb := lhid hrb
  clear hrb
  have HNE := lhid (show xb = w.heap.size + 0 ∧ ax = w.heap.size + 1 ∧ rb = w.heap.size + 2 ∧ w3.heap.size = w.heap.size + 3 by have z1 := HZ1.out; have z2 := HZ2.out; have z3 := HZ3.out; have y0 := Exb.out;  have y1 := Eax.out;  have y2 := Erb.out; omega)
  clear Exb Eax Erb HZ1 HZ2 HZ3
  have HRG := lhid (show w.heap.size ≤ rb by have h2 := HNE.out; omega)
  have HWS := lhid (show w.heap.size ≤ w3.heap.size from HB_10.out.size)
  by_cases k0 : a.f0 % 8 = 0
  · have d0 : (a.f0 % 8 == 0) = true := beq_iff_eq.2 k0
    obtain ⟨z0, z1, z2⟩ := three XB_11.out
    obtain ⟨y0, y1, y2, y3, y4, y5, y6, y7, y8, y9, y10⟩ := cells11 AX_12.out
    go_wp2_with fail
    try any_goals (exfalso; omega)
    with_reducible refine (Grant_calls base g F w3 s.day s.G s.E a.f3 a.f6 a.f7 a.f8 a.f9 HBK_9.out).mono ?_
    rintro e w40 ⟨he, hg⟩
    obtain ⟨x, y, hx, hy, rfl⟩ := tup_any he
    have HX := lhid hx
    have HY := lhid hy
    clear hx hy he
    obtain ⟨F4, k1, k2, k3, k4, k5, k6⟩ := do_stay HS0.out HQ0.out HB_10.out hg
    have HK1 := lhid k1
    have HK2 := lhid k2
    have HK3 := lhid k3
    have HK4 := lhid k4
    have HK5 := lhid k5
    have hxk := hg.choose_spec.2.2
    have XB4 := lhid (hxk.blk XB_11.out (fun q => by have h1 := HFB.out _ q; have h2 := HNE.out; omega))
    have AX4 := lhid (hxk.blk AX_12.out (fun q => by have h1 := HFB.out _ q; have h2 := HNE.out; omega))
    have RZ4 := lhid (hxk.blk RZ_13.out (fun q => by have h1 := HFB.out _ q; have h2 := HNE.out; omega))
    have HN4 := lhid (show ¬ F4 rb from fun q => by
      have h2 := HNE.out
      rcases k2 rb q with r | r
      · have h1 := HFB.out _ r; omega
      · omega)
    have HIN := lhid (show (F4 rb ∨ Q rb) ∨ (w.heap.size ≤ rb ∧ rb < w3.heap.size) from Or.inr (by have h2 := HNE.out; omega))
    clear hg k1 k2 k3 k4 k5 k6 hxk
    clear y0 y1 y2 y3 y4 y5 y6 y7 y8 y9 y10
    clear z0 z1 z2
    obtain ⟨z0, z1, z2⟩ := three XB4.out
    obtain ⟨y0, y1, y2, y3, y4, y5, y6, y7, y8, y9, y10⟩ := cells11 AX4.out
    go_wp2_with fail
    try any_goals (exfalso; omega)
    with_reducible refine (Grant_r (fun k => (F4 k ∨ Q k) ∨ (w.heap.size ≤ k ∧ k < w3.heap.size)) w40 AG cG G AE cE E day a.f3 a.f6 a.f7 a.f8 a.f9 HK4.out HK5.out HTR.out HEL.out).mono ?_
    rintro e w50 ⟨vb, rfl, ⟨A1, c1, A2, c2, rfl, hR⟩, hb⟩
    have HRK := lhid hR
    have HB5 := lhid hb
    clear hR
    clear y0 y1 y2 y3 y4 y5 y6 y7 y8 y9 y10
    clear z0 z1 z2
    have HBK_401 := lhid (HK1.out.next hb)
    have XB_402 := lhid (blk_below XB4.out hb)
    have AX_403 := lhid (blk_below AX4.out hb)
    have RZ_404 := lhid (blk_below RZ4.out hb)
    clear HK1 XB4 AX4 RZ4 hb
    have q1 : gRG G a.f3 a.f6 a.f7 a.f8 a.f9 = refS s M a := by rw [HGE.out]; exact (ref_root HM.out (a := a) k0).1
    have q2 : gRC G a.f3 a.f6 a.f7 a.f8 a.f9 = y := by rw [HGE.out, HY.out]; exact (ref_root HM.out (a := a) k0).2.1
    have q3 : gRN G a.f3 a.f6 a.f7 a.f8 a.f9 = x := by rw [HGE.out, HX.out]; exact (ref_root HM.out (a := a) k0).2.2
    rw [q1] at HRK ⊢
    rw [q2, q3]
    clear q1 q2 q3
    obtain ⟨E9, hE9⟩ : ∃ q, q = E := ⟨_, rfl⟩
    have SEE := lhid (show E9 = (stepS s a).E by rw [hE9]; first | done | (rw [(act_root (s := s) (a := a) k0).2]; try exact HEE.out))
    obtain ⟨d9, hd9⟩ : ∃ q, q = day := ⟨_, rfl⟩
    have SDD := lhid (show d9 = (stepS s a).day by rw [hd9]; first | done | (rw [(act_root (s := s) (a := a) k0).2]; try exact HDE.out))
    rw [← hE9] at HRK
    rw [← hE9, ← hd9]
    obtain ⟨G9, hG9⟩ : ∃ q, q = refS s M a := ⟨_, rfl⟩
    have SGG := lhid (show G9 = refS s M a by rw [hG9]; first | done | (first | done | rfl))
    rw [← hG9] at HRK
    rw [← hG9]
    clear hG9 hE9 hd9
    have HB60 := lhid (Below.refl w50.heap.size w50)
    go_upto_region 5 with (fail)
    try any_goals (exfalso; omega)
    have hb := below_alloc (Below.refl w50.heap.size w50) (.cells #[.slice A1 G9.length c1, .slice A2 E9.length c2, .int .i64 d9] 51)
    have hn := blk_new w50 (.cells #[.slice A1 G9.length c1, .slice A2 E9.length c2, .int .i64 d9] 51)
    have HZ51 := lhid (show (World.alloc w50 (.cells #[.slice A1 G9.length c1, .slice A2 E9.length c2, .int .i64 d9] 51)).heap.size = w50.heap.size + 1 from by simp)
    generalize hq : World.alloc w50 (.cells #[.slice A1 G9.length c1, .slice A2 E9.length c2, .int .i64 d9] 51) = w51 at hb hn HZ51 ⊢
    clear hq
    have HBK_405 := lhid (HBK_401.out.next hb)
    have XB_406 := lhid (blk_below XB_402.out hb)
    have AX_407 := lhid (blk_below AX_403.out hb)
    have RZ_408 := lhid (blk_below RZ_404.out hb)
    have B6_409 := lhid (below_then HB60.out HB60.out.size hb)
    clear HBK_401 XB_402 AX_403 RZ_404 HB60 hb
    have NB_410 := lhid (hn)
    clear hn
    obtain ⟨nb, hnb⟩ : ∃ z, z = w50.heap.size := ⟨_, rfl⟩
    rw [← hnb] at NB_410 ⊢
    clear hnb
    skip
    obtain ⟨n0, n1, n2⟩ := three NB_410.out
    obtain ⟨r0, r1, r2⟩ := three RZ_408.out
    have hfz : ∀ o, w51.frozen? ⟨rb, o, none⟩ = false := fun o => blk_frozen RZ_408.out o
    go_wp2_with fail
    clear n0 n1 n2 r0 r1 r2 hfz
    have hz1 := blk_put RZ_408.out 0 (.slice A1 G9.length c1) rfl
    have hz2 := blk_put hz1 1 (.slice A2 E9.length c2) rfl
    have hz3 := blk_put hz2 2 (.int .i64 d9) rfl
    have hBK := BK.set (BK.set (BK.set HBK_405.out (p := ⟨rb, 0, none⟩) HN4.out (.slice A1 G9.length c1)) (p := ⟨rb, 1, none⟩) HN4.out (.slice A2 E9.length c2)) (p := ⟨rb, 2, none⟩) HN4.out (.int .i64 d9)
    have HB6 := lhid B6_409.out
    have hC := (((Chg.of_below (F := fun k => (F4 k ∨ Q k) ∨ (w.heap.size ≤ k ∧ k < w3.heap.size)) HB6.out).set (p := ⟨rb, 0, none⟩) (Or.inr HIN.out) (.slice A1 G9.length c1)).set (p := ⟨rb, 1, none⟩) (Or.inr HIN.out) (.slice A2 E9.length c2)).set (p := ⟨rb, 2, none⟩) (Or.inr HIN.out) (.int .i64 d9)
    have hD := ((((HK3.out.next HB5.out).next HB6.out).set (p := ⟨rb, 0, none⟩) (Or.inl HRG.out) (.slice A1 G9.length c1)).set (p := ⟨rb, 1, none⟩) (Or.inl HRG.out) (.slice A2 E9.length c2)).set (p := ⟨rb, 2, none⟩) (Or.inl HRG.out) (.int .i64 d9)
    clear hz1 hz2
    generalize (World.setCell (World.setCell (World.setCell w51 ⟨rb, 0, none⟩ (.slice A1 G9.length c1)) ⟨rb, 1, none⟩ (.slice A2 E9.length c2)) ⟨rb, 2, none⟩ (.int .i64 d9)) = w9 at hz3 hBK hC hD ⊢
    refine bodyPost_ret (results_ct rfl _ _ rb 51 #[(.slice A1 G9.length c1), (.slice A2 E9.length c2), (.int .i64 d9)] (0, 0) _ rfl hz3 Try.underlying51 rfl (by kernel_rfl)) rfl ?_
    have hst := HRK.out.next hC (P' := fun k => F4 k ∨ Q k) (fun k _ q => Or.inl q)
    have hF4 : ∀ k, F4 k → F k ∨ w.heap.size ≤ k := fun k q => (HK2.out k q).imp_right (fun r => Nat.le_trans HWS.out r)
    have hq := (act_root (s := s) (a := a) k0).2
    refine ⟨_, F4, rfl, by rw [hq]; exact hBK, hF4, hD, ?_⟩
    rw [← SGG.out, ← SEE.out, ← SDD.out]
    exact ⟨A1, c1, A2, c2, rfl, hst⟩
  · have d0 : (a.f0 % 8 == 0) = false := beq_eq_false_iff_ne.2 k0
    by_cases k1 : a.f0 % 8 = 1
    · have d1 : (a.f0 % 8 == 1) = true := beq_iff_eq.2 k1
      obtain ⟨z0, z1, z2⟩ := three XB_11.out
      obtain ⟨y0, y1, y2, y3, y4, y5, y6, y7, y8, y9, y10⟩ := cells11 AX_12.out
      go_wp2_with fail
      try any_goals (exfalso; omega)
      with_reducible refine (Pass_calls base g F w3 s.day s.G s.E a.f1 a.f3 a.f4 a.f6 a.f7 a.f8 a.f9 HBK_9.out HT.out).mono ?_
      rintro e w40 ⟨he, hg⟩
      obtain ⟨x, y, hx, hy, rfl⟩ := tup_any he
      have HX := lhid hx
      have HY := lhid hy
      clear hx hy he
      obtain ⟨F4, k1, k2, k3, k4, k5, k6⟩ := do_stay HS0.out HQ0.out HB_10.out hg
      have HK1 := lhid k1
      have HK2 := lhid k2
      have HK3 := lhid k3
      have HK4 := lhid k4
      have HK5 := lhid k5
      have hxk := hg.choose_spec.2.2
      have XB4 := lhid (hxk.blk XB_11.out (fun q => by have h1 := HFB.out _ q; have h2 := HNE.out; omega))
      have AX4 := lhid (hxk.blk AX_12.out (fun q => by have h1 := HFB.out _ q; have h2 := HNE.out; omega))
      have RZ4 := lhid (hxk.blk RZ_13.out (fun q => by have h1 := HFB.out _ q; have h2 := HNE.out; omega))
      have HN4 := lhid (show ¬ F4 rb from fun q => by
        have h2 := HNE.out
        rcases k2 rb q with r | r
        · have h1 := HFB.out _ r; omega
        · omega)
      have HIN := lhid (show (F4 rb ∨ Q rb) ∨ (w.heap.size ≤ rb ∧ rb < w3.heap.size) from Or.inr (by have h2 := HNE.out; omega))
      clear hg k1 k2 k3 k4 k5 k6 hxk
      clear y0 y1 y2 y3 y4 y5 y6 y7 y8 y9 y10
      clear z0 z1 z2
      obtain ⟨z0, z1, z2⟩ := three XB4.out
      obtain ⟨y0, y1, y2, y3, y4, y5, y6, y7, y8, y9, y10⟩ := cells11 AX4.out
      go_wp2_with fail
      try any_goals (exfalso; omega)
      with_reducible refine (Pass_r (fun k => (F4 k ∨ Q k) ∨ (w.heap.size ≤ k ∧ k < w3.heap.size)) w40 AG cG G AE cE E day a.f1 a.f3 a.f4 a.f6 a.f7 a.f8 a.f9 HK4.out HK5.out HTR.out HEL.out HER.out HUR.out).mono ?_
      rintro e w50 ⟨vb, rfl, ⟨A1, c1, A2, c2, rfl, hR⟩, hb⟩
      have HRK := lhid hR
      have HB5 := lhid hb
      clear hR
      clear y0 y1 y2 y3 y4 y5 y6 y7 y8 y9 y10
      clear z0 z1 z2
      have HBK_401 := lhid (HK1.out.next hb)
      have XB_402 := lhid (blk_below XB4.out hb)
      have AX_403 := lhid (blk_below AX4.out hb)
      have RZ_404 := lhid (blk_below RZ4.out hb)
      clear HK1 XB4 AX4 RZ4 hb
      have q1 : pRG day G E a.f1 a.f3 a.f4 a.f6 a.f7 a.f8 a.f9 = refS s M a := by rw [HGE.out, HEE.out, HDE.out]; exact (ref_pass HM.out (a := a) k0 (Or.inl k1)).1
      have q2 : pRC day G E a.f1 a.f3 a.f4 a.f6 a.f7 a.f8 a.f9 = y := by rw [HGE.out, HEE.out, HDE.out, HY.out]; exact (HM.out.pass _ _ _ _ _ _ _).1
      have q3 : pRN day G E a.f1 a.f3 a.f4 a.f6 a.f7 a.f8 a.f9 = x := by rw [HGE.out, HEE.out, HDE.out, HX.out]; exact (ref_pass HM.out (a := a) k0 (Or.inl k1)).2
      rw [q1] at HRK ⊢
      rw [q2, q3]
      clear q1 q2 q3
      obtain ⟨E9, hE9⟩ : ∃ q, q = E := ⟨_, rfl⟩
      have SEE := lhid (show E9 = (stepS s a).E by rw [hE9]; first | done | (rw [(act_pass (s := s) (a := a) k0 (Or.inl k1)).2]; try exact HEE.out))
      obtain ⟨d9, hd9⟩ : ∃ q, q = day := ⟨_, rfl⟩
      have SDD := lhid (show d9 = (stepS s a).day by rw [hd9]; first | done | (rw [(act_pass (s := s) (a := a) k0 (Or.inl k1)).2]; try exact HDE.out))
      rw [← hE9] at HRK
      rw [← hE9, ← hd9]
      obtain ⟨G9, hG9⟩ : ∃ q, q = refS s M a := ⟨_, rfl⟩
      have SGG := lhid (show G9 = refS s M a by rw [hG9]; first | done | (first | done | rfl))
      rw [← hG9] at HRK
      rw [← hG9]
      clear hG9 hE9 hd9
      have HB60 := lhid (Below.refl w50.heap.size w50)
      go_upto_region 10 with (fail)
      try any_goals (exfalso; omega)
      have hb := below_alloc (Below.refl w50.heap.size w50) (.cells #[.slice A1 G9.length c1, .slice A2 E9.length c2, .int .i64 d9] 51)
      have hn := blk_new w50 (.cells #[.slice A1 G9.length c1, .slice A2 E9.length c2, .int .i64 d9] 51)
      have HZ51 := lhid (show (World.alloc w50 (.cells #[.slice A1 G9.length c1, .slice A2 E9.length c2, .int .i64 d9] 51)).heap.size = w50.heap.size + 1 from by simp)
      generalize hq : World.alloc w50 (.cells #[.slice A1 G9.length c1, .slice A2 E9.length c2, .int .i64 d9] 51) = w51 at hb hn HZ51 ⊢
      clear hq
      have HBK_405 := lhid (HBK_401.out.next hb)
      have XB_406 := lhid (blk_below XB_402.out hb)
      have AX_407 := lhid (blk_below AX_403.out hb)
      have RZ_408 := lhid (blk_below RZ_404.out hb)
      have B6_409 := lhid (below_then HB60.out HB60.out.size hb)
      clear HBK_401 XB_402 AX_403 RZ_404 HB60 hb
      have NB_410 := lhid (hn)
      clear hn
      obtain ⟨nb, hnb⟩ : ∃ z, z = w50.heap.size := ⟨_, rfl⟩
      rw [← hnb] at NB_410 ⊢
      clear hnb
      skip
      obtain ⟨n0, n1, n2⟩ := three NB_410.out
      obtain ⟨r0, r1, r2⟩ := three RZ_408.out
      have hfz : ∀ o, w51.frozen? ⟨rb, o, none⟩ = false := fun o => blk_frozen RZ_408.out o
      go_wp2_with fail
      clear n0 n1 n2 r0 r1 r2 hfz
      have hz1 := blk_put RZ_408.out 0 (.slice A1 G9.length c1) rfl
      have hz2 := blk_put hz1 1 (.slice A2 E9.length c2) rfl
      have hz3 := blk_put hz2 2 (.int .i64 d9) rfl
      have hBK := BK.set (BK.set (BK.set HBK_405.out (p := ⟨rb, 0, none⟩) HN4.out (.slice A1 G9.length c1)) (p := ⟨rb, 1, none⟩) HN4.out (.slice A2 E9.length c2)) (p := ⟨rb, 2, none⟩) HN4.out (.int .i64 d9)
      have HB6 := lhid B6_409.out
      have hC := (((Chg.of_below (F := fun k => (F4 k ∨ Q k) ∨ (w.heap.size ≤ k ∧ k < w3.heap.size)) HB6.out).set (p := ⟨rb, 0, none⟩) (Or.inr HIN.out) (.slice A1 G9.length c1)).set (p := ⟨rb, 1, none⟩) (Or.inr HIN.out) (.slice A2 E9.length c2)).set (p := ⟨rb, 2, none⟩) (Or.inr HIN.out) (.int .i64 d9)
      have hD := ((((HK3.out.next HB5.out).next HB6.out).set (p := ⟨rb, 0, none⟩) (Or.inl HRG.out) (.slice A1 G9.length c1)).set (p := ⟨rb, 1, none⟩) (Or.inl HRG.out) (.slice A2 E9.length c2)).set (p := ⟨rb, 2, none⟩) (Or.inl HRG.out) (.int .i64 d9)
      clear hz1 hz2
      generalize (World.setCell (World.setCell (World.setCell w51 ⟨rb, 0, none⟩ (.slice A1 G9.length c1)) ⟨rb, 1, none⟩ (.slice A2 E9.length c2)) ⟨rb, 2, none⟩ (.int .i64 d9)) = w9 at hz3 hBK hC hD ⊢
      refine bodyPost_ret (results_ct rfl _ _ rb 51 #[(.slice A1 G9.length c1), (.slice A2 E9.length c2), (.int .i64 d9)] (0, 0) _ rfl hz3 Try.underlying51 rfl (by kernel_rfl)) rfl ?_
      have hst := HRK.out.next hC (P' := fun k => F4 k ∨ Q k) (fun k _ q => Or.inl q)
      have hF4 : ∀ k, F4 k → F k ∨ w.heap.size ≤ k := fun k q => (HK2.out k q).imp_right (fun r => Nat.le_trans HWS.out r)
      have hq := (act_pass (s := s) (a := a) k0 (Or.inl k1)).2
      refine ⟨_, F4, rfl, by rw [hq]; exact hBK, hF4, hD, ?_⟩
      rw [← SGG.out, ← SEE.out, ← SDD.out]
      exact ⟨A1, c1, A2, c2, rfl, hst⟩
    · have d1 : (a.f0 % 8 == 1) = false := beq_eq_false_iff_ne.2 k1
      by_cases k2 : a.f0 % 8 = 2
      · have d2 : (a.f0 % 8 == 2) = true := beq_iff_eq.2 k2
        obtain ⟨z0, z1, z2⟩ := three XB_11.out
        obtain ⟨y0, y1, y2, y3, y4, y5, y6, y7, y8, y9, y10⟩ := cells11 AX_12.out
        go_wp2_with fail
        try any_goals (exfalso; omega)
        with_reducible refine (Pass_calls base g F w3 s.day s.G s.E a.f1 a.f3 a.f4 a.f6 a.f7 a.f8 a.f9 HBK_9.out HT.out).mono ?_
        rintro e w40 ⟨he, hg⟩
        obtain ⟨x, y, hx, hy, rfl⟩ := tup_any he
        have HX := lhid hx
        have HY := lhid hy
        clear hx hy he
        obtain ⟨F4, k1, k2, k3, k4, k5, k6⟩ := do_stay HS0.out HQ0.out HB_10.out hg
        have HK1 := lhid k1
        have HK2 := lhid k2
        have HK3 := lhid k3
        have HK4 := lhid k4
        have HK5 := lhid k5
        have hxk := hg.choose_spec.2.2
        have XB4 := lhid (hxk.blk XB_11.out (fun q => by have h1 := HFB.out _ q; have h2 := HNE.out; omega))
        have AX4 := lhid (hxk.blk AX_12.out (fun q => by have h1 := HFB.out _ q; have h2 := HNE.out; omega))
        have RZ4 := lhid (hxk.blk RZ_13.out (fun q => by have h1 := HFB.out _ q; have h2 := HNE.out; omega))
        have HN4 := lhid (show ¬ F4 rb from fun q => by
          have h2 := HNE.out
          rcases k2 rb q with r | r
          · have h1 := HFB.out _ r; omega
          · omega)
        have HIN := lhid (show (F4 rb ∨ Q rb) ∨ (w.heap.size ≤ rb ∧ rb < w3.heap.size) from Or.inr (by have h2 := HNE.out; omega))
        clear hg k1 k2 k3 k4 k5 k6 hxk
        clear y0 y1 y2 y3 y4 y5 y6 y7 y8 y9 y10
        clear z0 z1 z2
        obtain ⟨z0, z1, z2⟩ := three XB4.out
        obtain ⟨y0, y1, y2, y3, y4, y5, y6, y7, y8, y9, y10⟩ := cells11 AX4.out
        go_wp2_with fail
        try any_goals (exfalso; omega)
        with_reducible refine (Pass_r (fun k => (F4 k ∨ Q k) ∨ (w.heap.size ≤ k ∧ k < w3.heap.size)) w40 AG cG G AE cE E day a.f1 a.f3 a.f4 a.f6 a.f7 a.f8 a.f9 HK4.out HK5.out HTR.out HEL.out HER.out HUR.out).mono ?_
        rintro e w50 ⟨vb, rfl, ⟨A1, c1, A2, c2, rfl, hR⟩, hb⟩
        have HRK := lhid hR
        have HB5 := lhid hb
        clear hR
        clear y0 y1 y2 y3 y4 y5 y6 y7 y8 y9 y10
        clear z0 z1 z2
        have HBK_401 := lhid (HK1.out.next hb)
        have XB_402 := lhid (blk_below XB4.out hb)
        have AX_403 := lhid (blk_below AX4.out hb)
        have RZ_404 := lhid (blk_below RZ4.out hb)
        clear HK1 XB4 AX4 RZ4 hb
        have q1 : pRG day G E a.f1 a.f3 a.f4 a.f6 a.f7 a.f8 a.f9 = refS s M a := by rw [HGE.out, HEE.out, HDE.out]; exact (ref_pass HM.out (a := a) k0 (Or.inr k2)).1
        have q2 : pRC day G E a.f1 a.f3 a.f4 a.f6 a.f7 a.f8 a.f9 = y := by rw [HGE.out, HEE.out, HDE.out, HY.out]; exact (HM.out.pass _ _ _ _ _ _ _).1
        have q3 : pRN day G E a.f1 a.f3 a.f4 a.f6 a.f7 a.f8 a.f9 = x := by rw [HGE.out, HEE.out, HDE.out, HX.out]; exact (ref_pass HM.out (a := a) k0 (Or.inr k2)).2
        rw [q1] at HRK ⊢
        rw [q2, q3]
        clear q1 q2 q3
        obtain ⟨E9, hE9⟩ : ∃ q, q = E := ⟨_, rfl⟩
        have SEE := lhid (show E9 = (stepS s a).E by rw [hE9]; first | done | (rw [(act_pass (s := s) (a := a) k0 (Or.inr k2)).2]; try exact HEE.out))
        obtain ⟨d9, hd9⟩ : ∃ q, q = day := ⟨_, rfl⟩
        have SDD := lhid (show d9 = (stepS s a).day by rw [hd9]; first | done | (rw [(act_pass (s := s) (a := a) k0 (Or.inr k2)).2]; try exact HDE.out))
        rw [← hE9] at HRK
        rw [← hE9, ← hd9]
        obtain ⟨G9, hG9⟩ : ∃ q, q = refS s M a := ⟨_, rfl⟩
        have SGG := lhid (show G9 = refS s M a by rw [hG9]; first | done | (first | done | rfl))
        rw [← hG9] at HRK
        rw [← hG9]
        clear hG9 hE9 hd9
        have HB60 := lhid (Below.refl w50.heap.size w50)
        go_upto_region 10 with (fail)
        try any_goals (exfalso; omega)
        have hb := below_alloc (Below.refl w50.heap.size w50) (.cells #[.slice A1 G9.length c1, .slice A2 E9.length c2, .int .i64 d9] 51)
        have hn := blk_new w50 (.cells #[.slice A1 G9.length c1, .slice A2 E9.length c2, .int .i64 d9] 51)
        have HZ51 := lhid (show (World.alloc w50 (.cells #[.slice A1 G9.length c1, .slice A2 E9.length c2, .int .i64 d9] 51)).heap.size = w50.heap.size + 1 from by simp)
        generalize hq : World.alloc w50 (.cells #[.slice A1 G9.length c1, .slice A2 E9.length c2, .int .i64 d9] 51) = w51 at hb hn HZ51 ⊢
        clear hq
        have HBK_405 := lhid (HBK_401.out.next hb)
        have XB_406 := lhid (blk_below XB_402.out hb)
        have AX_407 := lhid (blk_below AX_403.out hb)
        have RZ_408 := lhid (blk_below RZ_404.out hb)
        have B6_409 := lhid (below_then HB60.out HB60.out.size hb)
        clear HBK_401 XB_402 AX_403 RZ_404 HB60 hb
        have NB_410 := lhid (hn)
        clear hn
        obtain ⟨nb, hnb⟩ : ∃ z, z = w50.heap.size := ⟨_, rfl⟩
        rw [← hnb] at NB_410 ⊢
        clear hnb
        skip
        obtain ⟨n0, n1, n2⟩ := three NB_410.out
        obtain ⟨r0, r1, r2⟩ := three RZ_408.out
        have hfz : ∀ o, w51.frozen? ⟨rb, o, none⟩ = false := fun o => blk_frozen RZ_408.out o
        go_wp2_with fail
        clear n0 n1 n2 r0 r1 r2 hfz
        have hz1 := blk_put RZ_408.out 0 (.slice A1 G9.length c1) rfl
        have hz2 := blk_put hz1 1 (.slice A2 E9.length c2) rfl
        have hz3 := blk_put hz2 2 (.int .i64 d9) rfl
        have hBK := BK.set (BK.set (BK.set HBK_405.out (p := ⟨rb, 0, none⟩) HN4.out (.slice A1 G9.length c1)) (p := ⟨rb, 1, none⟩) HN4.out (.slice A2 E9.length c2)) (p := ⟨rb, 2, none⟩) HN4.out (.int .i64 d9)
        have HB6 := lhid B6_409.out
        have hC := (((Chg.of_below (F := fun k => (F4 k ∨ Q k) ∨ (w.heap.size ≤ k ∧ k < w3.heap.size)) HB6.out).set (p := ⟨rb, 0, none⟩) (Or.inr HIN.out) (.slice A1 G9.length c1)).set (p := ⟨rb, 1, none⟩) (Or.inr HIN.out) (.slice A2 E9.length c2)).set (p := ⟨rb, 2, none⟩) (Or.inr HIN.out) (.int .i64 d9)
        have hD := ((((HK3.out.next HB5.out).next HB6.out).set (p := ⟨rb, 0, none⟩) (Or.inl HRG.out) (.slice A1 G9.length c1)).set (p := ⟨rb, 1, none⟩) (Or.inl HRG.out) (.slice A2 E9.length c2)).set (p := ⟨rb, 2, none⟩) (Or.inl HRG.out) (.int .i64 d9)
        clear hz1 hz2
        generalize (World.setCell (World.setCell (World.setCell w51 ⟨rb, 0, none⟩ (.slice A1 G9.length c1)) ⟨rb, 1, none⟩ (.slice A2 E9.length c2)) ⟨rb, 2, none⟩ (.int .i64 d9)) = w9 at hz3 hBK hC hD ⊢
        refine bodyPost_ret (results_ct rfl _ _ rb 51 #[(.slice A1 G9.length c1), (.slice A2 E9.length c2), (.int .i64 d9)] (0, 0) _ rfl hz3 Try.underlying51 rfl (by kernel_rfl)) rfl ?_
        have hst := HRK.out.next hC (P' := fun k => F4 k ∨ Q k) (fun k _ q => Or.inl q)
        have hF4 : ∀ k, F4 k → F k ∨ w.heap.size ≤ k := fun k q => (HK2.out k q).imp_right (fun r => Nat.le_trans HWS.out r)
        have hq := (act_pass (s := s) (a := a) k0 (Or.inr k2)).2
        refine ⟨_, F4, rfl, by rw [hq]; exact hBK, hF4, hD, ?_⟩
        rw [← SGG.out, ← SEE.out, ← SDD.out]
        exact ⟨A1, c1, A2, c2, rfl, hst⟩
      · have d2 : (a.f0 % 8 == 2) = false := beq_eq_false_iff_ne.2 k2
        by_cases k3 : a.f0 % 8 = 3
        · have d3 : (a.f0 % 8 == 3) = true := beq_iff_eq.2 k3
          obtain ⟨z0, z1, z2⟩ := three XB_11.out
          obtain ⟨y0, y1, y2, y3, y4, y5, y6, y7, y8, y9, y10⟩ := cells11 AX_12.out
          go_wp2_with fail
          try any_goals (exfalso; omega)
          with_reducible refine (Revoke_calls base g F w3 s.day s.G s.E a.f1 a.f3 HBK_9.out HT.out).mono ?_
          rintro e w40 ⟨he, hg⟩
          obtain ⟨x, y, hx, hy, rfl⟩ := tup_any he
          have HX := lhid hx
          have HY := lhid hy
          clear hx hy he
          obtain ⟨F4, k1, k2, k3, k4, k5, k6⟩ := do_stay HS0.out HQ0.out HB_10.out hg
          have HK1 := lhid k1
          have HK2 := lhid k2
          have HK3 := lhid k3
          have HK4 := lhid k4
          have HK5 := lhid k5
          have hxk := hg.choose_spec.2.2
          have XB4 := lhid (hxk.blk XB_11.out (fun q => by have h1 := HFB.out _ q; have h2 := HNE.out; omega))
          have AX4 := lhid (hxk.blk AX_12.out (fun q => by have h1 := HFB.out _ q; have h2 := HNE.out; omega))
          have RZ4 := lhid (hxk.blk RZ_13.out (fun q => by have h1 := HFB.out _ q; have h2 := HNE.out; omega))
          have HN4 := lhid (show ¬ F4 rb from fun q => by
            have h2 := HNE.out
            rcases k2 rb q with r | r
            · have h1 := HFB.out _ r; omega
            · omega)
          have HIN := lhid (show (F4 rb ∨ Q rb) ∨ (w.heap.size ≤ rb ∧ rb < w3.heap.size) from Or.inr (by have h2 := HNE.out; omega))
          clear hg k1 k2 k3 k4 k5 k6 hxk
          clear y0 y1 y2 y3 y4 y5 y6 y7 y8 y9 y10
          clear z0 z1 z2
          obtain ⟨z0, z1, z2⟩ := three XB4.out
          obtain ⟨y0, y1, y2, y3, y4, y5, y6, y7, y8, y9, y10⟩ := cells11 AX4.out
          go_wp2_with fail
          try any_goals (exfalso; omega)
          with_reducible refine (Revoke_r (fun k => (F4 k ∨ Q k) ∨ (w.heap.size ≤ k ∧ k < w3.heap.size)) w40 AG cG G AE cE E day a.f1 a.f3 HK4.out HK5.out HTR.out HEL.out HIR.out).mono ?_
          rintro e w50 ⟨vb, rfl, ⟨A1, c1, A2, c2, rfl, hR⟩, hb⟩
          have HRK := lhid hR
          have HB5 := lhid hb
          clear hR
          clear y0 y1 y2 y3 y4 y5 y6 y7 y8 y9 y10
          clear z0 z1 z2
          have HBK_401 := lhid (HK1.out.next hb)
          have XB_402 := lhid (blk_below XB4.out hb)
          have AX_403 := lhid (blk_below AX4.out hb)
          have RZ_404 := lhid (blk_below RZ4.out hb)
          clear HK1 XB4 AX4 RZ4 hb
          have q1 : (if revC G a.f1 a.f3 = 0 then put8 G a.f1.toNat true else G) = refS s M a := by rw [HGE.out]; exact (ref_revoke HM.out (a := a) k3).1
          have q2 : revC G a.f1 a.f3 = y := by rw [HGE.out, HY.out]; exact (ref_revoke HM.out (a := a) k3).2.1
          have q3 : (if revC G a.f1 a.f3 = 0 then revN day G a.f1 else 0) = x := by
            rw [HGE.out, HDE.out, HX.out, (ref_revoke HM.out (a := a) k3).2.1]
            by_cases z : revC s.G a.f1 a.f3 = 0
            · rw [if_pos z, if_pos z]; exact (ref_revoke HM.out (a := a) k3).2.2 z
            · rw [if_neg z, if_neg z]
          rw [q1] at HRK ⊢
          rw [q3, q2]
          clear q1 q2 q3
          obtain ⟨E9, hE9⟩ : ∃ q, q = E := ⟨_, rfl⟩
          have SEE := lhid (show E9 = (stepS s a).E by rw [hE9]; first | done | (rw [(act_revoke (s := s) (a := a) k3).2]; try exact HEE.out))
          obtain ⟨d9, hd9⟩ : ∃ q, q = day := ⟨_, rfl⟩
          have SDD := lhid (show d9 = (stepS s a).day by rw [hd9]; first | done | (rw [(act_revoke (s := s) (a := a) k3).2]; try exact HDE.out))
          rw [← hE9] at HRK
          rw [← hE9, ← hd9]
          obtain ⟨G9, hG9⟩ : ∃ q, q = refS s M a := ⟨_, rfl⟩
          have SGG := lhid (show G9 = refS s M a by rw [hG9]; first | done | (first | done | rfl))
          rw [← hG9] at HRK
          rw [← hG9]
          clear hG9 hE9 hd9
          have HB60 := lhid (Below.refl w50.heap.size w50)
          go_upto_region 14 with (fail)
          try any_goals (exfalso; omega)
          have hb := below_alloc (Below.refl w50.heap.size w50) (.cells #[.slice A1 G9.length c1, .slice A2 E9.length c2, .int .i64 d9] 51)
          have hn := blk_new w50 (.cells #[.slice A1 G9.length c1, .slice A2 E9.length c2, .int .i64 d9] 51)
          have HZ51 := lhid (show (World.alloc w50 (.cells #[.slice A1 G9.length c1, .slice A2 E9.length c2, .int .i64 d9] 51)).heap.size = w50.heap.size + 1 from by simp)
          generalize hq : World.alloc w50 (.cells #[.slice A1 G9.length c1, .slice A2 E9.length c2, .int .i64 d9] 51) = w51 at hb hn HZ51 ⊢
          clear hq
          have HBK_405 := lhid (HBK_401.out.next hb)
          have XB_406 := lhid (blk_below XB_402.out hb)
          have AX_407 := lhid (blk_below AX_403.out hb)
          have RZ_408 := lhid (blk_below RZ_404.out hb)
          have B6_409 := lhid (below_then HB60.out HB60.out.size hb)
          clear HBK_401 XB_402 AX_403 RZ_404 HB60 hb
          have NB_410 := lhid (hn)
          clear hn
          obtain ⟨nb, hnb⟩ : ∃ z, z = w50.heap.size := ⟨_, rfl⟩
          rw [← hnb] at NB_410 ⊢
          clear hnb
          skip
          obtain ⟨n0, n1, n2⟩ := three NB_410.out
          obtain ⟨r0, r1, r2⟩ := three RZ_408.out
          have hfz : ∀ o, w51.frozen? ⟨rb, o, none⟩ = false := fun o => blk_frozen RZ_408.out o
          go_wp2_with fail
          clear n0 n1 n2 r0 r1 r2 hfz
          have hz1 := blk_put RZ_408.out 0 (.slice A1 G9.length c1) rfl
          have hz2 := blk_put hz1 1 (.slice A2 E9.length c2) rfl
          have hz3 := blk_put hz2 2 (.int .i64 d9) rfl
          have hBK := BK.set (BK.set (BK.set HBK_405.out (p := ⟨rb, 0, none⟩) HN4.out (.slice A1 G9.length c1)) (p := ⟨rb, 1, none⟩) HN4.out (.slice A2 E9.length c2)) (p := ⟨rb, 2, none⟩) HN4.out (.int .i64 d9)
          have HB6 := lhid B6_409.out
          have hC := (((Chg.of_below (F := fun k => (F4 k ∨ Q k) ∨ (w.heap.size ≤ k ∧ k < w3.heap.size)) HB6.out).set (p := ⟨rb, 0, none⟩) (Or.inr HIN.out) (.slice A1 G9.length c1)).set (p := ⟨rb, 1, none⟩) (Or.inr HIN.out) (.slice A2 E9.length c2)).set (p := ⟨rb, 2, none⟩) (Or.inr HIN.out) (.int .i64 d9)
          have hD := ((((HK3.out.next HB5.out).next HB6.out).set (p := ⟨rb, 0, none⟩) (Or.inl HRG.out) (.slice A1 G9.length c1)).set (p := ⟨rb, 1, none⟩) (Or.inl HRG.out) (.slice A2 E9.length c2)).set (p := ⟨rb, 2, none⟩) (Or.inl HRG.out) (.int .i64 d9)
          clear hz1 hz2
          generalize (World.setCell (World.setCell (World.setCell w51 ⟨rb, 0, none⟩ (.slice A1 G9.length c1)) ⟨rb, 1, none⟩ (.slice A2 E9.length c2)) ⟨rb, 2, none⟩ (.int .i64 d9)) = w9 at hz3 hBK hC hD ⊢
          refine bodyPost_ret (results_ct rfl _ _ rb 51 #[(.slice A1 G9.length c1), (.slice A2 E9.length c2), (.int .i64 d9)] (0, 0) _ rfl hz3 Try.underlying51 rfl (by kernel_rfl)) rfl ?_
          have hst := HRK.out.next hC (P' := fun k => F4 k ∨ Q k) (fun k _ q => Or.inl q)
          have hF4 : ∀ k, F4 k → F k ∨ w.heap.size ≤ k := fun k q => (HK2.out k q).imp_right (fun r => Nat.le_trans HWS.out r)
          have hq := (act_revoke (s := s) (a := a) k3).2
          refine ⟨_, F4, rfl, by rw [hq]; exact hBK, hF4, hD, ?_⟩
          rw [← SGG.out, ← SEE.out, ← SDD.out]
          exact ⟨A1, c1, A2, c2, rfl, hst⟩
        · have d3 : (a.f0 % 8 == 3) = false := beq_eq_false_iff_ne.2 k3
          by_cases k7 : a.f0 % 8 = 7
          · have d7 : (a.f0 % 8 == 7) = true := beq_iff_eq.2 k7
            obtain ⟨z0, z1, z2⟩ := three XB_11.out
            obtain ⟨y0, y1, y2, y3, y4, y5, y6, y7, y8, y9, y10⟩ := cells11 AX_12.out
            go_wp2_with fail
            try any_goals (exfalso; omega)
            with_reducible refine (Next_calls base g F w3 s.day s.G s.E a.f10 HBK_9.out).mono ?_
            rintro e w40 ⟨he, hg⟩
            obtain ⟨y, hy, rfl⟩ := one_any he
            have HY := lhid hy
            clear hy he
            obtain ⟨F4, k1, k2, k3, k4, k5, k6⟩ := do_stay HS0.out HQ0.out HB_10.out hg
            have HK1 := lhid k1
            have HK2 := lhid k2
            have HK3 := lhid k3
            have HK4 := lhid k4
            have HK5 := lhid k5
            have hxk := hg.choose_spec.2.2
            have XB4 := lhid (hxk.blk XB_11.out (fun q => by have h1 := HFB.out _ q; have h2 := HNE.out; omega))
            have AX4 := lhid (hxk.blk AX_12.out (fun q => by have h1 := HFB.out _ q; have h2 := HNE.out; omega))
            have RZ4 := lhid (hxk.blk RZ_13.out (fun q => by have h1 := HFB.out _ q; have h2 := HNE.out; omega))
            have HN4 := lhid (show ¬ F4 rb from fun q => by
              have h2 := HNE.out
              rcases k2 rb q with r | r
              · have h1 := HFB.out _ r; omega
              · omega)
            have HIN := lhid (show (F4 rb ∨ Q rb) ∨ (w.heap.size ≤ rb ∧ rb < w3.heap.size) from Or.inr (by have h2 := HNE.out; omega))
            clear hg k1 k2 k3 k4 k5 k6 hxk
            clear y0 y1 y2 y3 y4 y5 y6 y7 y8 y9 y10
            clear z0 z1 z2
            obtain ⟨z0, z1, z2⟩ := three XB4.out
            obtain ⟨y0, y1, y2, y3, y4, y5, y6, y7, y8, y9, y10⟩ := cells11 AX4.out
            go_wp2_with fail
            try any_goals (exfalso; omega)
            with_reducible refine (Next_r (fun k => (F4 k ∨ Q k) ∨ (w.heap.size ≤ k ∧ k < w3.heap.size)) w40 AG cG G AE cE E day a.f10 HK4.out HK5.out HTR.out HEL.out).mono ?_
            rintro e w50 ⟨vb, rfl, ⟨A1, c1, A2, c2, rfl, hR⟩, hb⟩
            have HRK := lhid hR
            have HB5 := lhid hb
            clear hR
            clear y0 y1 y2 y3 y4 y5 y6 y7 y8 y9 y10
            clear z0 z1 z2
            have HBK_401 := lhid (HK1.out.next hb)
            have XB_402 := lhid (blk_below XB4.out hb)
            have AX_403 := lhid (blk_below AX4.out hb)
            have RZ_404 := lhid (blk_below RZ4.out hb)
            clear HK1 XB4 AX4 RZ4 hb
            have q2 : nextC day a.f10 = y := by rw [HDE.out, HY.out]
            rw [q2]
            clear q2
            obtain ⟨E9, hE9⟩ : ∃ q, q = E := ⟨_, rfl⟩
            have SEE := lhid (show E9 = (stepS s a).E by rw [hE9]; first | done | (rw [(act_next (s := s) (a := a) k7).2]; try exact HEE.out))
            obtain ⟨d9, hd9⟩ : ∃ q, q = nRD day a.f10 := ⟨_, rfl⟩
            have SDD := lhid (show d9 = (stepS s a).day by rw [hd9]; first | done | (rw [HDE.out]; exact (ref_next HM.out (a := a) k7).2))
            rw [← hE9] at HRK
            rw [← hE9, ← hd9]
            obtain ⟨G9, hG9⟩ : ∃ q, q = G := ⟨_, rfl⟩
            have SGG := lhid (show G9 = refS s M a by rw [hG9]; first | done | (rw [HGE.out]; exact (ref_next HM.out (a := a) k7).1))
            rw [← hG9] at HRK
            rw [← hG9]
            clear hG9 hE9 hd9
            have HB60 := lhid (Below.refl w50.heap.size w50)
            go_upto_region 18 with (fail)
            try any_goals (exfalso; omega)
            have hb := below_alloc (Below.refl w50.heap.size w50) (.cells #[.slice A1 G9.length c1, .slice A2 E9.length c2, .int .i64 d9] 51)
            have hn := blk_new w50 (.cells #[.slice A1 G9.length c1, .slice A2 E9.length c2, .int .i64 d9] 51)
            have HZ51 := lhid (show (World.alloc w50 (.cells #[.slice A1 G9.length c1, .slice A2 E9.length c2, .int .i64 d9] 51)).heap.size = w50.heap.size + 1 from by simp)
            generalize hq : World.alloc w50 (.cells #[.slice A1 G9.length c1, .slice A2 E9.length c2, .int .i64 d9] 51) = w51 at hb hn HZ51 ⊢
            clear hq
            have HBK_405 := lhid (HBK_401.out.next hb)
            have XB_406 := lhid (blk_below XB_402.out hb)
            have AX_407 := lhid (blk_below AX_403.out hb)
            have RZ_408 := lhid (blk_below RZ_404.out hb)
            have B6_409 := lhid (below_then HB60.out HB60.out.size hb)
            clear HBK_401 XB_402 AX_403 RZ_404 HB60 hb
            have NB_410 := lhid (hn)
            clear hn
            obtain ⟨nb, hnb⟩ : ∃ z, z = w50.heap.size := ⟨_, rfl⟩
            rw [← hnb] at NB_410 ⊢
            clear hnb
            skip
            obtain ⟨n0, n1, n2⟩ := three NB_410.out
            obtain ⟨r0, r1, r2⟩ := three RZ_408.out
            have hfz : ∀ o, w51.frozen? ⟨rb, o, none⟩ = false := fun o => blk_frozen RZ_408.out o
            go_wp2_with fail
            clear n0 n1 n2 r0 r1 r2 hfz
            have hz1 := blk_put RZ_408.out 0 (.slice A1 G9.length c1) rfl
            have hz2 := blk_put hz1 1 (.slice A2 E9.length c2) rfl
            have hz3 := blk_put hz2 2 (.int .i64 d9) rfl
            have hBK := BK.set (BK.set (BK.set HBK_405.out (p := ⟨rb, 0, none⟩) HN4.out (.slice A1 G9.length c1)) (p := ⟨rb, 1, none⟩) HN4.out (.slice A2 E9.length c2)) (p := ⟨rb, 2, none⟩) HN4.out (.int .i64 d9)
            have HB6 := lhid B6_409.out
            have hC := (((Chg.of_below (F := fun k => (F4 k ∨ Q k) ∨ (w.heap.size ≤ k ∧ k < w3.heap.size)) HB6.out).set (p := ⟨rb, 0, none⟩) (Or.inr HIN.out) (.slice A1 G9.length c1)).set (p := ⟨rb, 1, none⟩) (Or.inr HIN.out) (.slice A2 E9.length c2)).set (p := ⟨rb, 2, none⟩) (Or.inr HIN.out) (.int .i64 d9)
            have hD := ((((HK3.out.next HB5.out).next HB6.out).set (p := ⟨rb, 0, none⟩) (Or.inl HRG.out) (.slice A1 G9.length c1)).set (p := ⟨rb, 1, none⟩) (Or.inl HRG.out) (.slice A2 E9.length c2)).set (p := ⟨rb, 2, none⟩) (Or.inl HRG.out) (.int .i64 d9)
            clear hz1 hz2
            generalize (World.setCell (World.setCell (World.setCell w51 ⟨rb, 0, none⟩ (.slice A1 G9.length c1)) ⟨rb, 1, none⟩ (.slice A2 E9.length c2)) ⟨rb, 2, none⟩ (.int .i64 d9)) = w9 at hz3 hBK hC hD ⊢
            refine bodyPost_ret (results_ct rfl _ _ rb 51 #[(.slice A1 G9.length c1), (.slice A2 E9.length c2), (.int .i64 d9)] (0, 0) _ rfl hz3 Try.underlying51 rfl (by kernel_rfl)) rfl ?_
            have hst := HRK.out.next hC (P' := fun k => F4 k ∨ Q k) (fun k _ q => Or.inl q)
            have hF4 : ∀ k, F4 k → F k ∨ w.heap.size ≤ k := fun k q => (HK2.out k q).imp_right (fun r => Nat.le_trans HWS.out r)
            have hq := (act_next (s := s) (a := a) k7).2
            refine ⟨_, F4, rfl, by rw [hq]; exact hBK, hF4, hD, ?_⟩
            rw [← SGG.out, ← SEE.out, ← SDD.out]
            exact ⟨A1, c1, A2, c2, rfl, hst⟩
          · have d7 : (a.f0 % 8 == 7) = false := beq_eq_false_iff_ne.2 k7
            obtain ⟨z0, z1, z2⟩ := three XB_11.out
            obtain ⟨y0, y1, y2, y3, y4, y5, y6, y7, y8, y9, y10⟩ := cells11 AX_12.out
            go_wp2_with fail
            try any_goals (exfalso; omega)
            with_reducible refine (Open_calls base g F w3 s.day s.G s.E a.f10 a.f1 a.f3 a.f2 a.f4 HBK_9.out HI.out).mono ?_
            rintro e w40 ⟨he, hg⟩
            obtain ⟨y, hy, rfl⟩ := one_any he
            have HY := lhid hy
            clear hy he
            obtain ⟨F4, k1, k2, k3, k4, k5, k6⟩ := do_stay HS0.out HQ0.out HB_10.out hg
            have HK1 := lhid k1
            have HK2 := lhid k2
            have HK3 := lhid k3
            have HK4 := lhid k4
            have HK5 := lhid k5
            have hxk := hg.choose_spec.2.2
            have XB4 := lhid (hxk.blk XB_11.out (fun q => by have h1 := HFB.out _ q; have h2 := HNE.out; omega))
            have AX4 := lhid (hxk.blk AX_12.out (fun q => by have h1 := HFB.out _ q; have h2 := HNE.out; omega))
            have RZ4 := lhid (hxk.blk RZ_13.out (fun q => by have h1 := HFB.out _ q; have h2 := HNE.out; omega))
            have HN4 := lhid (show ¬ F4 rb from fun q => by
              have h2 := HNE.out
              rcases k2 rb q with r | r
              · have h1 := HFB.out _ r; omega
              · omega)
            have HIN := lhid (show (F4 rb ∨ Q rb) ∨ (w.heap.size ≤ rb ∧ rb < w3.heap.size) from Or.inr (by have h2 := HNE.out; omega))
            clear hg k1 k2 k3 k4 k5 k6 hxk
            clear y0 y1 y2 y3 y4 y5 y6 y7 y8 y9 y10
            clear z0 z1 z2
            obtain ⟨z0, z1, z2⟩ := three XB4.out
            obtain ⟨y0, y1, y2, y3, y4, y5, y6, y7, y8, y9, y10⟩ := cells11 AX4.out
            go_wp2_with fail
            try any_goals (exfalso; omega)
            with_reducible refine (Open_r (fun k => (F4 k ∨ Q k) ∨ (w.heap.size ≤ k ∧ k < w3.heap.size)) w40 AG cG G AE cE E day a.f10 a.f1 a.f3 a.f2 a.f4 HK4.out HK5.out HTR.out HEL.out HER.out HUR.out).mono ?_
            rintro e w50 ⟨vb, rfl, ⟨A1, c1, A2, c2, rfl, hR⟩, hb⟩
            have HRK := lhid hR
            have HB5 := lhid hb
            clear hR
            clear y0 y1 y2 y3 y4 y5 y6 y7 y8 y9 y10
            clear z0 z1 z2
            have HBK_401 := lhid (HK1.out.next hb)
            have XB_402 := lhid (blk_below XB4.out hb)
            have AX_403 := lhid (blk_below AX4.out hb)
            have RZ_404 := lhid (blk_below RZ4.out hb)
            clear HK1 XB4 AX4 RZ4 hb
            have q2 : oRC day G E a.f10 a.f1 a.f3 a.f2 a.f4 = y := by rw [HGE.out, HEE.out, HDE.out, HY.out]; exact HM.out.open_ _ _ _ _ _ (by rw [← HEE.out]; exact HEL.out)
            rw [q2]
            clear q2
            obtain ⟨E9, hE9⟩ : ∃ q, q = oRE day G E a.f10 a.f1 a.f3 a.f2 a.f4 := ⟨_, rfl⟩
            have SEE := lhid (show E9 = (stepS s a).E by rw [hE9]; first | done | (rw [HGE.out, HEE.out, HDE.out]; exact (ref_open HM.out (a := a) k0 (fun z => z.elim k1 k2) k3 k7 (by rw [← HEE.out]; exact HEL.out)).2))
            obtain ⟨d9, hd9⟩ : ∃ q, q = day := ⟨_, rfl⟩
            have SDD := lhid (show d9 = (stepS s a).day by rw [hd9]; first | done | (rw [(act_open (s := s) (a := a) k0 (fun z => z.elim k1 k2) k3 k7).2]; try exact HDE.out))
            rw [← hE9] at HRK
            rw [← hE9, ← hd9]
            obtain ⟨G9, hG9⟩ : ∃ q, q = G := ⟨_, rfl⟩
            have SGG := lhid (show G9 = refS s M a by rw [hG9]; first | done | (rw [HGE.out]; exact (ref_open HM.out (a := a) k0 (fun z => z.elim k1 k2) k3 k7 (by rw [← HEE.out]; exact HEL.out)).1))
            rw [← hG9] at HRK
            rw [← hG9]
            clear hG9 hE9 hd9
            have HB60 := lhid (Below.refl w50.heap.size w50)
            go_upto_region 21 with (fail)
            try any_goals (exfalso; omega)
            have hb := below_alloc (Below.refl w50.heap.size w50) (.cells #[.slice A1 G9.length c1, .slice A2 E9.length c2, .int .i64 d9] 51)
            have hn := blk_new w50 (.cells #[.slice A1 G9.length c1, .slice A2 E9.length c2, .int .i64 d9] 51)
            have HZ51 := lhid (show (World.alloc w50 (.cells #[.slice A1 G9.length c1, .slice A2 E9.length c2, .int .i64 d9] 51)).heap.size = w50.heap.size + 1 from by simp)
            generalize hq : World.alloc w50 (.cells #[.slice A1 G9.length c1, .slice A2 E9.length c2, .int .i64 d9] 51) = w51 at hb hn HZ51 ⊢
            clear hq
            have HBK_405 := lhid (HBK_401.out.next hb)
            have XB_406 := lhid (blk_below XB_402.out hb)
            have AX_407 := lhid (blk_below AX_403.out hb)
            have RZ_408 := lhid (blk_below RZ_404.out hb)
            have B6_409 := lhid (below_then HB60.out HB60.out.size hb)
            clear HBK_401 XB_402 AX_403 RZ_404 HB60 hb
            have NB_410 := lhid (hn)
            clear hn
            obtain ⟨nb, hnb⟩ : ∃ z, z = w50.heap.size := ⟨_, rfl⟩
            rw [← hnb] at NB_410 ⊢
            clear hnb
            skip
            obtain ⟨n0, n1, n2⟩ := three NB_410.out
            obtain ⟨r0, r1, r2⟩ := three RZ_408.out
            have hfz : ∀ o, w51.frozen? ⟨rb, o, none⟩ = false := fun o => blk_frozen RZ_408.out o
            go_wp2_with fail
            clear n0 n1 n2 r0 r1 r2 hfz
            have hz1 := blk_put RZ_408.out 0 (.slice A1 G9.length c1) rfl
            have hz2 := blk_put hz1 1 (.slice A2 E9.length c2) rfl
            have hz3 := blk_put hz2 2 (.int .i64 d9) rfl
            have hBK := BK.set (BK.set (BK.set HBK_405.out (p := ⟨rb, 0, none⟩) HN4.out (.slice A1 G9.length c1)) (p := ⟨rb, 1, none⟩) HN4.out (.slice A2 E9.length c2)) (p := ⟨rb, 2, none⟩) HN4.out (.int .i64 d9)
            have HB6 := lhid B6_409.out
            have hC := (((Chg.of_below (F := fun k => (F4 k ∨ Q k) ∨ (w.heap.size ≤ k ∧ k < w3.heap.size)) HB6.out).set (p := ⟨rb, 0, none⟩) (Or.inr HIN.out) (.slice A1 G9.length c1)).set (p := ⟨rb, 1, none⟩) (Or.inr HIN.out) (.slice A2 E9.length c2)).set (p := ⟨rb, 2, none⟩) (Or.inr HIN.out) (.int .i64 d9)
            have hD := ((((HK3.out.next HB5.out).next HB6.out).set (p := ⟨rb, 0, none⟩) (Or.inl HRG.out) (.slice A1 G9.length c1)).set (p := ⟨rb, 1, none⟩) (Or.inl HRG.out) (.slice A2 E9.length c2)).set (p := ⟨rb, 2, none⟩) (Or.inl HRG.out) (.int .i64 d9)
            clear hz1 hz2
            generalize (World.setCell (World.setCell (World.setCell w51 ⟨rb, 0, none⟩ (.slice A1 G9.length c1)) ⟨rb, 1, none⟩ (.slice A2 E9.length c2)) ⟨rb, 2, none⟩ (.int .i64 d9)) = w9 at hz3 hBK hC hD ⊢
            refine bodyPost_ret (results_ct rfl _ _ rb 51 #[(.slice A1 G9.length c1), (.slice A2 E9.length c2), (.int .i64 d9)] (0, 0) _ rfl hz3 Try.underlying51 rfl (by kernel_rfl)) rfl ?_
            have hst := HRK.out.next hC (P' := fun k => F4 k ∨ Q k) (fun k _ q => Or.inl q)
            have hF4 : ∀ k, F4 k → F k ∨ w.heap.size ≤ k := fun k q => (HK2.out k q).imp_right (fun r => Nat.le_trans HWS.out r)
            have hq := (act_open (s := s) (a := a) k0 (fun z => z.elim k1 k2) k3 k7).2
            refine ⟨_, F4, rfl, by rw [hq]; exact hBK, hF4, hD, ?_⟩
            rw [← SGG.out, ← SEE.out, ← SDD.out]
            exact ⟨A1, c1, A2, c2, rfl, hst⟩
end Go.Proofs.Ytfnlghjkjmppdaa.PC
end
section
namespace Go.Proofs.Ytfnlghjkjmppdaa.PC
open Go.RowKit Go.Proofs.YtfnlghjkjmppdaaW.PrintWords Go.Proofs.YtfnlghjkjmppdaaW.PrintLast Go.Proofs.YtfnlghjkjmppdaaW.PrintMore
set_option linter.unusedVariables false
set_option linter.unusedSimpArgs false
def PlayQ (Q F0 : Nat → Prop) (ws : World) (base : Nat) (w : World) (g rb : Nat) (s : St) (M : List Int) : Prop := ∃ F AG cG AE cE, BK base F w g s.day s.G s.E ∧ (∀ k, Q k → ¬ F k ∧ base ≤ k ∧ k < ws.heap.size) ∧ Q rb ∧ w.heap[rb]? = some (.cells #[.slice AG (refG s.G M).length cG, .slice AE s.E.length cE, .int .i64 s.day] 51) ∧ Stay (fun k => F k ∨ Q k) w AG cG (refG s.G M) AE cE s.E ∧ (∀ k, F k → F0 k ∨ ws.heap.size ≤ k) ∧ Chg (fun k => F0 k ∨ k = rb) ws w
theorem PlayQ.next {Q F0 : Nat → Prop} {ws : World} {base : Nat} {w w' : World} {g rb : Nat} {s : St} {M : List Int} (h : PlayQ Q F0 ws base w g rb s M) (hb : Below w.heap.size w w') : PlayQ Q F0 ws base w' g rb s M := by
  obtain ⟨F, AG, cG, AE, cE, h1, h2, h3, h4, h5, h6, h7⟩ := h
  exact ⟨F, AG, cG, AE, cE, h1.next hb, h2, h3, blk_below h4 hb, h5.next (Chg.of_below hb) (fun _ _ q => q), h6, h7.next hb⟩
theorem PlayQ.step {Q F0 F F4 : Nat → Prop} {ws w w9 : World} {base g rb : Nat} {t : St} {N : List Int} {A1 A2 : Option Addr} {c1 c2 : Nat} {bk : Array Value}
    (hF : ∀ k, F k → base ≤ k ∧ k < w.heap.size) (h2 : ∀ k, Q k → ¬ F k ∧ base ≤ k ∧ k < ws.heap.size) (h3 : Q rb) (h4 : w.heap[rb]? = some (.cells bk 51)) (hk : bk.size = 3) (h6 : ∀ k, F k → F0 k ∨ ws.heap.size ≤ k) (h7 : Chg (fun k => F0 k ∨ k = rb) ws w)
    (k1 : BK base F4 w9 g t.day t.G t.E) (k2 : ∀ k, F4 k → F k ∨ w.heap.size ≤ k) (k3 : Chg F w w9) (k4 : Stay (fun k => F4 k ∨ Q k) w9 A1 c1 (refG t.G N) A2 c2 t.E) :
    PlayQ Q F0 ws base (World.setCell (World.setCell (World.setCell w9 ⟨rb, 0, none⟩ (.slice A1 (refG t.G N).length c1)) ⟨rb, 1, none⟩ (.slice A2 t.E.length c2)) ⟨rb, 2, none⟩ (.int .i64 t.day)) g rb t N := by
  obtain ⟨v0, v1, v2, rfl⟩ : ∃ v0 v1 v2, bk = #[v0, v1, v2] := by
    match bk, hk with
    | ⟨[v0, v1, v2]⟩, _ => exact ⟨v0, v1, v2, rfl⟩
  have hws := h7.size
  have hn4 : ∀ k, Q k → ¬ F4 k := fun k q z => by
    rcases k2 k z with r | r
    · exact (h2 k q).1 r
    · have := (h2 k q).2.2; omega
  have hr := hn4 rb h3
  have K5 := k3.blk h4 (h2 rb h3).1
  have hz1 := blk_put K5 0 (.slice A1 (refG t.G N).length c1) rfl
  have hz2 := blk_put hz1 1 (.slice A2 t.E.length c2) rfl
  have hz3 := blk_put hz2 2 (.int .i64 t.day) rfl
  refine ⟨F4, A1, c1, A2, c2, BK.set (BK.set (BK.set k1 (p := ⟨rb, 0, none⟩) hr _) (p := ⟨rb, 1, none⟩) hr _) (p := ⟨rb, 2, none⟩) hr _, fun k q => ⟨hn4 k q, (h2 k q).2⟩, h3, hz3, ?_, fun k z => ?_, ?_⟩
  · exact k4.next ((((Chg.refl (fun k => F4 k ∨ Q k) w9).set (p := ⟨rb, 0, none⟩) (Or.inr (Or.inr h3)) _).set (p := ⟨rb, 1, none⟩) (Or.inr (Or.inr h3)) _).set (p := ⟨rb, 2, none⟩) (Or.inr (Or.inr h3)) _) (fun _ _ q => q)
  · rcases k2 k z with r | r
    · exact h6 k r
    · exact Or.inr (by omega)
  · have hc : Chg (fun k => F0 k ∨ k = rb) ws w9 := h7.trans k3 (fun i hi q => (h6 i q).elim Or.inl (fun z => by omega))
    exact ((hc.set (p := ⟨rb, 0, none⟩) (Or.inr (Or.inr rfl)) _).set (p := ⟨rb, 1, none⟩) (Or.inr (Or.inr rfl)) _).set (p := ⟨rb, 2, none⟩) (Or.inr (Or.inr rfl)) _
def madeF (s : St) (M : List Int) (l : List S37) : Nat → List Int
  | 0 => M
  | i + 1 => madeS (runS s (l.take i)) (madeF s M l i) (l.getD i z37)
theorem madeF_s {s : St} {M : List Int} (h : Same s M) (l : List S37) : ∀ i, i ≤ l.length → Same (runS s (l.take i)) (madeF s M l i)
  | 0, _ => h
  | i + 1, hi => by
    rw [runS_take s l i (by omega)]
    exact same_step (madeF_s h l i (by omega)) _
end Go.Proofs.Ytfnlghjkjmppdaa.PC
end
section
namespace Go.Proofs.Ytfnlghjkjmppdaa.PC
open Go.RowKit Go.Proofs.YtfnlghjkjmppdaaW.PrintWords Go.Proofs.YtfnlghjkjmppdaaW.PrintLast Go.Proofs.YtfnlghjkjmppdaaW.PrintMore
set_option linter.unusedVariables false
set_option linter.unusedSimpArgs false
set_option maxHeartbeats 12800000 in
set_option maxRecDepth 100000 in
theorem played_calls (A0 : Option Addr) (c0 : Nat) (l0 : List S37) (w : World) (hr0 : Kd.C k37 w A0 l0.length l0) (hc0 : l0.length ≤ c0) (hk0 : ∀ x ∈ l0, 0 ≤ x.f0 ∧ x.f0 < 256) (hf : l0.length ≤ 40) : Calls Try.prog 27 #[.slice A0 l0.length c0] w fun e w' => ∃ g F AG cG AE cE, e = .returned (.tuple #[.pointer (some ⟨g, 0, none⟩), .agg #[.slice AG (refG (runS s0 l0).G (madeF s0 [] l0 l0.length)).length cG, .slice AE (runS s0 l0).E.length cE, .int .i64 (runS s0 l0).day], .bool true]) ∧ BK w.heap.size F w' g (runS s0 l0).day (runS s0 l0).G (runS s0 l0).E ∧ Below w.heap.size w w' ∧ Stay F w' AG cG (refG (runS s0 l0).G (madeF s0 [] l0 l0.length)) AE cE (runS s0 l0).E := by
  have hu37 := Try.underlying37
  have hu51 := Try.underlying51
  have HR0 := lhid hr0
  have HC0 := lhid hc0
  have HK0 := lhid hk0
  clear hr0 hc0 hk0
  go_enter Try.func27, Try.ntmps27
  have HB_1 := lhid (Below.refl w.heap.size w)
  go_upto_region 1 with (fail)
  have hb := below_alloc (Below.refl w.heap.size w) (.cells #[.slice none 0 0, .slice none 0 0, .int .i64 0] 51)
  have hn := blk_new w (.cells #[.slice none 0 0, .slice none 0 0, .int .i64 0] 51)
  have HZ1 := lhid (show (World.alloc w (.cells #[.slice none 0 0, .slice none 0 0, .int .i64 0] 51)).heap.size = w.heap.size + 1 from by simp)
  generalize hq : World.alloc w (.cells #[.slice none 0 0, .slice none 0 0, .int .i64 0] 51) = w1 at hb hn HZ1 ⊢
  clear hq
  have HB_2 := lhid (below_then HB_1.out HB_1.out.size hb)
  clear HB_1 hb
  have QZ_3 := lhid (hn)
  clear hn
  obtain ⟨qb, hqb⟩ : ∃ q, q = w.heap.size := ⟨_, rfl⟩
  rw [← hqb] at QZ_3 ⊢
  have HQB := lhid hqb
  clear hqb
  go_wp2_with fail
  with_reducible refine (new_has w1).mono ?_
  rintro e w2 ⟨g, rfl, ⟨⟨F0, hk1⟩, hb, -⟩⟩
  have HSZ := lhid (show w1.heap.size ≤ w2.heap.size from hb.size)
  have HFQ := lhid (show ∀ k, F0 k → w.heap.size < k ∧ k < w2.heap.size from fun k q => by have h1 := hk1.fb k q; have h2 := HZ1.out; omega)
  have HBK := lhid (BK.lower hk1 (base' := w.heap.size) (by have h2 := HZ1.out; omega))
  clear hk1
  have HB_4 := lhid (below_then HB_2.out HB_2.out.size hb)
  have QZ_5 := lhid (blk_below QZ_3.out hb)
  clear HB_2 QZ_3 hb
  go_upto_region 3 with (fail)
  have hb := below_alloc (Below.refl w2.heap.size w2) (.cells #[.slice none 0 0, .slice none 0 0, .int .i64 0] 51)
  have hn := blk_new w2 (.cells #[.slice none 0 0, .slice none 0 0, .int .i64 0] 51)
  have HZ3 := lhid (show (World.alloc w2 (.cells #[.slice none 0 0, .slice none 0 0, .int .i64 0] 51)).heap.size = w2.heap.size + 1 from by simp)
  generalize hq : World.alloc w2 (.cells #[.slice none 0 0, .slice none 0 0, .int .i64 0] 51) = w3 at hb hn HZ3 ⊢
  clear hq
  have HB_6 := lhid (below_then HB_4.out HB_4.out.size hb)
  have QZ_7 := lhid (blk_below QZ_5.out hb)
  have HBK_8 := lhid (HBK.out.next hb)
  clear HB_4 QZ_5 HBK hb
  have RZ_9 := lhid (hn)
  clear hn
  obtain ⟨rb, hrb⟩ : ∃ q, q = w2.heap.size := ⟨_, rfl⟩
  rw [← hrb] at RZ_9 ⊢
  have HRB := lhid hrb
  clear hrb
  have HQK := lhid (show ∀ k, (k = qb ∨ k = rb) → ¬ F0 k ∧ w.heap.size ≤ k ∧ k < w3.heap.size from fun k q => by have h1 := HQB.out; have h2 := HRB.out; have h3 := HZ3.out; have h4 := HFQ.out k; have h5 := HB_6.out.size; have h7 := HSZ.out; have h8 := HZ1.out; rcases q with q | q <;> refine ⟨fun z => ?_, ?_, ?_⟩ <;> (try have h6 := h4 z) <;> omega)
  obtain ⟨ws, hws⟩ : ∃ q : World, q = w3 := ⟨_, rfl⟩
  have HNE := lhid (show qb ≠ rb by have h1 := HQB.out; have h2 := HRB.out; have h3 := HZ1.out; have h4 := HSZ.out; omega)
  have HBW := lhid (show Below w.heap.size w ws by rw [hws]; exact HB_6.out)
  have HF0 := lhid (show ∀ k, (F0 k ∨ k = rb) → w.heap.size ≤ k from fun k q => q.elim (fun z => Nat.le_of_lt (HFQ.out k z).1) (fun z => by have h1 := (HQK.out rb (Or.inr rfl)).2.1; omega))
  rw [← hws] at HQK HBK_8 QZ_7 RZ_9 ⊢
  clear hws
  have HP0 := lhid (show PlayQ (fun k => k = qb ∨ k = rb) F0 ws w.heap.size ws g rb s0 [] from ⟨F0, none, 0, none, 0, HBK_8.out, HQK.out, Or.inr rfl, RZ_9.out, fun W' _ => ⟨Kd.C_nil _ _, Nat.le_refl _, Kd.C_nil _ _, Nat.le_refl _⟩, fun k q => Or.inl q, Chg.refl _ _⟩)
  have HQZ := lhid (show ws.heap[qb]? = some (.cells #[.slice none 0 0, .slice none 0 0, .int .i64 0] 51) from QZ_7.out)
  have HNQ := lhid (show ¬ (F0 qb ∨ qb = rb) from fun q => q.elim (HQK.out qb (Or.inl rfl)).1 (fun z => HNE.out z))
  clear HB_6 QZ_7 HBK_8 RZ_9
  go_upto_region 4 with (fail)
  try any_goals (exfalso; omega)
  go_loopw [7, 8] (fun ok t wr => ∃ i : Nat, i ≤ l0.length ∧ ok = .bool true ∧ t = .int .i64 i ∧ Hid (PlayQ (fun k => k = qb ∨ k = rb) F0 ws w.heap.size wr g rb (runS s0 (l0.take i)) (madeF s0 [] l0 i))) (fun ok t _ => l0.length - (intOf t).toNat)
  case atStart => exact ⟨0, Nat.zero_le _, rfl, rfl, HP0⟩
  case round =>
    obtain ⟨i, hi, rfl, rfl, HPr⟩ := hrel
    clear HP0
    by_cases hlt : i < l0.length
    · have hlt2 : (i : Int) < (l0.length : Int) := by omega
      have HSX := lhid (runS_take s0 l0 i hlt)
      have HSM := lhid (madeF_s same_new l0 i (by omega))
      have HMX := lhid (show madeF s0 [] l0 (i + 1) = madeS (runS s0 (l0.take i)) (madeF s0 [] l0 i) (l0.getD i z37) from rfl)
      have HEL := lhid (show (runS s0 (l0.take i)).E.length ≤ 100 by have h1 := (run_len (l0.take i) s0).2; rw [List.length_take] at h1; have h2 := (show s0.E.length + l0.length ≤ 100 by have h3 : s0.E.length = 0 := rfl; omega); omega)
      obtain ⟨x, hx⟩ : ∃ x, x = l0.getD i z37 := ⟨_, rfl⟩
      have HKX := lhid (HK0.out _ (mem_getD hlt))
      rw [← hx] at HSX HKX HMX
      obtain ⟨sv, hs⟩ : ∃ q : St, q = runS s0 (l0.take i) := ⟨_, rfl⟩
      obtain ⟨M1, hM⟩ : ∃ M1, M1 = madeF s0 [] l0 i := ⟨_, rfl⟩
      rw [← hs] at HSX HSM HMX HEL HPr
      rw [← hM] at HSM HMX HPr
      have HX := lhid hx
      clear hs hM hx
      obtain ⟨F, AG, cG, AE, cE, hbk, hq, hqr, hrz, hst, hf0, hch⟩ := HPr.out
      have HBK := lhid hbk
      have HQ := lhid hq
      have HQR := lhid hqr
      have HRZ := lhid hrz
      have HST := lhid hst
      have HF := lhid hf0
      have HCH := lhid hch
      clear hbk hq hqr hrz hst hf0 hch HPr
      have HBQ := lhid (show Bk w.heap.size F wr g sv from HBK.out)
      obtain ⟨ad, eA, -⟩ := at_T37 (Kd.C_below HR0.out (HBW.out.trans (HCH.out.below (by have h1 := HCH.out.size; have h2 := HBW.out.size; exact h2) HF0.out))) (i : Int) (by omega) (by omega)
      subst eA
      go_upto_region 6 with (fail)
      try any_goals (exfalso; omega)
      have hb := below_drew1 (Below.refl wr.heap.size wr)
      have HBK_10 := lhid (HBK.out.next hb)
      have RZ_11 := lhid (blk_below HRZ.out hb)
      have ST_12 := lhid (HST.out.next (Chg.of_below hb) (fun _ _ q => q))
      have CH_13 := lhid (HCH.out.next hb)
      have BQ_14 := lhid (show Bk w.heap.size F _ g sv from BK.next HBQ.out hb)
      clear HBK HRZ HST HCH HBQ hb
      refine start_ (n := 12) (S := fun w' => w'.cell? ⟨rb, 0, none⟩ = some (.slice AG (refG sv.G M1).length cG) ∧ w'.cell? ⟨rb, 1, none⟩ = some (.slice AE sv.E.length cE) ∧ w'.cell? ⟨rb, 2, none⟩ = some (.int .i64 sv.day) ∧ w'.cell? (ad.add (i * 11)) = some (.int .u8 x.f0) ∧ w'.cell? ⟨(ad.add (i * 11)).block, (ad.add (i * 11)).off + 1, none⟩ = some (.int .i64 x.f1) ∧ w'.cell? ⟨(ad.add (i * 11)).block, (ad.add (i * 11)).off + 2, none⟩ = some (.int .i64 x.f2) ∧ w'.cell? ⟨(ad.add (i * 11)).block, (ad.add (i * 11)).off + 3, none⟩ = some (.int .i64 x.f3) ∧ w'.cell? ⟨(ad.add (i * 11)).block, (ad.add (i * 11)).off + 4, none⟩ = some (.int .i64 x.f4) ∧ w'.cell? ⟨(ad.add (i * 11)).block, (ad.add (i * 11)).off + 5, none⟩ = some (.int .i64 x.f5) ∧ w'.cell? ⟨(ad.add (i * 11)).block, (ad.add (i * 11)).off + 6, none⟩ = some (.int .i64 x.f6) ∧ w'.cell? ⟨(ad.add (i * 11)).block, (ad.add (i * 11)).off + 7, none⟩ = some (.int .i64 x.f7) ∧ w'.cell? ⟨(ad.add (i * 11)).block, (ad.add (i * 11)).off + 8, none⟩ = some (.int .i64 x.f8) ∧ w'.cell? ⟨(ad.add (i * 11)).block, (ad.add (i * 11)).off + 9, none⟩ = some (.int .i64 x.f9) ∧ w'.cell? ⟨(ad.add (i * 11)).block, (ad.add (i * 11)).off + 10, none⟩ = some (.int .i64 x.f10)) (ds := [6, 10]) (lsb 12 0) (by kernel_rfl) rfl (by kernel_rfl) ⟨(three RZ_11.out).1, (three RZ_11.out).2.1, (three RZ_11.out).2.2, (by obtain ⟨ad', eA', x0, x1, x2, x3, x4, x5, x6, x7, x8, x9, x10⟩ := at_T37 (Kd.C_below HR0.out (HBW.out.trans (CH_13.out.below (by have h1 := CH_13.out.size; have h2 := HBW.out.size; exact h2) HF0.out))) (i : Int) (by omega) (by omega); cases eA'; simp only [rd_T37, Int.toNat_natCast] at x0; rw [HX.out]; exact x0), (by obtain ⟨ad', eA', x0, x1, x2, x3, x4, x5, x6, x7, x8, x9, x10⟩ := at_T37 (Kd.C_below HR0.out (HBW.out.trans (CH_13.out.below (by have h1 := CH_13.out.size; have h2 := HBW.out.size; exact h2) HF0.out))) (i : Int) (by omega) (by omega); cases eA'; simp only [rd_T37, Int.toNat_natCast] at x1; rw [HX.out]; exact x1), (by obtain ⟨ad', eA', x0, x1, x2, x3, x4, x5, x6, x7, x8, x9, x10⟩ := at_T37 (Kd.C_below HR0.out (HBW.out.trans (CH_13.out.below (by have h1 := CH_13.out.size; have h2 := HBW.out.size; exact h2) HF0.out))) (i : Int) (by omega) (by omega); cases eA'; simp only [rd_T37, Int.toNat_natCast] at x2; rw [HX.out]; exact x2), (by obtain ⟨ad', eA', x0, x1, x2, x3, x4, x5, x6, x7, x8, x9, x10⟩ := at_T37 (Kd.C_below HR0.out (HBW.out.trans (CH_13.out.below (by have h1 := CH_13.out.size; have h2 := HBW.out.size; exact h2) HF0.out))) (i : Int) (by omega) (by omega); cases eA'; simp only [rd_T37, Int.toNat_natCast] at x3; rw [HX.out]; exact x3), (by obtain ⟨ad', eA', x0, x1, x2, x3, x4, x5, x6, x7, x8, x9, x10⟩ := at_T37 (Kd.C_below HR0.out (HBW.out.trans (CH_13.out.below (by have h1 := CH_13.out.size; have h2 := HBW.out.size; exact h2) HF0.out))) (i : Int) (by omega) (by omega); cases eA'; simp only [rd_T37, Int.toNat_natCast] at x4; rw [HX.out]; exact x4), (by obtain ⟨ad', eA', x0, x1, x2, x3, x4, x5, x6, x7, x8, x9, x10⟩ := at_T37 (Kd.C_below HR0.out (HBW.out.trans (CH_13.out.below (by have h1 := CH_13.out.size; have h2 := HBW.out.size; exact h2) HF0.out))) (i : Int) (by omega) (by omega); cases eA'; simp only [rd_T37, Int.toNat_natCast] at x5; rw [HX.out]; exact x5), (by obtain ⟨ad', eA', x0, x1, x2, x3, x4, x5, x6, x7, x8, x9, x10⟩ := at_T37 (Kd.C_below HR0.out (HBW.out.trans (CH_13.out.below (by have h1 := CH_13.out.size; have h2 := HBW.out.size; exact h2) HF0.out))) (i : Int) (by omega) (by omega); cases eA'; simp only [rd_T37, Int.toNat_natCast] at x6; rw [HX.out]; exact x6), (by obtain ⟨ad', eA', x0, x1, x2, x3, x4, x5, x6, x7, x8, x9, x10⟩ := at_T37 (Kd.C_below HR0.out (HBW.out.trans (CH_13.out.below (by have h1 := CH_13.out.size; have h2 := HBW.out.size; exact h2) HF0.out))) (i : Int) (by omega) (by omega); cases eA'; simp only [rd_T37, Int.toNat_natCast] at x7; rw [HX.out]; exact x7), (by obtain ⟨ad', eA', x0, x1, x2, x3, x4, x5, x6, x7, x8, x9, x10⟩ := at_T37 (Kd.C_below HR0.out (HBW.out.trans (CH_13.out.below (by have h1 := CH_13.out.size; have h2 := HBW.out.size; exact h2) HF0.out))) (i : Int) (by omega) (by omega); cases eA'; simp only [rd_T37, Int.toNat_natCast] at x8; rw [HX.out]; exact x8), (by obtain ⟨ad', eA', x0, x1, x2, x3, x4, x5, x6, x7, x8, x9, x10⟩ := at_T37 (Kd.C_below HR0.out (HBW.out.trans (CH_13.out.below (by have h1 := CH_13.out.size; have h2 := HBW.out.size; exact h2) HF0.out))) (i : Int) (by omega) (by omega); cases eA'; simp only [rd_T37, Int.toNat_natCast] at x9; rw [HX.out]; exact x9), (by obtain ⟨ad', eA', x0, x1, x2, x3, x4, x5, x6, x7, x8, x9, x10⟩ := at_T37 (Kd.C_below HR0.out (HBW.out.trans (CH_13.out.below (by have h1 := CH_13.out.size; have h2 := HBW.out.size; exact h2) HF0.out))) (i : Int) (by omega) (by omega); cases eA'; simp only [rd_T37, Int.toNat_natCast] at x10; rw [HX.out]; exact x10)⟩ (fun hHeld => ?_)
      generalize wr.drew = w21 at HBK_10 RZ_11 ST_12 CH_13 BQ_14 hHeld ⊢
      refine pu 0 (some 23) 12 1 rfl rfl (v := ?_) (a' := ?_) ?_ ?_ ?_; rotate_left; (intro w'; go_simp; with_reducible rfl); rotate_left; (simp only [Act.put, pS]; rfl)
      refine pu 2 (some 25) 12 5 rfl rfl (v := ?_) (a' := ?_) ?_ ?_ ?_; rotate_left; (intro w'; go_simp; with_reducible rfl); rotate_left; (simp only [Act.put, pS]; rfl)
      refine pu 3 (some 26) 12 13 rfl rfl (v := ?_) (a' := ?_) ?_ ?_ ?_; rotate_left; (intro w'; go_simp; with_reducible rfl); rotate_left; (simp only [Act.put, pS]; rfl)
      refine pu 4 (some 27) 12 29 rfl rfl (v := ?_) (a' := ?_) ?_ ?_ ?_; rotate_left; (intro w'; go_simp; with_reducible rfl); rotate_left; (simp only [Act.put, pS]; rfl)
      refine tk 1 (some 24) 12 31 rfl rfl hHeld (v := ?_) (a' := ?_) ?_ ?_ ?_; rotate_left; (rintro w' ⟨s0, s1, s2, s3, s4, s5, s6, s7, s8, s9, s10, s11, s12, s13⟩; go_simp; with_reducible rfl); rotate_left; (simp only [Act.put, pS]; rfl)
      refine tk 5 (some 28) 12 63 rfl rfl hHeld (v := ?_) (a' := ?_) ?_ ?_ ?_; rotate_left; (rintro w' ⟨s0, s1, s2, s3, s4, s5, s6, s7, s8, s9, s10, s11, s12, s13⟩; go_simp; with_reducible rfl); rotate_left; (simp only [Act.put, pS]; rfl)
      refine last_ (i := 6) (N := some 29) (lsb 12 127) rfl rfl (by kernel_rfl) (by decide) (fun K hK => ?_)
      refine goes_ Try.func36 (by kernel_rfl) rfl #[.pointer (some ⟨g, 0, none⟩), .agg #[.slice AG (refG sv.G M1).length cG, .slice AE sv.E.length cE, .int .i64 sv.day], .agg #[.int .u8 x.f0, .int .i64 x.f1, .int .i64 x.f2, .int .i64 x.f3, .int .i64 x.f4, .int .i64 x.f5, .int .i64 x.f6, .int .i64 x.f7, .int .i64 x.f8, .int .i64 x.f9, .int .i64 x.f10]] (by rfl) rfl rfl (by (try simp only [List.map_toArray, List.map_cons, List.map_nil]); first | done | rfl) ?_
      with_reducible refine (do_calls w.heap.size g F _ sv M1 x AG cG (refG sv.G M1) AE cE sv.E sv.day BQ_14.out (fun k => k = qb ∨ k = rb) ST_12.out (fun k q => Nat.lt_of_lt_of_le (HQ.out k q).2.2 CH_13.out.size) HSM.out rfl rfl rfl HKX.out HEL.out).mono ?_
      rintro e w9 ⟨b, F4, rfl, h1, h2, h3, ⟨A1, c1, A2, c2, rfl, h4⟩⟩
      refine ⟨_, rfl, ?_⟩
      have K1 := lhid h1
      have K2 := lhid h2
      have K3 := lhid h3
      have K4 := lhid h4
      have K5 := lhid (h3.blk RZ_11.out (HQ.out _ HQR.out).1)
      clear h1 h2 h3 h4
      refine hK.out _ _ ?_
      clear hK K
      refine norm_ (a' := ?_) ?_ ?_
      rotate_left
      · show Act.put _ (some 29) _ = _
        simp only [Act.put, pS]
        rfl
      refine pu 7 (some 22) 12 255 rfl rfl (v := ?_) (a' := ?_) ?_ ?_ ?_; rotate_left; (intro w'; go_simp; with_reducible rfl); rotate_left; (simp only [Act.put, pS]; rfl)
      refine pu 8 (some 30) 12 511 rfl rfl (v := ?_) (a' := ?_) ?_ ?_ ?_; rotate_left; (intro w'; go_simp; with_reducible rfl); rotate_left; (simp only [Act.put, pS]; rfl)
      refine pu 9 (some 31) 12 1023 rfl rfl (v := ?_) (a' := ?_) ?_ ?_ ?_; rotate_left; (intro w'; go_simp; with_reducible rfl); rotate_left; (simp only [Act.put, pS]; rfl)
      refine last_ (i := 10) (N := none) (lsb 12 2047) rfl rfl (by kernel_rfl) (by decide) (fun K hK => ?_)
      obtain ⟨r0, r1, r2⟩ := three K5.out
      have hfz := fun o => blk_frozen K5.out o
      refine skip_ (w1 := ?_) (by rfl) rfl ?_ ?_
      rotate_left
      · go_simp
        rfl
      clear r0 r1 r2 hfz
      refine hK.out _ _ ?_
      clear hK K
      refine pu 11 (some 7) 12 4095 rfl rfl (v := ?_) (a' := ?_) ?_ ?_ ?_; rotate_left; (intro w'; go_simp; with_reducible rfl); rotate_left; (simp only [Act.put, pS]; rfl)
      refine done_ (by kernel_rfl) ?_
      
      have hp : PlayQ (fun k => k = qb ∨ k = rb) F0 ws w.heap.size (World.setCell (World.setCell (World.setCell w9 ⟨rb, 0, none⟩ (.slice A1 (refS sv M1 x).length c1)) ⟨rb, 1, none⟩ (.slice A2 (stepS sv x).E.length c2)) ⟨rb, 2, none⟩ (.int .i64 (stepS sv x).day)) g rb (stepS sv x) (madeS sv M1 x) := PlayQ.step (t := stepS sv x) (N := madeS sv M1 x) HBK_10.out.fb HQ.out HQR.out RZ_11.out rfl HF.out CH_13.out K1.out K2.out K3.out K4.out
      generalize (World.setCell (World.setCell (World.setCell w9 ⟨rb, 0, none⟩ (.slice A1 (refS sv M1 x).length c1)) ⟨rb, 1, none⟩ (.slice A2 (stepS sv x).E.length c2)) ⟨rb, 2, none⟩ (.int .i64 (stepS sv x).day)) = w30 at hp ⊢
      have HPN := lhid hp
      clear hp HBK_10 RZ_11 ST_12 CH_13 BQ_14 K1 K2 K3 K4 K5
      go_wp2_with fail
      try any_goals (exfalso; omega)
      go_roundw
      case rel => exact ⟨i + 1, by omega, rfl, by simp, lhid (by rw [HSX.out, HMX.out]; exact HPN.out)⟩
      case measure => simp [intOf]; omega
    have hie : i = l0.length := by omega
    subst hie
    rw [List.take_length] at HPr
    have hlt2 : ¬ (l0.length : Int) < (l0.length : Int) := by omega
    clear hi hlt
    have HQZ2 := lhid (show wr.heap[qb]? = some (.cells #[.slice none 0 0, .slice none 0 0, .int .i64 0] 51) by obtain ⟨_, _, _, _, _, _, _, _, _, _, _, z⟩ := HPr.out; exact z.blk HQZ.out HNQ.out)
    obtain ⟨s, hs⟩ : ∃ s : St, s = runS s0 l0 := ⟨_, rfl⟩
    obtain ⟨M, hM⟩ : ∃ M, M = madeF s0 [] l0 l0.length := ⟨_, rfl⟩
    rw [← hs, ← hM] at HPr
    have HSE := lhid hs
    have HME := lhid hM
    clear hs hM
    obtain ⟨F, AG, cG, AE, cE, hbk, hq, hqr, hrz, hst, hf0, hch⟩ := HPr.out
    have HBK := lhid hbk
    have HQ := lhid hq
    have HRZ := lhid hrz
    have HST := lhid hst
    have HBX := lhid (HBW.out.trans (hch.below HBW.out.size HF0.out))
    clear hbk hq hqr hrz hst hf0 hch HPr
    go_upto_region 7 with (fail)
    try any_goals (exfalso; omega)
    have hb := below_drew1 (Below.refl wr.heap.size wr)
    have HBK_15 := lhid (HBK.out.next hb)
    have RZ_16 := lhid (blk_below HRZ.out hb)
    have QZ_17 := lhid (blk_below HQZ2.out hb)
    have ST_18 := lhid (HST.out.next (Chg.of_below hb) (fun _ _ q => q))
    have HB_19 := lhid (below_then HBX.out HBX.out.size hb)
    clear HBK HRZ HQZ2 HST HBX hb
    refine start_ (n := 6) (S := fun w' => w'.cell? ⟨rb, 0, none⟩ = some (.slice AG (refG s.G M).length cG) ∧ w'.cell? ⟨rb, 1, none⟩ = some (.slice AE s.E.length cE) ∧ w'.cell? ⟨rb, 2, none⟩ = some (.int .i64 s.day)) (ds := [4]) (lsb 6 0) (by kernel_rfl) rfl (by kernel_rfl) ⟨(three RZ_16.out).1, (three RZ_16.out).2.1, (three RZ_16.out).2.2⟩ (fun hHeld => ?_)
    generalize wr.drew = w61 at HBK_15 RZ_16 QZ_17 ST_18 HB_19 hHeld ⊢
    refine pu 0 (some 32) 6 1 rfl rfl (v := ?_) (a' := ?_) ?_ ?_ ?_; rotate_left; (intro w'; go_simp; with_reducible rfl); rotate_left; (simp only [Act.put, pS]; rfl)
    refine pu 2 (some 34) 6 5 rfl rfl (v := ?_) (a' := ?_) ?_ ?_ ?_; rotate_left; (intro w'; go_simp; with_reducible rfl); rotate_left; (simp only [Act.put, pS]; rfl)
    refine pu 3 (some 2) 6 13 rfl rfl (v := ?_) (a' := ?_) ?_ ?_ ?_; rotate_left; (intro w'; go_simp; with_reducible rfl); rotate_left; (simp only [Act.put, pS]; rfl)
    refine tk 1 (some 33) 6 15 rfl rfl hHeld (v := ?_) (a' := ?_) ?_ ?_ ?_; rotate_left; (rintro w' ⟨s0, s1, s2⟩; go_simp; with_reducible rfl); rotate_left; (simp only [Act.put, pS]; rfl)
    refine last_ (i := 4) (N := none) (lsb 6 31) rfl rfl (by kernel_rfl) (by decide) (fun K hK => ?_)
    obtain ⟨r0, r1, r2⟩ := three QZ_17.out
    have hfz := fun o => blk_frozen QZ_17.out o
    refine skip_ (w1 := ?_) (by rfl) rfl ?_ ?_
    rotate_left
    · go_simp
      rfl
    clear r0 r1 r2 hfz
    refine hK.out _ _ ?_
    clear hK K
    refine pu 5 (some 4) 6 63 rfl rfl (v := ?_) (a' := ?_) ?_ ?_ ?_; rotate_left; (intro w'; go_simp; with_reducible rfl); rotate_left; (simp only [Act.put, pS]; rfl)
    refine done_ (by kernel_rfl) ?_
    
    go_wp2_with fail
    have hnq : ¬ F qb := (HQ.out qb (Or.inl rfl)).1
    have hbq : w.heap.size ≤ qb := (HQ.out qb (Or.inl rfl)).2.1
    have hz1 := blk_put QZ_17.out 0 (.slice AG (refG s.G M).length cG) rfl
    have hz2 := blk_put hz1 1 (.slice AE s.E.length cE) rfl
    have hz3 := blk_put hz2 2 (.int .i64 s.day) rfl
    have hBK := BK.set (BK.set (BK.set HBK_15.out (p := ⟨qb, 0, none⟩) hnq (.slice AG (refG s.G M).length cG)) (p := ⟨qb, 1, none⟩) hnq (.slice AE s.E.length cE)) (p := ⟨qb, 2, none⟩) hnq (.int .i64 s.day)
    have hB := ((HB_19.out.setCell (p := ⟨qb, 0, none⟩) hbq (.slice AG (refG s.G M).length cG)).setCell (p := ⟨qb, 1, none⟩) hbq (.slice AE s.E.length cE)).setCell (p := ⟨qb, 2, none⟩) hbq (.int .i64 s.day)
    have hC := (((Chg.refl (fun k => F k ∨ k = qb ∨ k = rb) w61).set (p := ⟨qb, 0, none⟩) (Or.inr (Or.inr (Or.inl rfl))) (.slice AG (refG s.G M).length cG)).set (p := ⟨qb, 1, none⟩) (Or.inr (Or.inr (Or.inl rfl))) (.slice AE s.E.length cE)).set (p := ⟨qb, 2, none⟩) (Or.inr (Or.inr (Or.inl rfl))) (.int .i64 s.day)
    have hS := ST_18.out.next hC (P' := F) (fun _ _ q => Or.inl q)
    clear hz1 hz2 hC
    generalize (World.setCell (World.setCell (World.setCell w61 ⟨qb, 0, none⟩ (.slice AG (refG s.G M).length cG)) ⟨qb, 1, none⟩ (.slice AE s.E.length cE)) ⟨qb, 2, none⟩ (.int .i64 s.day)) = w90 at hz3 hBK hB hS ⊢
    refine bodyPost_ret (results_list (rs := [.tmp 2, .cell 3 51, .tmp 4]) rfl (by simp) (.tmp (.cell qb 51 #[(.slice AG (refG s.G M).length cG), (.slice AE s.E.length cE), (.int .i64 s.day)] (0, 0) _ rfl hz3 Try.underlying51 rfl (by kernel_rfl) (.tmp .nil)))) rfl ?_
    have h1 := HSE.out
    have h2 := HME.out
    subst h1 h2
    exact ⟨g, F, AG, cG, AE, cE, rfl, hBK, hB, hS⟩
end Go.Proofs.Ytfnlghjkjmppdaa.PC
end
