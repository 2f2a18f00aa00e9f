/-
  The texts that the theorem in YthfdjccdelbeeaaZRowPl rests on, merged (part 12); only what it reaches.
-/
import Derived.Test.YthfdjccdelbeeaaZPl2
import Derived.Test.YthfdjccdelbeeaaZPl4
import Derived.Test.YthfdjccdelbeeaaZPl5
import Derived.Test.YthfdjccdelbeeaaZPl7
import Derived.Test.YthfdjccdelbeeaaZPl10
section
namespace Go.Proofs.Ythfdjccdelbeeaa.PT
open Go.RowKit Go.Proofs.YthfdjccdelbeeaaW.PrintWords Go.Proofs.YthfdjccdelbeeaaW.PrintLast Go.Proofs.YthfdjccdelbeeaaW.PrintMore
set_option linter.unusedVariables false
set_option linter.unusedSimpArgs false
theorem c_some {α : Type} {d : Kd α} {w : World} {A : Option Addr} {xs : List α} (h : d.C w A 8 xs) : ∃ ad, A = some ad := by
 obtain ⟨ad, h1, _⟩ := h.2.2 (by decide)
 exact ⟨ad, h1⟩
theorem show_9 {lots st who : Int} {H : List Hd} {l : List S50} {s : Int} (h : 1 ≤ lots) (a : ¬ st = 1) : showC lots st H who l s = 9 := by unfold showC; rw [in_9 h a, if_pos (by decide)]
section
variable {lots st : Int} {H : List Hd} {l : List S50} {s : Int} {who : Int} (h : 1 ≤ lots) (a : st = 1)
include h a
theorem show_2 (b : ¬ buyB who = true) : showC lots st H who l s = 2 := by subst a; unfold showC; rw [in_1 h, if_neg (by decide), if_pos (by simpa using b)]
theorem show_6 (b : buyB who = true) (c : (H.getD who.toNat hd0).sl = false) : showC lots st H who l s = 6 := by subst a; unfold showC; rw [in_1 h, if_neg (by decide), if_neg (by rw [b]; decide), if_pos c]
theorem show_7s (b : buyB who = true) (c : (H.getD who.toNat hd0).sl = true) (d : (H.getD who.toNat hd0).sh = true) : showC lots st H who l s = 7 := by subst a; unfold showC; rw [in_1 h, if_neg (by decide), if_neg (by rw [b]; decide), if_neg (by rw [c]; decide), if_pos d]
theorem show_r (b : buyB who = true) (c : (H.getD who.toNat hd0).sl = true) (d : (H.getD who.toNat hd0).sh = false) : showC lots st H who l s = if sealAll l s ≠ (H.getD who.toNat hd0).key then 11 else if 4 < l.length then 3 else if l.any (badO lots who) = true then 2 else if 16 < (H.flatMap (·.off)).length + l.length then 8 else 0 := by subst a; unfold showC; rw [in_1 h, if_neg (by decide), if_neg (by rw [b]; decide), if_neg (by rw [c]; decide), if_neg (by rw [d]; decide)]
end
section
open Go.Proofs.YthfdjccdelbeeaaW.PrintWords.Kd
theorem H_cell {α : Type} {d : Kd α} {e : Nat} {W : World} {base g n cap : Nat} {ok oki : Nat → Prop} {xs : List α} {i : Int} {c : List Value} {u : Value} (h : Kd.H d e W base ok (.slice (some ⟨g, 0, none⟩) n cap) xs i oki c) (h0 : 0 ≤ i) (h1 : i < n) (hs : d.sz = 1) (hc : c = [u]) : W.cell? ⟨g, i.toNat, none⟩ = some u := by
 obtain ⟨rows, _, _, _, _, hcc, _⟩ := Kd.H_raw h h0 h1
 have := hcc 0 u (by rw [hc]; rfl)
 rwa [hs, Nat.mul_one, Nat.add_zero] at this
end
theorem xs_nil {H : List Hd} {q : Nat} (hn : ∀ h ∈ H, h.sh = false → h.off = []) (hq : q < 8) (hH : H.length = 8) (h : (H.getD (q : Int).toNat hd0).sh = false) : (H.map (·.off)).getD (q : Int).toNat [] = [] := by
 have hl : q < H.length := by omega
 simp only [Int.toNat_natCast, List.getD_eq_getElem?_getD, List.getElem?_map, List.getElem?_eq_getElem hl, Option.map_some, Option.getD_some] at h ⊢
 exact hn _ (List.getElem_mem hl) h
section
variable {lots st : Int} {H : List Hd} {q : Nat} {l : List S50} {s : Int} {v : Value}
theorem show_m2 (h : showC lots st H (q : Int) l s = 0) (hH : H.length = 8) (hq : q < 8) : H.map (·.sl) = (showH lots st H (q : Int) l s v).map (·.sl) := by
 rw [showH_yes h, List.map_set, Int.toNat_natCast]; exact set_same (fun h : Hd => h.sl) H (by omega) rfl
theorem show_m3 (h : showC lots st H (q : Int) l s = 0) (hH : H.length = 8) (hq : q < 8) : H.map (·.key) = (showH lots st H (q : Int) l s v).map (·.key) := by
 rw [showH_yes h, List.map_set, Int.toNat_natCast]; exact set_same (fun h : Hd => h.key) H (by omega) rfl
theorem show_m4 (h : showC lots st H (q : Int) l s = 0) (hH : H.length = 8) (hq : q < 8) : (H.map (·.sh)).set q true = (showH lots st H (q : Int) l s v).map (·.sh) := by
 rw [showH_yes h, List.map_set, Int.toNat_natCast]
theorem show_m5 (h : showC lots st H (q : Int) l s = 0) (hH : H.length = 8) (hq : q < 8) : (H.map (·.off)).set q l = (showH lots st H (q : Int) l s v).map (·.off) := by
 rw [showH_yes h, List.map_set, Int.toNat_natCast]
end
theorem few_flat {H : List Hd} (hf : Few H) (hH : H.length = 8) : (H.flatMap (·.off)).length ≤ 32 := by
 have h1 := few_len hf 8 (by omega)
 rwa [List.take_of_length_le (by omega)] at h1
theorem any_at {l : List S50} {lots who : Int} {n : Nat} (hn : n < l.length) (hb : badO lots who (rd_T50 l (n : Int)) = true) : l.any (badO lots who) = true := List.any_eq_true.2 ⟨rd_T50 l (n : Int), by rw [rd_get l n hn]; exact List.getElem_mem hn, hb⟩
theorem any_no {l : List S50} {lots who : Int} (h : ∀ j, j < l.length → badO lots who (rd_T50 l (j : Int)) = false) : l.any (badO lots who) = false := by
 rw [Bool.eq_false_iff]
 intro q
 obtain ⟨o, h1, h2⟩ := List.any_eq_true.1 q
 obtain ⟨j, hj, rfl⟩ := List.mem_iff_getElem.1 h1
 have := h j hj
 rw [rd_get l j hj] at this
 rw [this] at h2
 cases h2
theorem sl_at {H : List Hd} {q : Nat} (hq : q < 8) (hH : H.length = 8) : rdOf false (H.map (·.sl)) (q : Int) = (H.getD (q : Int).toNat hd0).sl := by unfold rdOf; simp [show q < H.length by omega]
theorem sh_at {H : List Hd} {q : Nat} (hq : q < 8) (hH : H.length = 8) : rdOf false (H.map (·.sh)) (q : Int) = (H.getD (q : Int).toNat hd0).sh := by unfold rdOf; simp [show q < H.length by omega]
theorem key_at {H : List Hd} {q : Nat} (hq : q < 8) (hH : H.length = 8) : rd (H.map (·.key)) (q : Int) = (H.getD (q : Int).toNat hd0).key := by unfold rd; simp [show q < H.length by omega]
set_option maxHeartbeats 12800000 in
set_option maxRecDepth 100000 in
theorem Show_s {w : World} {ok : Nat → Prop} {v : Value} {lots st : Int} {H : List Hd} (who : Int) (A : Option Addr) (c : Nat) (l : List S50) (salt : Int) (h : SV w ok v lots st H) (hH : H.length = 8) (hf : Few H) (hl1 : 1 ≤ lots) (hl2 : lots ≤ 12) (hno : ∀ h ∈ H, h.sh = false → h.off = []) (hC : Kd.C k50 w A l.length l) (hc : l.length ≤ c) (hs0 : 0 ≤ salt ∧ salt < 18446744073709551616) (hl : l.length ≤ 20) : Calls Try.prog 62 #[v, .int .i64 who, .slice A l.length c, .int .u64 salt] w fun e w' => ∃ v', e = .returned (.tuple #[v', .int .i64 (showC lots st H who l salt)]) ∧ SV w' (fun k => ok k ∨ w.heap.size ≤ k) v' lots st (showH lots st H who l salt (.slice none 0 0)) ∧ Below w.heap.size w w' := by
 have hu93 := Try.underlying93
 have hu44 := Try.underlying44
 have HS0 := lhid h
 have HNO := lhid hno
 have HCL := lhid hC
 have HCC := lhid hc
 have HSA := lhid hs0
 have HLEN := lhid hl
 clear hno hC hc hs0 hl
 have HFE := lhid hf
 have HH := lhid hH
 have HL1 := lhid hl1
 have HL2 := lhid hl2
 clear hf hH hl1 hl2
 obtain ⟨A2, A3, A4, A5, c2, c3, c4, c5, rfl, ⟨l2, f2⟩, ⟨l3, f3⟩, ⟨l4, f4⟩, l5, f5⟩ := h
 have HF2 := lhid (Kd.F_now f2)
 have HF3 := lhid (Kd.F_now f3)
 have HF4 := lhid (Kd.F_now f4)
 have HF5 := lhid (Kd.F_now f5)
 clear f2 f3 f4 f5 l2 l3 l4 l5
 obtain ⟨ad2, ea2⟩ := c_some HF2.out
 subst ea2
 obtain ⟨ad3, ea3⟩ := c_some HF3.out
 subst ea3
 obtain ⟨ad4, ea4⟩ := c_some HF4.out
 subst ea4
 obtain ⟨ad5, ea5⟩ := c_some HF5.out
 subst ea5
 go_enter Try.func62, Try.ntmps62
 have HB_1 := lhid (Below.refl w.heap.size w)
 go_upto_region 1 with (fail)
 have hb := Zba (Below.refl w.heap.size w) (.cells #[.int .i64 lots, .int .i64 st, .slice (some ad2) 8 c2, .slice (some ad3) 8 c3, .slice (some ad4) 8 c4, .slice (some ad5) 8 c5] 93)
 have hn := blk_new w (.cells #[.int .i64 lots, .int .i64 st, .slice (some ad2) 8 c2, .slice (some ad3) 8 c3, .slice (some ad4) 8 c4, .slice (some ad5) 8 c5] 93)
 have HZ1 := lhid (show (World.alloc w (.cells #[.int .i64 lots, .int .i64 st, .slice (some ad2) 8 c2, .slice (some ad3) 8 c3, .slice (some ad4) 8 c4, .slice (some ad5) 8 c5] 93)).heap.size = w.heap.size + 1 from by simp)
 generalize hq : World.alloc w (.cells #[.int .i64 lots, .int .i64 st, .slice (some ad2) 8 c2, .slice (some ad3) 8 c3, .slice (some ad4) 8 c4, .slice (some ad5) 8 c5] 93) = w1 at hb hn HZ1 ⊢
 clear hq
 have HB_2 := lhid (below_then HB_1.out HB_1.out.size hb)
 clear HB_1 hb
 have TB_3 := lhid (hn)
 clear hn
 obtain ⟨tb, htb⟩ : ∃ q, q = w.heap.size := ⟨_, rfl⟩
 rw [← htb] at TB_3 ⊢
 have HStb := lhid (show w.heap.size ≤ tb ∧ w1.heap.size = tb + 1 from ⟨by rw [htb]; exact Nat.le_refl _, by rw [htb]; exact HZ1.out⟩)
 clear htb
 have hb := Zba (Below.refl w1.heap.size w1) (.cells #[.int .i64 0, .int .i64 0, .slice none 0 0, .slice none 0 0, .slice none 0 0, .slice none 0 0] 93)
 have hn := blk_new w1 (.cells #[.int .i64 0, .int .i64 0, .slice none 0 0, .slice none 0 0, .slice none 0 0, .slice none 0 0] 93)
 have HZ2 := lhid (show (World.alloc w1 (.cells #[.int .i64 0, .int .i64 0, .slice none 0 0, .slice none 0 0, .slice none 0 0, .slice none 0 0] 93)).heap.size = w1.heap.size + 1 from by simp)
 generalize hq : World.alloc w1 (.cells #[.int .i64 0, .int .i64 0, .slice none 0 0, .slice none 0 0, .slice none 0 0, .slice none 0 0] 93) = w2 at hb hn HZ2 ⊢
 clear hq
 have HB_4 := lhid (below_then HB_2.out HB_2.out.size hb)
 have TB_5 := lhid (blk_below TB_3.out hb)
 clear HB_2 TB_3 hb
 have RB_6 := lhid (hn)
 clear hn
 obtain ⟨rb, hrb⟩ : ∃ q, q = tb + 1 := ⟨_, rfl⟩
 rw [show w1.heap.size = rb by have h1 := HStb.out; omega] at RB_6
 rw [← hrb]
 have HSrb := lhid (show w.heap.size ≤ rb ∧ w2.heap.size = rb + 1 ∧ tb < rb from by have h1 := HStb.out; have h2 := HZ2.out; omega)
 clear hrb
 have t1 := (blk_cell TB_5.out 1).trans rfl
 by_cases a : st = 1
 ·
  have d : (st != 1) = false := bne_eq_false_iff_eq.2 a
  have HA := lhid a
  clear a
  by_cases b : buyB who = true
  ·
   obtain ⟨q, rfl⟩ : ∃ q : Nat, who = (q : Int) := ⟨who.toNat, by unfold buyB at b; simp at b; omega⟩
   have hq : q < 8 := by unfold buyB at b; simp at b; omega
   have hq8 : (q : Int) < 8 := by omega
   have hq0 : (0 : Int) ≤ (q : Int) := by omega
   have d1 : decide ((q : Int) < 0) = false := decide_eq_false (by omega)
   have d2 : decide ((q : Int) > 7) = false := decide_eq_false (by omega)
   have HBU := lhid b
   clear b
   go_upto_region 5 with (fail)
   try any_goals (exfalso; omega)
   clear t1 d d1 d2
   obtain ⟨hd, hhd⟩ : ∃ x, x = H.getD q hd0 := ⟨_, rfl⟩
   have HHD := lhid (show H.getD (q : Int).toNat hd0 = hd by rw [Int.toNat_natCast, hhd])
   clear hhd
   have t2 := (blk_cell TB_5.out 2).trans rfl
   obtain ⟨ad, eA, y2⟩ := Kd.at_bool (Kd.C_below HF2.out HB_4.out) (q : Int) hq0 hq8
   cases eA
   rw [sl_at hq HH.out, HHD.out] at y2
   simp only [Int.toNat_natCast] at y2
   cases hsl : hd.sl
   ·
    rw [hsl] at y2
    have HSL := lhid hsl
    clear hsl
    have HS3 := lhid (show showC lots st H (q : Int) l salt = 6 from show_6 HL1.out HA.out HBU.out (by rw [HHD.out]; exact HSL.out))
    obtain ⟨n0, n1, n2, n3, n4, n5⟩ := six TB_5.out
    obtain ⟨r0, r1, r2, r3, r4, r5⟩ := six RB_6.out
    have hfz := fun o => blk_frozen RB_6.out o
    go_wp2_with fail
    try any_goals (exfalso; omega)
    have hp := put6 RB_6.out (.int .i64 lots) (.int .i64 st) (.slice (some ad2) 8 c2) (.slice (some ad3) 8 c3) (.slice (some ad4) 8 c4) (.slice (some ad5) 8 c5)
    clear n0 n1 n2 n3 n4 n5 r0 r1 r2 r3 r4 r5 hfz
    generalize World.setCell (World.setCell (World.setCell (World.setCell (World.setCell (World.setCell (w2) ⟨rb, 0, none⟩ (.int .i64 lots)) ⟨rb, 1, none⟩ (.int .i64 st)) ⟨rb, 2, none⟩ (.slice (some ad2) 8 c2)) ⟨rb, 3, none⟩ (.slice (some ad3) 8 c3)) ⟨rb, 4, none⟩ (.slice (some ad4) 8 c4)) ⟨rb, 5, none⟩ (.slice (some ad5) 8 c5) = wf at hp ⊢
    obtain ⟨hp1, hp2⟩ := hp
    have HBF := lhid (HB_4.out.trans (hp2.below HB_4.out.size (fun k q => by have h1 := HSrb.out; have h2 : k = rb := q; omega)))
    refine bodyPost_ret (results_ct rfl _ _ rb 93 #[(.int .i64 lots), (.int .i64 st), (.slice (some ad2) 8 c2), (.slice (some ad3) 8 c3), (.slice (some ad4) 8 c4), (.slice (some ad5) 8 c5)] (0, 0) _ rfl hp1 Try.underlying93 rfl (by kernel_rfl)) rfl ?_
    exact ⟨_, by rw [HS3.out]; first | done | rfl, by unfold showH; rw [if_neg (by rw [HS3.out]; decide)]; exact (HS0.out.next HBF.out).mono (fun k q => Or.inl q), HBF.out⟩
   ·
    rw [hsl] at y2
    have HSL := lhid hsl
    clear hsl
    go_upto_region 7 with (fail)
    try any_goals (exfalso; omega)
    clear t2 y2
    have t4 := (blk_cell TB_5.out 4).trans rfl
    obtain ⟨ad, eA, y4⟩ := Kd.at_bool (Kd.C_below HF4.out HB_4.out) (q : Int) hq0 hq8
    cases eA
    rw [sh_at hq HH.out, HHD.out] at y4
    simp only [Int.toNat_natCast] at y4
    cases hsh : hd.sh
    ·
     rw [hsh] at y4
     have HSH := lhid hsh
     clear hsh
     go_upto_region 9 with (fail)
     try any_goals (exfalso; omega)
     clear t4 y4
     have HR := lhid (show_r (l := l) (s := salt) HL1.out HA.out HBU.out (by rw [HHD.out]; exact HSL.out) (by rw [HHD.out]; exact HSH.out))
     obtain ⟨sv, hsv⟩ : ∃ x, x = sealAll l salt := ⟨_, rfl⟩
     obtain ⟨ky, hky⟩ : ∃ x, x = hd.key := ⟨_, rfl⟩
     have HSVV := lhid hsv
     have HKY := lhid hky
     clear hsv hky
     have hev : ∃ k, kimberliteref05_Seal.f k l salt = some sv := by rw [HSVV.out]; obtain ⟨k, hk⟩ := ev_Seal l salt (by have := HLEN.out; omega) HSA.out.1 HSA.out.2; exact ⟨k, hk k (Nat.le_refl _)⟩
     obtain ⟨k, hk⟩ := hev
     have HK := lhid hk
     clear hk
     obtain ⟨ad, eA, y3⟩ := Kd.at_int HF3.out (q : Int) hq0 hq8
     cases eA
     rw [key_at hq HH.out, HHD.out, ← HKY.out] at y3
     simp only [Int.toNat_natCast] at y3
     have hb := Zbd (Below.refl w2.heap.size w2)
     have HB_7 := lhid (below_then HB_4.out HB_4.out.size hb)
     have TB_8 := lhid (blk_below TB_5.out hb)
     have RB_9 := lhid (blk_below RB_6.out hb)
     clear HB_4 TB_5 RB_6 hb
     refine start_ (n := 10) (S := fun w' => w'.cell? ⟨tb, 3, none⟩ = some (.slice (some ad3) 8 c3) ∧ w'.cell? (ad3.add q) = some (.int .u64 ky)) (ds := []) (lsb 10 0) (by kernel_rfl) rfl (by kernel_rfl) ⟨(blk_cell TB_8.out 3).trans rfl, (pw_cell_below HB_7.out y3)⟩ (fun hHeld => ?_)
     generalize w2.drew = w6 at HB_7 TB_8 RB_9 hHeld ⊢
     refine pu 0 (some 41) 10 1 rfl rfl (v := ?_) (a' := ?_) ?_ ?_ ?_; rotate_left; (intro w'; go_simp; with_reducible rfl); rotate_left; (simp only [Act.put, pS]; rfl)
     refine pu 1 (some 42) 10 3 rfl rfl (v := ?_) (a' := ?_) ?_ ?_ ?_; rotate_left; (intro w'; go_simp; with_reducible rfl); rotate_left; (simp only [Act.put, pS]; rfl)
     refine pu 3 (some 44) 10 11 rfl rfl (v := ?_) (a' := ?_) ?_ ?_ ?_; rotate_left; (intro w'; go_simp; with_reducible rfl); rotate_left; (simp only [Act.put, pS]; rfl)
     refine pu 5 (some 46) 10 43 rfl rfl (v := ?_) (a' := ?_) ?_ ?_ ?_; rotate_left; (intro w'; go_simp; with_reducible rfl); rotate_left; (simp only [Act.put, pS]; rfl)
     refine tk 4 (some 45) 10 59 rfl rfl hHeld (v := ?_) (a' := ?_) ?_ ?_ ?_; rotate_left; (rintro w' ⟨s0, s1⟩; go_simp; with_reducible rfl); rotate_left; (simp only [Act.put, pS]; rfl)
     refine pu 6 (some 47) 10 123 rfl rfl (v := ?_) (a' := ?_) ?_ ?_ ?_; rotate_left; (intro w'; go_simp; with_reducible rfl); rotate_left; (simp only [Act.put, pS]; rfl)
     refine tk 7 (some 48) 10 251 rfl rfl hHeld (v := ?_) (a' := ?_) ?_ ?_ ?_; rotate_left; (rintro w' ⟨s0, s1⟩; go_simp; with_reducible rfl); rotate_left; (simp only [Act.put, pS]; rfl)
     refine one_ (i := 2) (N := some 43) (lsb 10 255) rfl rfl (by kernel_rfl) (by decide) (fun K hK => ?_)
     refine goes_ Try.func24 (by kernel_rfl) rfl #[.slice A l.length c, .int .u64 salt] (by rfl) rfl rfl (by (try simp only [List.map_toArray, List.map_cons, List.map_nil]); first | done | rfl) ?_
     with_reducible refine (kimberliteref05_Seal.calls k A c l salt sv w6 (Kd.C_below HCL.out HB_7.out) HCC.out HK.out).mono ?_
     rintro e w7 ⟨rfl, nd, hq9⟩
     refine ⟨_, rfl, ?_⟩
     have hb := Zbn (Below.refl w6.heap.size w6) nd
     rw [← hq9] at hb
     clear hq9
     have HB_10 := lhid (below_then HB_7.out HB_7.out.size hb)
     have TB_11 := lhid (blk_below TB_8.out hb)
     have RB_12 := lhid (blk_below RB_9.out hb)
     clear HB_7 TB_8 RB_9 hb
     refine hK.out _ _ ⟨(blk_cell TB_11.out 3).trans rfl, (pw_cell_below HB_10.out y3)⟩ (fun hHeld => ?_)
     clear hK K
     refine norm_ (a' := ?_) ?_ ?_
     rotate_left
     ·
      show Act.put _ (some 43) _ = _
      simp only [Act.put, pS]
      rfl
     refine pu 8 (some 49) 10 511 rfl rfl (v := ?_) (a' := ?_) ?_ ?_ ?_; rotate_left; (intro w'; go_simp; with_reducible rfl); rotate_left; (simp only [Act.put, pS]; rfl)
     refine pu 9 (some 40) 10 1023 rfl rfl (v := ?_) (a' := ?_) ?_ ?_ ?_; rotate_left; (intro w'; go_simp; with_reducible rfl); rotate_left; (simp only [Act.put, pS]; rfl)
     refine done_ (by kernel_rfl) ?_
     
     clear y3
     by_cases e : sv = ky
     ·
      have d : (sv != ky) = false := bne_eq_false_iff_eq.2 e
      have HE := lhid e
      clear e
      by_cases f : 4 < l.length
      ·
       have d2 : decide ((l.length : Int) > 4) = true := decide_eq_true (by omega)
       have d3 : (4 : Int) < (l.length : Int) := by omega
       have HF := lhid f
       clear f
       have HS3 := lhid (show showC lots st H (q : Int) l salt = 3 from by rw [HR.out, if_neg (fun z => z (by rw [HHD.out, ← HSVV.out, ← HKY.out]; exact HE.out)), if_pos HF.out])
       obtain ⟨n0, n1, n2, n3, n4, n5⟩ := six TB_11.out
       obtain ⟨r0, r1, r2, r3, r4, r5⟩ := six RB_12.out
       have hfz := fun o => blk_frozen RB_12.out o
       go_wp2_with fail
       try any_goals (exfalso; omega)
       have hp := put6 RB_12.out (.int .i64 lots) (.int .i64 st) (.slice (some ad2) 8 c2) (.slice (some ad3) 8 c3) (.slice (some ad4) 8 c4) (.slice (some ad5) 8 c5)
       clear n0 n1 n2 n3 n4 n5 r0 r1 r2 r3 r4 r5 hfz
       generalize World.setCell (World.setCell (World.setCell (World.setCell (World.setCell (World.setCell (w7) ⟨rb, 0, none⟩ (.int .i64 lots)) ⟨rb, 1, none⟩ (.int .i64 st)) ⟨rb, 2, none⟩ (.slice (some ad2) 8 c2)) ⟨rb, 3, none⟩ (.slice (some ad3) 8 c3)) ⟨rb, 4, none⟩ (.slice (some ad4) 8 c4)) ⟨rb, 5, none⟩ (.slice (some ad5) 8 c5) = wf at hp ⊢
       obtain ⟨hp1, hp2⟩ := hp
       have HBF := lhid (HB_10.out.trans (hp2.below HB_10.out.size (fun k q => by have h1 := HSrb.out; have h2 : k = rb := q; omega)))
       refine bodyPost_ret (results_ct rfl _ _ rb 93 #[(.int .i64 lots), (.int .i64 st), (.slice (some ad2) 8 c2), (.slice (some ad3) 8 c3), (.slice (some ad4) 8 c4), (.slice (some ad5) 8 c5)] (0, 0) _ rfl hp1 Try.underlying93 rfl (by kernel_rfl)) rfl ?_
       exact ⟨_, by rw [HS3.out]; first | done | rfl, by unfold showH; rw [if_neg (by rw [HS3.out]; decide)]; exact (HS0.out.next HBF.out).mono (fun k q => Or.inl q), HBF.out⟩
      ·
       have d3 : ¬ (4 : Int) < (l.length : Int) := by omega
       have HF := lhid f
       clear f
       go_upto_region 14 with (fail)
       try any_goals (exfalso; omega)
       clear d d3
       go_loopw [10] (fun i wr => ∃ n : Nat, n ≤ l.length ∧ i = .int .i64 n ∧ Hid (∀ j, j < n → badO lots (q : Int) (rd_T50 l (j : Int)) = false) ∧ Hid (wr.heap[tb]? = some (.cells #[.int .i64 lots, .int .i64 st, .slice (some ad2) 8 c2, .slice (some ad3) 8 c3, .slice (some ad4) 8 c4, .slice (some ad5) 8 c5] 93)) ∧ Hid (wr.heap[rb]? = some (.cells #[.int .i64 0, .int .i64 0, .slice none 0 0, .slice none 0 0, .slice none 0 0, .slice none 0 0] 93)) ∧ Hid (Below w.heap.size w wr) ∧ Hid (rb + 1 ≤ wr.heap.size)) (fun i _ => l.length - (intOf i).toNat)
       case atStart => exact ⟨0, Nat.zero_le _, rfl, lhid (fun j h => by omega), TB_11, RB_12, HB_10, lhid (blk_lt RB_12.out)⟩
       case round =>
        clear HB_10 TB_11 RB_12
        obtain ⟨n, hn, rfl, HNB, TBr, RBr, HBr, HSNOW⟩ := hrel
        by_cases hlt : n < l.length
        ·
         have hll20 : l.length ≤ 20 := HLEN.out
         have hlt2 : (n : Int) < (l.length : Int) := by omega
         have hn0 : (0 : Int) ≤ (n : Int) := by omega
         obtain ⟨o, ho⟩ : ∃ o, o = rd_T50 l (n : Int) := ⟨_, rfl⟩
         have hG := Good_good lots o HL1.out HL2.out
         obtain ⟨ad, eA, x0, x1, x2⟩ := at_T50 HCL.out (n : Int) hn0 hlt2
         cases eA
         rw [← ho] at x0 x1 x2
         simp only [Int.toNat_natCast] at x0 x1 x2
         have HO := lhid ho
         clear ho
         obtain ⟨g, hg⟩ : ∃ z, z = good lots o := ⟨_, rfl⟩
         rw [← hg] at hG
         have HGD := lhid hG
         have HGG := lhid hg
         clear hG hg
         go_upto_region 16 with (fail)
         try any_goals (exfalso; omega)
         cases g
         ·
          have hb := Zbd (Below.refl wr.heap.size wr)
          have TB_13 := lhid (blk_below TBr.out hb)
          have RB_14 := lhid (blk_below RBr.out hb)
          have HB_15 := lhid (below_then HBr.out HBr.out.size hb)
          clear TBr RBr HBr hb
          refine start_ (n := 17) (S := fun w' => w'.cell? ⟨tb, 0, none⟩ = some (.int .i64 lots) ∧ w'.cell? (ad.add (n * 3)) = some (.int .i64 o.f0) ∧ w'.cell? { block := (ad.add (n * 3)).block, off := (ad.add (n * 3)).off + 1 } = some (.int .i64 o.f1) ∧ w'.cell? { block := (ad.add (n * 3)).block, off := (ad.add (n * 3)).off + 2 } = some (.int .i64 o.f2)) (ds := []) (lsb 17 0) (by kernel_rfl) rfl (by kernel_rfl) ⟨(blk_cell TB_13.out 0).trans rfl, (pw_cell_below HB_15.out x0), (pw_cell_below HB_15.out x1), (pw_cell_below HB_15.out x2)⟩ (fun hHeld => ?_)
          generalize wr.drew = w31 at TB_13 RB_14 HB_15 hHeld ⊢
          refine pu 0 (some 62) 17 1 rfl rfl (v := ?_) (a' := ?_) ?_ ?_ ?_; rotate_left; (intro w'; go_simp; with_reducible rfl); rotate_left; (simp only [Act.put, pS]; rfl)
          refine pu 2 (some 64) 17 5 rfl rfl (v := ?_) (a' := ?_) ?_ ?_ ?_; rotate_left; (intro w'; go_simp; with_reducible rfl); rotate_left; (simp only [Act.put, pS]; rfl)
          refine pu 3 (some 65) 17 13 rfl rfl (v := ?_) (a' := ?_) ?_ ?_ ?_; rotate_left; (intro w'; go_simp; with_reducible rfl); rotate_left; (simp only [Act.put, pS]; rfl)
          refine pu 4 (some 66) 17 29 rfl rfl (v := ?_) (a' := ?_) ?_ ?_ ?_; rotate_left; (intro w'; go_simp; with_reducible rfl); rotate_left; (simp only [Act.put, pS]; rfl)
          refine tk 1 (some 63) 17 31 rfl rfl hHeld (v := ?_) (a' := ?_) ?_ ?_ ?_; rotate_left; (rintro w' ⟨s0, s1, s2, s3⟩; go_simp; with_reducible rfl); rotate_left; (simp only [Act.put, pS]; rfl)
          refine tk 5 (some 67) 17 63 rfl rfl hHeld (v := ?_) (a' := ?_) ?_ ?_ ?_; rotate_left; (rintro w' ⟨s0, s1, s2, s3⟩; go_simp; with_reducible rfl); rotate_left; (simp only [Act.put, pS]; rfl)
          refine one_ (i := 6) (N := some 68) (lsb 17 127) rfl rfl (by kernel_rfl) (by decide) (fun K hK => ?_)
          refine goes_ Try.func34 (by kernel_rfl) rfl #[.int .i64 lots, .agg #[.int .i64 o.f0, .int .i64 o.f1, .int .i64 o.f2]] (by rfl) rfl rfl (by (try simp only [List.map_toArray, List.map_cons, List.map_nil]); first | done | rfl) ?_
          with_reducible refine (kimberliteref05_Good.calls lots o.f0 o.f1 o.f2 false w31 HGD.out).mono ?_
          rintro e w32 ⟨rfl, hb⟩
          refine ⟨_, rfl, ?_⟩
          have TB_16 := lhid (blk_below TB_13.out hb)
          have RB_17 := lhid (blk_below RB_14.out hb)
          have HB_18 := lhid (below_then HB_15.out HB_15.out.size hb)
          clear TB_13 RB_14 HB_15 hb
          refine hK.out _ _ ⟨(blk_cell TB_16.out 0).trans rfl, (pw_cell_below HB_18.out x0), (pw_cell_below HB_18.out x1), (pw_cell_below HB_18.out x2)⟩ (fun hHeld => ?_)
          clear hK K
          refine norm_ (a' := ?_) ?_ ?_
          rotate_left
          ·
           show Act.put _ (some 68) _ = _
           simp only [Act.put, pS]
           rfl
          refine pu 7 (some 69) 17 255 rfl rfl (v := ?_) (a' := ?_) ?_ ?_ ?_; rotate_left; (intro w'; go_simp; with_reducible rfl); rotate_left; (simp only [Act.put, pS]; rfl)
          refine pu 8 (some 70) 17 511 rfl rfl (v := ?_) (a' := ?_) ?_ ?_ ?_; rotate_left; (intro w'; go_simp; with_reducible rfl); rotate_left; (simp only [Act.put, pS]; rfl)
          refine pf 9 (some 71) 17 1023 rfl rfl (a' := ?_) ?_ ?_; rotate_left; (simp only [Act.put, pS]; rfl)
          refine pf 10 (some 72) 17 2047 rfl rfl (a' := ?_) ?_ ?_; rotate_left; (simp only [Act.put, pS]; rfl)
          refine pf 11 (some 73) 17 4095 rfl rfl (a' := ?_) ?_ ?_; rotate_left; (simp only [Act.put, pS]; rfl)
          refine pf 12 (some 74) 17 8191 rfl rfl (a' := ?_) ?_ ?_; rotate_left; (simp only [Act.put, pS]; rfl)
          refine pf 13 (some 75) 17 16383 rfl rfl (a' := ?_) ?_ ?_; rotate_left; (simp only [Act.put, pS]; rfl)
          refine pf 14 (some 76) 17 32767 rfl rfl (a' := ?_) ?_ ?_; rotate_left; (simp only [Act.put, pS]; rfl)
          refine pf 15 (some 77) 17 65535 rfl rfl (a' := ?_) ?_ ?_; rotate_left; (simp only [Act.put, pS]; rfl)
          refine pu 16 (some 78) 17 131071 rfl rfl (v := ?_) (a' := ?_) ?_ ?_ ?_; rotate_left; (intro w'; go_simp; with_reducible rfl); rotate_left; (simp only [Act.put, pS]; rfl)
          refine done_ (by kernel_rfl) ?_
          
          clear x0 x1 x2
          have HBD := lhid (show badO lots (q : Int) (rd_T50 l (n : Int)) = true by unfold badO; rw [← HO.out, ← HGG.out]; rfl)
          have HS3 := lhid (show showC lots st H (q : Int) l salt = 2 from by rw [HR.out, if_neg (fun z => z (by rw [HHD.out, ← HSVV.out, ← HKY.out]; exact HE.out)), if_neg HF.out, if_pos (any_at hlt HBD.out)])
          obtain ⟨n0, n1, n2, n3, n4, n5⟩ := six TB_16.out
          obtain ⟨r0, r1, r2, r3, r4, r5⟩ := six RB_17.out
          have hfz := fun o => blk_frozen RB_17.out o
          go_wp2_with fail
          try any_goals (exfalso; omega)
          have hp := put6 RB_17.out (.int .i64 lots) (.int .i64 st) (.slice (some ad2) 8 c2) (.slice (some ad3) 8 c3) (.slice (some ad4) 8 c4) (.slice (some ad5) 8 c5)
          clear n0 n1 n2 n3 n4 n5 r0 r1 r2 r3 r4 r5 hfz
          generalize World.setCell (World.setCell (World.setCell (World.setCell (World.setCell (World.setCell (w32) ⟨rb, 0, none⟩ (.int .i64 lots)) ⟨rb, 1, none⟩ (.int .i64 st)) ⟨rb, 2, none⟩ (.slice (some ad2) 8 c2)) ⟨rb, 3, none⟩ (.slice (some ad3) 8 c3)) ⟨rb, 4, none⟩ (.slice (some ad4) 8 c4)) ⟨rb, 5, none⟩ (.slice (some ad5) 8 c5) = wf at hp ⊢
          obtain ⟨hp1, hp2⟩ := hp
          have HBF := lhid (HB_18.out.trans (hp2.below HB_18.out.size (fun k q => by have h1 := HSrb.out; have h2 : k = rb := q; omega)))
          refine bodyPost_ret (results_ct rfl _ _ rb 93 #[(.int .i64 lots), (.int .i64 st), (.slice (some ad2) 8 c2), (.slice (some ad3) 8 c3), (.slice (some ad4) 8 c4), (.slice (some ad5) 8 c5)] (0, 0) _ rfl hp1 Try.underlying93 rfl (by kernel_rfl)) rfl ?_
          exact ⟨_, by rw [HS3.out]; first | done | rfl, by unfold showH; rw [if_neg (by rw [HS3.out]; decide)]; exact (HS0.out.next HBF.out).mono (fun k q => Or.inl q), HBF.out⟩
         ·
          have hb := Zbd (Below.refl wr.heap.size wr)
          have TB_19 := lhid (blk_below TBr.out hb)
          have RB_20 := lhid (blk_below RBr.out hb)
          have HB_21 := lhid (below_then HBr.out HBr.out.size hb)
          clear TBr RBr HBr hb
          refine start_ (n := 17) (S := fun w' => w'.cell? ⟨tb, 0, none⟩ = some (.int .i64 lots) ∧ w'.cell? (ad.add (n * 3)) = some (.int .i64 o.f0) ∧ w'.cell? { block := (ad.add (n * 3)).block, off := (ad.add (n * 3)).off + 1 } = some (.int .i64 o.f1) ∧ w'.cell? { block := (ad.add (n * 3)).block, off := (ad.add (n * 3)).off + 2 } = some (.int .i64 o.f2)) (ds := []) (lsb 17 0) (by kernel_rfl) rfl (by kernel_rfl) ⟨(blk_cell TB_19.out 0).trans rfl, (pw_cell_below HB_21.out x0), (pw_cell_below HB_21.out x1), (pw_cell_below HB_21.out x2)⟩ (fun hHeld => ?_)
          generalize wr.drew = w31 at TB_19 RB_20 HB_21 hHeld ⊢
          refine pu 0 (some 62) 17 1 rfl rfl (v := ?_) (a' := ?_) ?_ ?_ ?_; rotate_left; (intro w'; go_simp; with_reducible rfl); rotate_left; (simp only [Act.put, pS]; rfl)
          refine pu 2 (some 64) 17 5 rfl rfl (v := ?_) (a' := ?_) ?_ ?_ ?_; rotate_left; (intro w'; go_simp; with_reducible rfl); rotate_left; (simp only [Act.put, pS]; rfl)
          refine pu 3 (some 65) 17 13 rfl rfl (v := ?_) (a' := ?_) ?_ ?_ ?_; rotate_left; (intro w'; go_simp; with_reducible rfl); rotate_left; (simp only [Act.put, pS]; rfl)
          refine pu 4 (some 66) 17 29 rfl rfl (v := ?_) (a' := ?_) ?_ ?_ ?_; rotate_left; (intro w'; go_simp; with_reducible rfl); rotate_left; (simp only [Act.put, pS]; rfl)
          refine tk 1 (some 63) 17 31 rfl rfl hHeld (v := ?_) (a' := ?_) ?_ ?_ ?_; rotate_left; (rintro w' ⟨s0, s1, s2, s3⟩; go_simp; with_reducible rfl); rotate_left; (simp only [Act.put, pS]; rfl)
          refine tk 5 (some 67) 17 63 rfl rfl hHeld (v := ?_) (a' := ?_) ?_ ?_ ?_; rotate_left; (rintro w' ⟨s0, s1, s2, s3⟩; go_simp; with_reducible rfl); rotate_left; (simp only [Act.put, pS]; rfl)
          refine one_ (i := 6) (N := some 68) (lsb 17 127) rfl rfl (by kernel_rfl) (by decide) (fun K hK => ?_)
          refine goes_ Try.func34 (by kernel_rfl) rfl #[.int .i64 lots, .agg #[.int .i64 o.f0, .int .i64 o.f1, .int .i64 o.f2]] (by rfl) rfl rfl (by (try simp only [List.map_toArray, List.map_cons, List.map_nil]); first | done | rfl) ?_
          with_reducible refine (kimberliteref05_Good.calls lots o.f0 o.f1 o.f2 true w31 HGD.out).mono ?_
          rintro e w32 ⟨rfl, hb⟩
          refine ⟨_, rfl, ?_⟩
          have TB_22 := lhid (blk_below TB_19.out hb)
          have RB_23 := lhid (blk_below RB_20.out hb)
          have HB_24 := lhid (below_then HB_21.out HB_21.out.size hb)
          clear TB_19 RB_20 HB_21 hb
          refine hK.out _ _ ⟨(blk_cell TB_22.out 0).trans rfl, (pw_cell_below HB_24.out x0), (pw_cell_below HB_24.out x1), (pw_cell_below HB_24.out x2)⟩ (fun hHeld => ?_)
          clear hK K
          refine norm_ (a' := ?_) ?_ ?_
          rotate_left
          ·
           show Act.put _ (some 68) _ = _
           simp only [Act.put, pS]
           rfl
          refine pu 7 (some 69) 17 255 rfl rfl (v := ?_) (a' := ?_) ?_ ?_ ?_; rotate_left; (intro w'; go_simp; with_reducible rfl); rotate_left; (simp only [Act.put, pS]; rfl)
          refine pu 8 (some 70) 17 511 rfl rfl (v := ?_) (a' := ?_) ?_ ?_ ?_; rotate_left; (intro w'; go_simp; with_reducible rfl); rotate_left; (simp only [Act.put, pS]; rfl)
          refine pu 9 (some 71) 17 1023 rfl rfl (v := ?_) (a' := ?_) ?_ ?_ ?_; rotate_left; (intro w'; go_simp; with_reducible rfl); rotate_left; (simp only [Act.put, pS]; rfl)
          refine pu 10 (some 72) 17 2047 rfl rfl (v := ?_) (a' := ?_) ?_ ?_ ?_; rotate_left; (intro w'; go_simp; with_reducible rfl); rotate_left; (simp only [Act.put, pS]; rfl)
          refine pu 11 (some 73) 17 4095 rfl rfl (v := ?_) (a' := ?_) ?_ ?_ ?_; rotate_left; (intro w'; go_simp; with_reducible rfl); rotate_left; (simp only [Act.put, pS]; rfl)
          refine pu 12 (some 74) 17 8191 rfl rfl (v := ?_) (a' := ?_) ?_ ?_ ?_; rotate_left; (intro w'; go_simp; with_reducible rfl); rotate_left; (simp only [Act.put, pS]; rfl)
          refine pu 14 (some 76) 17 24575 rfl rfl (v := ?_) (a' := ?_) ?_ ?_ ?_; rotate_left; (intro w'; go_simp; with_reducible rfl); rotate_left; (simp only [Act.put, pS]; rfl)
          refine tk 13 (some 75) 17 32767 rfl rfl hHeld (v := ?_) (a' := ?_) ?_ ?_ ?_; rotate_left; (rintro w' ⟨s0, s1, s2, s3⟩; go_simp; with_reducible rfl); rotate_left; (simp only [Act.put, pS]; rfl)
          refine pu 15 (some 77) 17 65535 rfl rfl (v := ?_) (a' := ?_) ?_ ?_ ?_; rotate_left; (intro w'; go_simp; with_reducible rfl); rotate_left; (simp only [Act.put, pS]; rfl)
          refine pu 16 (some 78) 17 131071 rfl rfl (v := ?_) (a' := ?_) ?_ ?_ ?_; rotate_left; (intro w'; go_simp; with_reducible rfl); rotate_left; (simp only [Act.put, pS]; rfl)
          refine done_ (by kernel_rfl) ?_
          
          clear x0 x1 x2
          by_cases z : o.f0 = (q : Int)
          ·
           have d : (o.f0 != (q : Int)) = false := bne_eq_false_iff_eq.2 z
           have HBD := lhid (show badO lots (q : Int) (rd_T50 l (n : Int)) = false by unfold badO; rw [← HO.out, ← HGG.out]; rw [d]; rfl)
           clear z
           go_wp2_with fail
           try any_goals (exfalso; omega)
           go_roundw
           case rel => exact ⟨n + 1, by omega, by simp, lhid (fun j hj => by by_cases e : j = n; rw [e]; exact HBD.out; exact HNB.out j (by omega)), TB_22, RB_23, HB_24, lhid (blk_lt RB_23.out)⟩
           case measure => simp [intOf]; omega
          ·
           have d : (o.f0 != (q : Int)) = true := bne_iff_ne.2 z
           have HBD := lhid (show badO lots (q : Int) (rd_T50 l (n : Int)) = true by unfold badO; rw [← HO.out, ← HGG.out]; rw [d]; rfl)
           clear z
           have HS3 := lhid (show showC lots st H (q : Int) l salt = 2 from by rw [HR.out, if_neg (fun z => z (by rw [HHD.out, ← HSVV.out, ← HKY.out]; exact HE.out)), if_neg HF.out, if_pos (any_at hlt HBD.out)])
           obtain ⟨n0, n1, n2, n3, n4, n5⟩ := six TB_22.out
           obtain ⟨r0, r1, r2, r3, r4, r5⟩ := six RB_23.out
           have hfz := fun o => blk_frozen RB_23.out o
           go_wp2_with fail
           try any_goals (exfalso; omega)
           have hp := put6 RB_23.out (.int .i64 lots) (.int .i64 st) (.slice (some ad2) 8 c2) (.slice (some ad3) 8 c3) (.slice (some ad4) 8 c4) (.slice (some ad5) 8 c5)
           clear n0 n1 n2 n3 n4 n5 r0 r1 r2 r3 r4 r5 hfz
           generalize World.setCell (World.setCell (World.setCell (World.setCell (World.setCell (World.setCell (w32) ⟨rb, 0, none⟩ (.int .i64 lots)) ⟨rb, 1, none⟩ (.int .i64 st)) ⟨rb, 2, none⟩ (.slice (some ad2) 8 c2)) ⟨rb, 3, none⟩ (.slice (some ad3) 8 c3)) ⟨rb, 4, none⟩ (.slice (some ad4) 8 c4)) ⟨rb, 5, none⟩ (.slice (some ad5) 8 c5) = wf at hp ⊢
           obtain ⟨hp1, hp2⟩ := hp
           have HBF := lhid (HB_24.out.trans (hp2.below HB_24.out.size (fun k q => by have h1 := HSrb.out; have h2 : k = rb := q; omega)))
           refine bodyPost_ret (results_ct rfl _ _ rb 93 #[(.int .i64 lots), (.int .i64 st), (.slice (some ad2) 8 c2), (.slice (some ad3) 8 c3), (.slice (some ad4) 8 c4), (.slice (some ad5) 8 c5)] (0, 0) _ rfl hp1 Try.underlying93 rfl (by kernel_rfl)) rfl ?_
           exact ⟨_, by rw [HS3.out]; first | done | rfl, by unfold showH; rw [if_neg (by rw [HS3.out]; decide)]; exact (HS0.out.next HBF.out).mono (fun k q => Or.inl q), HBF.out⟩
        have hne : n = l.length := by omega
        subst hne
        have HAN := lhid (any_no HNB.out)
        clear HNB hlt hn
        obtain ⟨n0, n1, n2, n3, n4, n5⟩ := six TBr.out
        go_wp2_with fail
        try any_goals (exfalso; omega)
        obtain ⟨L, hL⟩ : ∃ L, L = H.flatMap (·.off) := ⟨_, rfl⟩
        have HLL := lhid hL
        clear hL
        with_reducible refine (All_l (HS0.out.next HBr.out) HH.out HFE.out HLL.out).mono ?_
        rintro e w31 ⟨v0, rfl, hO, hb⟩
        have TB_25 := lhid (blk_below TBr.out hb)
        have RB_26 := lhid (blk_below RBr.out hb)
        have HB_27 := lhid (below_then HBr.out HBr.out.size hb)
        clear TBr RBr HBr hb
        have hll := HLL.out
        obtain ⟨A0, c0, rfl⟩ := Kd.R_slice hO
        have HL32 := lhid (show L.length ≤ 32 by rw [HLL.out]; exact few_flat HFE.out HH.out)
        clear hO hll n0 n1 n2 n3 n4 n5
        have hws := wrap_sum HL32.out (show l.length ≤ 4 by have := HF.out; omega)
        have hll : l.length ≤ 20 := HLEN.out
        by_cases z : 16 < L.length + l.length
        ·
         have d : (L.length : Int) + (l.length : Int) > 16 := gt16 z
         have HZL := lhid z
         clear z hll
         have HS3 := lhid (show showC lots st H (q : Int) l salt = 8 from by rw [HR.out, if_neg (fun z => z (by rw [HHD.out, ← HSVV.out, ← HKY.out]; exact HE.out)), if_neg HF.out, if_neg (by rw [HAN.out]; decide), if_pos (by rw [← HLL.out]; exact HZL.out)])
         obtain ⟨n0, n1, n2, n3, n4, n5⟩ := six TB_25.out
         obtain ⟨r0, r1, r2, r3, r4, r5⟩ := six RB_26.out
         have hfz := fun o => blk_frozen RB_26.out o
         go_wp2_with fail
         try any_goals (exfalso; omega)
         have hp := put6 RB_26.out (.int .i64 lots) (.int .i64 st) (.slice (some ad2) 8 c2) (.slice (some ad3) 8 c3) (.slice (some ad4) 8 c4) (.slice (some ad5) 8 c5)
         clear n0 n1 n2 n3 n4 n5 r0 r1 r2 r3 r4 r5 hfz
         generalize World.setCell (World.setCell (World.setCell (World.setCell (World.setCell (World.setCell (w31) ⟨rb, 0, none⟩ (.int .i64 lots)) ⟨rb, 1, none⟩ (.int .i64 st)) ⟨rb, 2, none⟩ (.slice (some ad2) 8 c2)) ⟨rb, 3, none⟩ (.slice (some ad3) 8 c3)) ⟨rb, 4, none⟩ (.slice (some ad4) 8 c4)) ⟨rb, 5, none⟩ (.slice (some ad5) 8 c5) = wf at hp ⊢
         obtain ⟨hp1, hp2⟩ := hp
         have HBF := lhid (HB_27.out.trans (hp2.below HB_27.out.size (fun k q => by have h1 := HSrb.out; have h2 : k = rb := q; omega)))
         refine bodyPost_ret (results_ct rfl _ _ rb 93 #[(.int .i64 lots), (.int .i64 st), (.slice (some ad2) 8 c2), (.slice (some ad3) 8 c3), (.slice (some ad4) 8 c4), (.slice (some ad5) 8 c5)] (0, 0) _ rfl hp1 Try.underlying93 rfl (by kernel_rfl)) rfl ?_
         exact ⟨_, by rw [HS3.out]; first | done | rfl, by unfold showH; rw [if_neg (by rw [HS3.out]; decide)]; exact (HS0.out.next HBF.out).mono (fun k q => Or.inl q), HBF.out⟩
        have d : ¬ ((L.length : Int) + (l.length : Int) > 16) := le16 z
        have HZL := lhid z
        clear z hll
        go_upto_region 20 with (fail)
        try any_goals (exfalso; omega)
        clear d hws
        have HS3 := lhid (show showC lots st H (q : Int) l salt = 0 from by rw [HR.out, if_neg (fun z => z (by rw [HHD.out, ← HSVV.out, ← HKY.out]; exact HE.out)), if_neg HF.out, if_neg (by rw [HAN.out]; decide), if_neg (by rw [← HLL.out]; exact HZL.out)])
        have HSNW := lhid (show rb + 1 ≤ w31.heap.size from blk_lt RB_26.out)
        clear HSNOW
        have HSNOW := lhid HSNW.out
        obtain ⟨n0, n1, n2, n3, n4, n5⟩ := six TB_25.out
        go_wp2_with fail
        try any_goals (exfalso; omega)
        with_reducible refine (Copy_r w31 ok _ lots st H (HS0.out.next HB_27.out) HH.out HFE.out HL1.out HL2.out).mono ?_
        clear n0 n1 n2 n3 n4 n5
        rintro e w41 ⟨b2, d2, b3, d3, b4, d4, b5, d5, rfl, hcr, hb⟩
        have HCR := lhid (hcr.lower (show w.heap.size ≤ w31.heap.size from HB_27.out.size))
        have HLOW := lhid (show rb < b2 ∧ rb < b3 ∧ rb < b4 ∧ rb < b5 from by have h1 := hcr.lt.1; have h2 := HSrb.out; have h3 := HSNOW.out; omega)
        have HLOW2 := lhid (show w31.heap.size ≤ w41.heap.size from hb.size)
        clear hcr
        have TB_28 := lhid (blk_below TB_25.out hb)
        have RB_29 := lhid (blk_below RB_26.out hb)
        have HB_30 := lhid (below_then HB_27.out HB_27.out.size hb)
        clear TB_25 RB_26 HB_27 hb
        have CROLD := lhid HCR.out
        go_upto_region 21 with (fail)
        have hb := Zba (Below.refl w41.heap.size w41) (.cells #[.int .i64 lots, .int .i64 st, .slice (some ⟨b2, 0, none⟩) 8 d2, .slice (some ⟨b3, 0, none⟩) 8 d3, .slice (some ⟨b4, 0, none⟩) 8 d4, .slice (some ⟨b5, 0, none⟩) 8 d5] 93)
        have hn := blk_new w41 (.cells #[.int .i64 lots, .int .i64 st, .slice (some ⟨b2, 0, none⟩) 8 d2, .slice (some ⟨b3, 0, none⟩) 8 d3, .slice (some ⟨b4, 0, none⟩) 8 d4, .slice (some ⟨b5, 0, none⟩) 8 d5] 93)
        have HZ42 := lhid (show (World.alloc w41 (.cells #[.int .i64 lots, .int .i64 st, .slice (some ⟨b2, 0, none⟩) 8 d2, .slice (some ⟨b3, 0, none⟩) 8 d3, .slice (some ⟨b4, 0, none⟩) 8 d4, .slice (some ⟨b5, 0, none⟩) 8 d5] 93)).heap.size = w41.heap.size + 1 from by simp)
        generalize hq : World.alloc w41 (.cells #[.int .i64 lots, .int .i64 st, .slice (some ⟨b2, 0, none⟩) 8 d2, .slice (some ⟨b3, 0, none⟩) 8 d3, .slice (some ⟨b4, 0, none⟩) 8 d4, .slice (some ⟨b5, 0, none⟩) 8 d5] 93) = w42 at hb hn HZ42 ⊢
        clear hq
        have TB_31 := lhid (blk_below TB_28.out hb)
        have RB_32 := lhid (blk_below RB_29.out hb)
        have HB_33 := lhid (below_then HB_30.out HB_30.out.size hb)
        have CR_34 := lhid (HCR.out.next hb)
        clear TB_28 RB_29 HB_30 HCR hb
        have NB_35 := lhid (hn)
        clear hn
        obtain ⟨nb, hnb⟩ : ∃ q, q = w41.heap.size := ⟨_, rfl⟩
        rw [← hnb] at NB_35 ⊢
        have HSnb := lhid (show w.heap.size ≤ nb ∧ rb < nb ∧ b2 < nb ∧ b3 < nb ∧ b4 < nb ∧ b5 < nb from by have h1 := (CROLD.out).lt; have h2 := HSrb.out; have h3 := HLOW.out; have h4 := h1.2; rw [hnb]; omega)
        have HSNB := lhid (show w31.heap.size ≤ nb from by rw [hnb]; exact HLOW2.out)
        clear hnb CROLD HLOW2
        have n4 := (blk_cell NB_35.out 4).trans rfl
        obtain ⟨dc, df⟩ := CR_34.out.at4 hq
        go_upto_region 22 with (fail)
        try any_goals (exfalso; omega)
        clear n4 dc df
        have TBa := lhid (blk_far TB_31.out (p := ⟨b4, q, none⟩) (by have h1 := HSrb.out; have h2 := HSnb.out; have h3 := HLOW.out; show tb ≠ b4; omega) (.bool true))
        have RBa := lhid (blk_far RB_32.out (p := ⟨b4, q, none⟩) (by have h1 := HSrb.out; have h2 := HSnb.out; have h3 := HLOW.out; show rb ≠ b4; omega) (.bool true))
        have NBa := lhid (blk_far NB_35.out (p := ⟨b4, q, none⟩) (by have h1 := HSrb.out; have h2 := HSnb.out; have h3 := HLOW.out; show nb ≠ b4; omega) (.bool true))
        have CRa := lhid (CR_34.out.put4 q true)
        have HBa := lhid (HB_33.out.setCell (p := ⟨b4, q, none⟩) (by have h1 := HSrb.out; have h2 := HSnb.out; have h3 := HLOW.out; show w.heap.size ≤ b4; omega) (.bool true))
        clear TB_31 RB_32 NB_35 CR_34 HB_33
        generalize World.setCell w42 ⟨b4, q, none⟩ (.bool true) = wza at TBa RBa NBa CRa HBa ⊢
        obtain ⟨N, hN⟩ : ∃ N, N = wza.heap.size := ⟨_, rfl⟩
        have HNS := lhid (Nat.le_of_eq hN)
        have HS50 := lhid (Kd.S_mono (Kd.S_bound CRa.out.g5) (ok' := fun k => True ∧ ¬ N ≤ k) (fun k q => ⟨trivial, by have h1 := q.2.2.1; omega⟩))
        have HB5N := lhid (show b5 < N by rw [hN]; exact Kd.S_lt CRa.out.g5 b5 (by simp [Value.ownBlock]))
        clear hN
        obtain ⟨oki, c9, hcl9, hM9, hcc9, hf9, hok9, hH9⟩ := Kd.S_elem HS50.out ([] : List S50) (q : Int) hq0 hq8
        obtain ⟨v9, rfl, hR9⟩ := hM9
        have y5 := hcc9 0 v9 rfl
        simp only [Int.toNat_natCast, show (Kd.slice 50 k50).sz = 1 from rfl, Nat.mul_one, Nat.add_zero] at y5
        obtain ⟨xs, hxs⟩ : ∃ x, x = (H.map (·.off)).getD (q : Int).toNat [] := ⟨_, rfl⟩
        rw [← hxs] at hR9
        have HXS := lhid hxs
        have HXN := lhid (show xs = [] by rw [hxs]; exact xs_nil HNO.out hq HH.out (by rw [HHD.out]; exact HSH.out))
        obtain ⟨A9, c90, hv9⟩ := Kd.R_slice hR9
        subst hv9
        have HR9 := lhid hR9
        have HOK9 := lhid hok9
        have HH9 := lhid hH9
        clear hcl9 hcc9 hf9 hok9 hH9 hR9 hxs
        have hb := Zbd (Below.refl wza.heap.size wza)
        have TB_36 := lhid (blk_below TBa.out hb)
        have RB_37 := lhid (blk_below RBa.out hb)
        have HB_38 := lhid (below_then HBa.out HBa.out.size hb)
        have CR_39 := lhid (CRa.out.next hb)
        have NB_40 := lhid (blk_below NBa.out hb)
        have R9_41 := lhid (Kd.R_below HR9.out hb)
        have H9_42 := lhid (Kd.H_below HH9.out hb)
        have S50_43 := lhid (Kd.S_below HS50.out hb)
        have Y5_44 := pw_cell_below hb y5
        have NS_45 := lhid (Nat.le_trans HNS.out (hb).size)
        clear TBa RBa HBa CRa NBa HR9 HH9 HS50 y5 HNS hb
        refine start_ (n := 12) (S := fun w' => w'.cell? ⟨nb, 5, none⟩ = some (.slice (some ⟨b5, 0, none⟩) 8 d5) ∧ w'.cell? ⟨b5, q, none⟩ = some (.slice A9 xs.length c90)) (ds := [11]) (lsb 12 0) (by kernel_rfl) rfl (by kernel_rfl) ⟨(blk_cell NB_40.out 5).trans rfl, Y5_44⟩ (fun hHeld => ?_)
        generalize wza.drew = w43 at TB_36 RB_37 HB_38 CR_39 NB_40 R9_41 H9_42 S50_43 Y5_44 NS_45 hHeld ⊢
        refine pu 0 (some 94) 12 1 rfl rfl (v := ?_) (a' := ?_) ?_ ?_ ?_; rotate_left; (intro w'; go_simp; with_reducible rfl); rotate_left; (simp only [Act.put, pS]; rfl)
        refine pu 2 (some 96) 12 5 rfl rfl (v := ?_) (a' := ?_) ?_ ?_ ?_; rotate_left; (intro w'; go_simp; with_reducible rfl); rotate_left; (simp only [Act.put, pS]; rfl)
        refine pu 3 (some 97) 12 13 rfl rfl (v := ?_) (a' := ?_) ?_ ?_ ?_; rotate_left; (intro w'; go_simp; with_reducible rfl); rotate_left; (simp only [Act.put, pS]; rfl)
        refine pu 5 (some 99) 12 45 rfl rfl (v := ?_) (a' := ?_) ?_ ?_ ?_; rotate_left; (intro w'; go_simp; with_reducible rfl); rotate_left; (simp only [Act.put, pS]; rfl)
        refine pu 8 (some 102) 12 301 rfl rfl (v := ?_) (a' := ?_) ?_ ?_ ?_; rotate_left; (intro w'; go_simp; with_reducible rfl); rotate_left; (simp only [Act.put, pS]; rfl)
        refine tk 1 (some 95) 12 303 rfl rfl hHeld (v := ?_) (a' := ?_) ?_ ?_ ?_; rotate_left; (rintro w' ⟨s0, s1⟩; go_simp; with_reducible rfl); rotate_left; (simp only [Act.put, pS]; rfl)
        refine tk 4 (some 98) 12 319 rfl rfl hHeld (v := ?_) (a' := ?_) ?_ ?_ ?_; rotate_left; (rintro w' ⟨s0, s1⟩; go_simp; with_reducible rfl); rotate_left; (simp only [Act.put, pS]; rfl)
        refine pu 6 (some 100) 12 383 rfl rfl (v := ?_) (a' := ?_) ?_ ?_ ?_; rotate_left; (intro w'; go_simp; with_reducible rfl); rotate_left; (simp only [Act.put, pS]; rfl)
        refine tk 7 (some 101) 12 511 rfl rfl hHeld (v := ?_) (a' := ?_) ?_ ?_ ?_; rotate_left; (rintro w' ⟨s0, s1⟩; go_simp; with_reducible rfl); rotate_left; (simp only [Act.put, pS]; rfl)
        refine one_ (i := 9) (N := some 103) (lsb 12 1023) rfl rfl (by kernel_rfl) (by decide) (fun K hK => ?_)
        refine Kd.R_append_rows_step k50 (w0 := w) w.heap.size (by rfl) (.tmp 101) (.tmp 102) 22 50 (.agg #[(.int .i64 0), (.int .i64 0), (.int .i64 0)]) 24 rfl Try.underlying22 info50 rfl (by decide) (by omega) (.slice A9 xs.length c90) xs l _ _ _ (fun k_ => oki k_ ∨ N ≤ k_) (fun _ => False) rfl rfl ?aO ?aR (fun _ _ h => h) (fun _ h => h.elim) ?aF ?aB ?aS ?aL ?_
        (case aR => exact Kd.C_below HCL.out HB_38.out)
        (case aB => exact HB_38.out)
        (case aF => exact (fun k_ hk => Or.inr (Nat.le_trans NS_45.out hk)))
        (case aO => exact Kd.R_mono R9_41.out (fun k q => Or.inl q))
        (case aS => exact HB_38.out.size)
        (case aL => have h1 := HLEN.out; have h2 := HXN.out; rw [h2]; simp; omega)
        intro v8 w8 ho8 hb8 hg8 hat8
        obtain ⟨A8, c80, hv8⟩ := Kd.R_slice ho8
        rw [List.length_append] at hv8
        subst hv8
        have HTY := lhid (Kd.R_typed R9_41.out)
        have C28 := lhid (Kd.R_over' CR_39.out.g2 HTY.out (by decide) hg8)
        have C38 := lhid (Kd.R_over' CR_39.out.g3 HTY.out (by decide) hg8)
        have C48 := lhid (Kd.R_over' CR_39.out.g4 HTY.out (by decide) hg8)
        have TB8 := lhid (blk_grown TB_36.out hg8 (Kd.R_ne R9_41.out TB_36.out (by decide)))
        have RB8 := lhid (blk_grown RB_37.out hg8 (Kd.R_ne R9_41.out RB_37.out (by decide)))
        have NB8 := lhid (blk_grown NB_40.out hg8 (Kd.R_ne R9_41.out NB_40.out (by decide)))
        have HH8 := lhid (Kd.H_grown H9_42.out hg8 (fun k e => R9_41.out.1 k e))
        obtain ⟨cs5, hs5⟩ := Kd.S_typed S50_43.out b5 (by simp [Value.ownBlock])
        have HS5 := lhid (blk_grown hs5 hg8 (Kd.R_ne R9_41.out hs5 (by decide)))
        have HB8 := lhid hb8
        have HO8 := lhid ho8
        clear ho8 hb8 hg8 hat8 hs5 HTY TB_36 RB_37 HB_38 CR_39 NB_40 R9_41 H9_42 S50_43 Y5_44 NS_45
        refine hK.out _ _ ⟨(blk_cell NB8.out 5).trans rfl, (by have h1 := H_cell HH8.out hq0 hq8 rfl rfl; simp only [Int.toNat_natCast] at h1; exact h1)⟩ (fun hHeld => ?_)
        clear hK K
        refine norm_ (a' := ?_) ?_ ?_
        rotate_left
        ·
         show Act.put _ (some 103) _ = _
         simp only [Act.put, pS]
         rfl
        refine pu 10 (some 104) 12 2047 rfl rfl (v := ?_) (a' := ?_) ?_ ?_ ?_; rotate_left; (intro w'; go_simp; with_reducible rfl); rotate_left; (simp only [Act.put, pS]; rfl)
        refine last_ (i := 11) (N := none) (lsb 12 4095) rfl rfl (by kernel_rfl) (by decide) (fun K hK => ?_)
        have dc := H_cell HH8.out hq0 hq8 rfl rfl
        simp only [Int.toNat_natCast] at dc
        have df := blk_frozen HS5.out q
        refine skip_ (w1 := ?_) (by rfl) rfl ?_ ?_
        rotate_left
        ·
         go_simp
         rfl
        clear dc df
        refine hK.out _ _ ?_
        clear hK K
        refine done_ (by kernel_rfl) ?_
        
        have hsg := Kd.S_seg (ok := fun _ => True) (okg := fun k => N ≤ k) HH8.out hq0 hq8 (seg := [(.slice A8 (xs.length + l.length) c80)]) (j := 0) (show 1 ≤ 1 from by decide) (x' := xs ++ l) (okp := fun k => (oki k ∨ N ≤ k) ∧ k ≠ b5) ⟨_, rfl, Kd.R_types HO8.out HS5.out (by decide)⟩ (fun k q => q.1) (fun k q => ⟨trivial, fun e => by have h1 := HB5N.out; have h2 : N ≤ k := q; omega⟩)
        simp only [Int.toNat_natCast, show (Kd.slice 50 k50).sz = 1 from rfl, Nat.mul_one, Nat.add_zero] at hsg
        have hcr : CR (World.setCell w8 ⟨b5, q, none⟩ (.slice A8 (xs.length + l.length) c80)) w.heap.size b2 d2 b3 d3 b4 d4 b5 d5 (H.map (·.sl)) (H.map (·.key)) ((H.map (·.sh)).set q true) ((H.map (·.off)).set q (xs ++ l)) := ⟨Kd.R_set C28.out HS5.out (by decide) q _, Kd.R_set C38.out HS5.out (by decide) q _, Kd.R_set C48.out HS5.out (by decide) q _, hsg.1⟩
        have HCRN := lhid hcr
        clear hsg hcr C28 C38 C48 HS5 HH8 HO8
        clear cs5
        have TBb := lhid (blk_far TB8.out (p := ⟨b5, q, none⟩) (by have h1 := HSrb.out; have h2 := HSnb.out; have h3 := HLOW.out; show tb ≠ b5; omega) (.slice A8 (xs.length + l.length) c80))
        have RBb := lhid (blk_far RB8.out (p := ⟨b5, q, none⟩) (by have h1 := HSrb.out; have h2 := HSnb.out; have h3 := HLOW.out; show rb ≠ b5; omega) (.slice A8 (xs.length + l.length) c80))
        have NBb := lhid (blk_far NB8.out (p := ⟨b5, q, none⟩) (by have h1 := HSrb.out; have h2 := HSnb.out; have h3 := HLOW.out; show nb ≠ b5; omega) (.slice A8 (xs.length + l.length) c80))
        have HBb := lhid (HB8.out.setCell (p := ⟨b5, q, none⟩) (by have h1 := HSrb.out; have h2 := HSnb.out; have h3 := HLOW.out; show w.heap.size ≤ b5; omega) (.slice A8 (xs.length + l.length) c80))
        clear TB8 RB8 NB8 HB8
        generalize World.setCell w8 ⟨b5, q, none⟩ (.slice A8 (xs.length + l.length) c80) = wzb at TBb RBb NBb HBb HCRN ⊢
        have HXL := lhid (show xs ++ l = l by rw [HXN.out]; rfl)
        obtain ⟨n0, n1, n2, n3, n4, n5⟩ := six NBb.out
        obtain ⟨r0, r1, r2, r3, r4, r5⟩ := six RBb.out
        have hfz := fun o => blk_frozen RBb.out o
        go_wp2_with fail
        try any_goals (exfalso; omega)
        have hp := put6 RBb.out (.int .i64 lots) (.int .i64 st) (.slice (some ⟨b2, 0, none⟩) 8 d2) (.slice (some ⟨b3, 0, none⟩) 8 d3) (.slice (some ⟨b4, 0, none⟩) 8 d4) (.slice (some ⟨b5, 0, none⟩) 8 d5)
        clear n0 n1 n2 n3 n4 n5 r0 r1 r2 r3 r4 r5 hfz
        generalize World.setCell (World.setCell (World.setCell (World.setCell (World.setCell (World.setCell (wzb) ⟨rb, 0, none⟩ (.int .i64 lots)) ⟨rb, 1, none⟩ (.int .i64 st)) ⟨rb, 2, none⟩ (.slice (some ⟨b2, 0, none⟩) 8 d2)) ⟨rb, 3, none⟩ (.slice (some ⟨b3, 0, none⟩) 8 d3)) ⟨rb, 4, none⟩ (.slice (some ⟨b4, 0, none⟩) 8 d4)) ⟨rb, 5, none⟩ (.slice (some ⟨b5, 0, none⟩) 8 d5) = wf at hp ⊢
        obtain ⟨hp1, hp2⟩ := hp
        have HBF := lhid (HBb.out.trans (hp2.below HBb.out.size (fun k q => by have h1 := HSrb.out; have h2 : k = rb := q; omega)))
        have HCF := lhid (HCRN.out.far RBb.out hp2)
        refine bodyPost_ret (results_ct rfl _ _ rb 93 #[(.int .i64 lots), (.int .i64 st), (.slice (some ⟨b2, 0, none⟩) 8 d2), (.slice (some ⟨b3, 0, none⟩) 8 d3), (.slice (some ⟨b4, 0, none⟩) 8 d4), (.slice (some ⟨b5, 0, none⟩) 8 d5)] (0, 0) _ rfl hp1 Try.underlying93 rfl (by kernel_rfl)) rfl ?_
        exact ⟨_, by rw [HS3.out]; first | done | rfl, (HCF.out.SV (show_m2 HS3.out HH.out hq) (show_m3 HS3.out HH.out hq) (show_m4 HS3.out HH.out hq) (by rw [HXL.out]; exact show_m5 HS3.out HH.out hq)).mono (fun k q => Or.inr q), HBF.out⟩
     ·
      have d : (sv != ky) = true := bne_iff_ne.2 e
      have HE := lhid e
      clear e
      have HS3 := lhid (show showC lots st H (q : Int) l salt = 11 from by rw [HR.out, if_pos (by rw [HHD.out, ← HSVV.out, ← HKY.out]; exact HE.out)])
      obtain ⟨n0, n1, n2, n3, n4, n5⟩ := six TB_11.out
      obtain ⟨r0, r1, r2, r3, r4, r5⟩ := six RB_12.out
      have hfz := fun o => blk_frozen RB_12.out o
      go_wp2_with fail
      try any_goals (exfalso; omega)
      have hp := put6 RB_12.out (.int .i64 lots) (.int .i64 st) (.slice (some ad2) 8 c2) (.slice (some ad3) 8 c3) (.slice (some ad4) 8 c4) (.slice (some ad5) 8 c5)
      clear n0 n1 n2 n3 n4 n5 r0 r1 r2 r3 r4 r5 hfz
      generalize World.setCell (World.setCell (World.setCell (World.setCell (World.setCell (World.setCell (w7) ⟨rb, 0, none⟩ (.int .i64 lots)) ⟨rb, 1, none⟩ (.int .i64 st)) ⟨rb, 2, none⟩ (.slice (some ad2) 8 c2)) ⟨rb, 3, none⟩ (.slice (some ad3) 8 c3)) ⟨rb, 4, none⟩ (.slice (some ad4) 8 c4)) ⟨rb, 5, none⟩ (.slice (some ad5) 8 c5) = wf at hp ⊢
      obtain ⟨hp1, hp2⟩ := hp
      have HBF := lhid (HB_10.out.trans (hp2.below HB_10.out.size (fun k q => by have h1 := HSrb.out; have h2 : k = rb := q; omega)))
      refine bodyPost_ret (results_ct rfl _ _ rb 93 #[(.int .i64 lots), (.int .i64 st), (.slice (some ad2) 8 c2), (.slice (some ad3) 8 c3), (.slice (some ad4) 8 c4), (.slice (some ad5) 8 c5)] (0, 0) _ rfl hp1 Try.underlying93 rfl (by kernel_rfl)) rfl ?_
      exact ⟨_, by rw [HS3.out]; first | done | rfl, by unfold showH; rw [if_neg (by rw [HS3.out]; decide)]; exact (HS0.out.next HBF.out).mono (fun k q => Or.inl q), HBF.out⟩
    ·
     rw [hsh] at y4
     have HSH := lhid hsh
     clear hsh
     have HS3 := lhid (show showC lots st H (q : Int) l salt = 7 from show_7s HL1.out HA.out HBU.out (by rw [HHD.out]; exact HSL.out) (by rw [HHD.out]; exact HSH.out))
     obtain ⟨n0, n1, n2, n3, n4, n5⟩ := six TB_5.out
     obtain ⟨r0, r1, r2, r3, r4, r5⟩ := six RB_6.out
     have hfz := fun o => blk_frozen RB_6.out o
     go_wp2_with fail
     try any_goals (exfalso; omega)
     have hp := put6 RB_6.out (.int .i64 lots) (.int .i64 st) (.slice (some ad2) 8 c2) (.slice (some ad3) 8 c3) (.slice (some ad4) 8 c4) (.slice (some ad5) 8 c5)
     clear n0 n1 n2 n3 n4 n5 r0 r1 r2 r3 r4 r5 hfz
     generalize World.setCell (World.setCell (World.setCell (World.setCell (World.setCell (World.setCell (w2) ⟨rb, 0, none⟩ (.int .i64 lots)) ⟨rb, 1, none⟩ (.int .i64 st)) ⟨rb, 2, none⟩ (.slice (some ad2) 8 c2)) ⟨rb, 3, none⟩ (.slice (some ad3) 8 c3)) ⟨rb, 4, none⟩ (.slice (some ad4) 8 c4)) ⟨rb, 5, none⟩ (.slice (some ad5) 8 c5) = wf at hp ⊢
     obtain ⟨hp1, hp2⟩ := hp
     have HBF := lhid (HB_4.out.trans (hp2.below HB_4.out.size (fun k q => by have h1 := HSrb.out; have h2 : k = rb := q; omega)))
     refine bodyPost_ret (results_ct rfl _ _ rb 93 #[(.int .i64 lots), (.int .i64 st), (.slice (some ad2) 8 c2), (.slice (some ad3) 8 c3), (.slice (some ad4) 8 c4), (.slice (some ad5) 8 c5)] (0, 0) _ rfl hp1 Try.underlying93 rfl (by kernel_rfl)) rfl ?_
     exact ⟨_, by rw [HS3.out]; first | done | rfl, by unfold showH; rw [if_neg (by rw [HS3.out]; decide)]; exact (HS0.out.next HBF.out).mono (fun k q => Or.inl q), HBF.out⟩
  ·
   have HBU := lhid b
   by_cases c : who < 0
   ·
    have d1 : decide (who < 0) = true := decide_eq_true c
    clear b
    have HS3 := lhid (show showC lots st H who l salt = 2 from show_2 HL1.out HA.out HBU.out)
    obtain ⟨n0, n1, n2, n3, n4, n5⟩ := six TB_5.out
    obtain ⟨r0, r1, r2, r3, r4, r5⟩ := six RB_6.out
    have hfz := fun o => blk_frozen RB_6.out o
    go_wp2_with fail
    try any_goals (exfalso; omega)
    have hp := put6 RB_6.out (.int .i64 lots) (.int .i64 st) (.slice (some ad2) 8 c2) (.slice (some ad3) 8 c3) (.slice (some ad4) 8 c4) (.slice (some ad5) 8 c5)
    clear n0 n1 n2 n3 n4 n5 r0 r1 r2 r3 r4 r5 hfz
    generalize World.setCell (World.setCell (World.setCell (World.setCell (World.setCell (World.setCell (w2) ⟨rb, 0, none⟩ (.int .i64 lots)) ⟨rb, 1, none⟩ (.int .i64 st)) ⟨rb, 2, none⟩ (.slice (some ad2) 8 c2)) ⟨rb, 3, none⟩ (.slice (some ad3) 8 c3)) ⟨rb, 4, none⟩ (.slice (some ad4) 8 c4)) ⟨rb, 5, none⟩ (.slice (some ad5) 8 c5) = wf at hp ⊢
    obtain ⟨hp1, hp2⟩ := hp
    have HBF := lhid (HB_4.out.trans (hp2.below HB_4.out.size (fun k q => by have h1 := HSrb.out; have h2 : k = rb := q; omega)))
    refine bodyPost_ret (results_ct rfl _ _ rb 93 #[(.int .i64 lots), (.int .i64 st), (.slice (some ad2) 8 c2), (.slice (some ad3) 8 c3), (.slice (some ad4) 8 c4), (.slice (some ad5) 8 c5)] (0, 0) _ rfl hp1 Try.underlying93 rfl (by kernel_rfl)) rfl ?_
    exact ⟨_, by rw [HS3.out]; first | done | rfl, by unfold showH; rw [if_neg (by rw [HS3.out]; decide)]; exact (HS0.out.next HBF.out).mono (fun k q => Or.inl q), HBF.out⟩
   ·
    have d1 : decide (who < 0) = false := decide_eq_false c
    have d2 : decide (who > 7) = true := decide_eq_true (by unfold buyB at b; simp at b; omega)
    clear b
    have HS3 := lhid (show showC lots st H who l salt = 2 from show_2 HL1.out HA.out HBU.out)
    obtain ⟨n0, n1, n2, n3, n4, n5⟩ := six TB_5.out
    obtain ⟨r0, r1, r2, r3, r4, r5⟩ := six RB_6.out
    have hfz := fun o => blk_frozen RB_6.out o
    go_wp2_with fail
    try any_goals (exfalso; omega)
    have hp := put6 RB_6.out (.int .i64 lots) (.int .i64 st) (.slice (some ad2) 8 c2) (.slice (some ad3) 8 c3) (.slice (some ad4) 8 c4) (.slice (some ad5) 8 c5)
    clear n0 n1 n2 n3 n4 n5 r0 r1 r2 r3 r4 r5 hfz
    generalize World.setCell (World.setCell (World.setCell (World.setCell (World.setCell (World.setCell (w2) ⟨rb, 0, none⟩ (.int .i64 lots)) ⟨rb, 1, none⟩ (.int .i64 st)) ⟨rb, 2, none⟩ (.slice (some ad2) 8 c2)) ⟨rb, 3, none⟩ (.slice (some ad3) 8 c3)) ⟨rb, 4, none⟩ (.slice (some ad4) 8 c4)) ⟨rb, 5, none⟩ (.slice (some ad5) 8 c5) = wf at hp ⊢
    obtain ⟨hp1, hp2⟩ := hp
    have HBF := lhid (HB_4.out.trans (hp2.below HB_4.out.size (fun k q => by have h1 := HSrb.out; have h2 : k = rb := q; omega)))
    refine bodyPost_ret (results_ct rfl _ _ rb 93 #[(.int .i64 lots), (.int .i64 st), (.slice (some ad2) 8 c2), (.slice (some ad3) 8 c3), (.slice (some ad4) 8 c4), (.slice (some ad5) 8 c5)] (0, 0) _ rfl hp1 Try.underlying93 rfl (by kernel_rfl)) rfl ?_
    exact ⟨_, by rw [HS3.out]; first | done | rfl, by unfold showH; rw [if_neg (by rw [HS3.out]; decide)]; exact (HS0.out.next HBF.out).mono (fun k q => Or.inl q), HBF.out⟩
 ·
  have d : (st != 1) = true := bne_iff_ne.2 a
  have HA := lhid a
  clear a
  have HS3 := lhid (show showC lots st H who l salt = 9 from show_9 HL1.out HA.out)
  obtain ⟨n0, n1, n2, n3, n4, n5⟩ := six TB_5.out
  obtain ⟨r0, r1, r2, r3, r4, r5⟩ := six RB_6.out
  have hfz := fun o => blk_frozen RB_6.out o
  go_wp2_with fail
  try any_goals (exfalso; omega)
  have hp := put6 RB_6.out (.int .i64 lots) (.int .i64 st) (.slice (some ad2) 8 c2) (.slice (some ad3) 8 c3) (.slice (some ad4) 8 c4) (.slice (some ad5) 8 c5)
  clear n0 n1 n2 n3 n4 n5 r0 r1 r2 r3 r4 r5 hfz
  generalize World.setCell (World.setCell (World.setCell (World.setCell (World.setCell (World.setCell (w2) ⟨rb, 0, none⟩ (.int .i64 lots)) ⟨rb, 1, none⟩ (.int .i64 st)) ⟨rb, 2, none⟩ (.slice (some ad2) 8 c2)) ⟨rb, 3, none⟩ (.slice (some ad3) 8 c3)) ⟨rb, 4, none⟩ (.slice (some ad4) 8 c4)) ⟨rb, 5, none⟩ (.slice (some ad5) 8 c5) = wf at hp ⊢
  obtain ⟨hp1, hp2⟩ := hp
  have HBF := lhid (HB_4.out.trans (hp2.below HB_4.out.size (fun k q => by have h1 := HSrb.out; have h2 : k = rb := q; omega)))
  refine bodyPost_ret (results_ct rfl _ _ rb 93 #[(.int .i64 lots), (.int .i64 st), (.slice (some ad2) 8 c2), (.slice (some ad3) 8 c3), (.slice (some ad4) 8 c4), (.slice (some ad5) 8 c5)] (0, 0) _ rfl hp1 Try.underlying93 rfl (by kernel_rfl)) rfl ?_
  exact ⟨_, by rw [HS3.out]; first | done | rfl, by unfold showH; rw [if_neg (by rw [HS3.out]; decide)]; exact (HS0.out.next HBF.out).mono (fun k q => Or.inl q), HBF.out⟩
end Go.Proofs.Ythfdjccdelbeeaa.PT
end
section
namespace Go.Proofs.Ythfdjccdelbeeaa.PT
open Go.RowKit Go.Proofs.YthfdjccdelbeeaaW.PrintWords Go.Proofs.YthfdjccdelbeeaaW.PrintLast Go.Proofs.YthfdjccdelbeeaaW.PrintMore
set_option linter.unusedVariables false
set_option linter.unusedSimpArgs false
structure DI (lots st : Int) (H : List Hd) : Prop where
 l1 : 1 ≤ lots
 l2 : lots ≤ 12
 len : H.length = 8
 few : Few H
 no : ∀ h ∈ H, h.sh = false → h.off = []
 op : st = 0 → ∀ h ∈ H, h.sh = false
 gd : ∀ o ∈ H.flatMap (·.off), good lots o = true
 l16 : (H.flatMap (·.off)).length ≤ 16
section
variable {W : World} {ok : Nat → Prop} {v : Value} {lots st st' : Int} {H H' : List Hd}
theorem SV.bound (h : SV W ok v lots st H) : SV W (fun k => ok k ∧ k < W.heap.size) v lots st H := by
 obtain ⟨A2, A3, A4, A5, c2, c3, c4, c5, e, ⟨l2, f2⟩, ⟨l3, f3⟩, ⟨l4, f4⟩, l5, f5⟩ := h
 exact ⟨A2, A3, A4, A5, c2, c3, c4, c5, e, ⟨l2, Kd.F_bound f2⟩, ⟨l3, Kd.F_bound f3⟩, ⟨l4, Kd.F_bound f4⟩, l5, Kd.F_bound f5⟩
theorem SV.like (h : SV W ok v lots st H) (e2 : H.map (·.sl) = H'.map (·.sl)) (e3 : H.map (·.key) = H'.map (·.key)) (e4 : H.map (·.sh) = H'.map (·.sh)) (e5 : H.map (·.off) = H'.map (·.off)) : SV W ok v lots st H' := by
 obtain ⟨A2, A3, A4, A5, c2, c3, c4, c5, e, ⟨l2, f2⟩, ⟨l3, f3⟩, ⟨l4, f4⟩, l5, f5⟩ := h
 rw [e2] at f2
 rw [e3] at f3
 rw [e4] at f4
 rw [e5] at f5
 exact ⟨A2, A3, A4, A5, c2, c3, c4, c5, e, ⟨l2, f2⟩, ⟨l3, f3⟩, ⟨l4, f4⟩, l5, f5⟩
theorem DI.vld (h : DI lots st H) : Vld lots (H.flatMap (·.off)) := by
 refine errS_zero.1 ?_
 unfold errS
 have h1 := h.l1
 have h2 := h.l2
 have h3 := h.l16
 rw [if_neg (by omega), if_neg (by omega), if_pos (List.all_eq_true.2 h.gd)]
theorem flat_set {H : List Hd} {q : Nat} {x : Hd} : ∀ o ∈ (H.set q x).flatMap (·.off), o ∈ H.flatMap (·.off) ∨ o ∈ x.off := fun o ho => by
 obtain ⟨h, h1, h2⟩ := List.mem_flatMap.1 ho
 rcases List.mem_or_eq_of_mem_set h1 with z | z
 ·
  exact Or.inl (List.mem_flatMap.2 ⟨h, z, h2⟩)
 ·
  exact Or.inr (z ▸ h2)
theorem flat_len : ∀ {H : List Hd} {q : Nat} {x : Hd}, (H.getD q hd0).off = [] → q < H.length → ((H.set q x).flatMap (·.off)).length = (H.flatMap (·.off)).length + x.off.length
 | [], q, x, _, h => by simp at h
 | h :: H, 0, x, e, _ => by
  have e' : h.off = [] := e
  rw [List.set_cons_zero, List.flatMap_cons, List.flatMap_cons, e', List.length_append, List.nil_append]; omega
 | h :: H, q + 1, x, e, hq => by
  have := flat_len (H := H) (q := q) (x := x) (by simpa using e) (by simpa using hq)
  rw [List.set_cons_succ, List.flatMap_cons, List.flatMap_cons, List.length_append, List.length_append, this]; omega
theorem getD_mem {H : List Hd} {q : Nat} (h : q < H.length) : H.getD q hd0 ∈ H := by
 rw [List.getD_eq_getElem?_getD, List.getElem?_eq_getElem h]; exact List.getElem_mem h
theorem sub_zero {who : Int} (hl : 1 ≤ lots) (h : subC lots st who = 0) : st = 0 ∧ ∃ q : Nat, who = (q : Int) ∧ q < 8 := by
 by_cases a : st = 0
 ·
  refine ⟨a, ?_⟩
  by_cases b : buyB who = true
  ·
   exact ⟨who.toNat, by unfold buyB at b; simp at b; omega, by unfold buyB at b; simp at b; omega⟩
  ·
   rw [sub_2 hl a b] at h; cases h
 ·
  rw [sub_9 hl a] at h; cases h
theorem DI.sub (h : DI lots st H) (who ky : Int) : DI lots st (subH lots st H who ky) := by
 by_cases c : subC lots st who = 0
 ·
  obtain ⟨a, q, rfl, hq⟩ := sub_zero h.l1 c
  have hl := h.len
  have hg := h.no _ (getD_mem (H := H) (q := q) (by omega)) (h.op a _ (getD_mem (by omega)))
  unfold subH
  rw [if_pos c, Int.toNat_natCast]
  refine ⟨h.l1, h.l2, by simpa using h.len, fun x hx => ?_, fun x hx _ => ?_, fun _ x hx => ?_, fun o ho => ?_, ?_⟩
  ·
   rcases List.mem_or_eq_of_mem_set hx with z | z
   ·
    exact h.few x z
   ·
    subst z; exact Nat.zero_le _
  ·
   rcases List.mem_or_eq_of_mem_set hx with z | z
   ·
    exact h.no x z (h.op a x z)
   ·
    subst z; rfl
  ·
   rcases List.mem_or_eq_of_mem_set hx with z | z
   ·
    exact h.op a x z
   ·
    subst z; rfl
  ·
   rcases flat_set o ho with z | z
   ·
    exact h.gd o z
   ·
    cases z
  ·
   rw [flat_len hg (by omega)]; exact h.l16
 ·
  unfold subH; rw [if_neg c]; exact h
theorem SV.sub {who ky : Int} (hd : DI lots st H) (h : SV W ok v lots st (subS lots st H who ky)) : SV W ok v lots st (subH lots st H who ky) := by
 by_cases c : subC lots st who = 0
 ·
  obtain ⟨a, q, rfl, hq⟩ := sub_zero hd.l1 c
  have hl := hd.len
  have hg := hd.no _ (getD_mem (H := H) (q := q) (by omega)) (hd.op a _ (getD_mem (by omega)))
  have hs := hd.op a _ (getD_mem (H := H) (q := q) (by omega))
  unfold subH; unfold subS at h
  rw [if_pos c, Int.toNat_natCast] at h ⊢
  refine h.like ?_ ?_ ?_ ?_ <;> rw [List.map_set, List.map_set]
  ·
   rw [hs]
  ·
   rw [hg]
 ·
  unfold subH; unfold subS at h; rw [if_neg c] at h ⊢; exact h
theorem DI.shut (h : DI lots st H) : DI lots (shutS lots st) H := by
 refine ⟨h.l1, h.l2, h.len, h.few, h.no, fun e => h.op ?_, h.gd, h.l16⟩
 unfold shutS at e
 split at e
 ·
  cases e
 ·
  exact e
theorem DI.cls (h : DI lots st H) : DI lots (clS lots st) H := by
 refine ⟨h.l1, h.l2, h.len, h.few, h.no, fun e => h.op ?_, h.gd, h.l16⟩
 unfold clS at e
 split at e
 ·
  cases e
 ·
  exact e
theorem show_zero {who s : Int} {l : List S50} (hl : 1 ≤ lots) (h : showC lots st H who l s = 0) : st = 1 ∧ ∃ q : Nat, who = (q : Int) ∧ q < 8 ∧ (H.getD q hd0).sh = false ∧ l.length ≤ 4 ∧ l.any (badO lots who) = false ∧ (H.flatMap (·.off)).length + l.length ≤ 16 := by
 by_cases a : st = 1
 ·
  by_cases b : buyB who = true
  ·
   obtain ⟨q, rfl⟩ : ∃ q : Nat, who = (q : Int) := ⟨who.toNat, by unfold buyB at b; simp at b; omega⟩
   have hq : q < 8 := by unfold buyB at b; simp at b; omega
   cases c : (H.getD (q : Int).toNat hd0).sl with
   | false => rw [show_6 hl a b c] at h; cases h
   | true =>
    cases d : (H.getD (q : Int).toNat hd0).sh with
    | true => rw [show_7s hl a b c d] at h; cases h
    | false =>
     rw [show_r hl a b c d] at h
     refine ⟨a, q, rfl, hq, by rw [Int.toNat_natCast] at d; exact d, ?_⟩
     split at h
     ·
      cases h
     ·
      split at h
      ·
       cases h
      ·
       split at h
       ·
        cases h
       ·
        split at h
        ·
         cases h
        ·
         next z1 z2 z3 => exact ⟨by omega, by simpa using z2, by omega⟩
  ·
   rw [show_2 hl a b] at h; cases h
 ·
  rw [show_9 hl a] at h; cases h
theorem DI.shows (h : DI lots st H) (who : Int) (l : List S50) (s : Int) (x : Value) : DI lots st (showH lots st H who l s x) := by
 by_cases c : showC lots st H who l s = 0
 ·
  obtain ⟨a, q, rfl, hq, hs, h4, hb, h16⟩ := show_zero h.l1 c
  have hl := h.len
  have hg := h.no _ (getD_mem (H := H) (q := q) (by omega)) hs
  rw [showH_yes c, Int.toNat_natCast]
  refine ⟨h.l1, h.l2, by simpa using h.len, fun y hy => ?_, fun y hy e => ?_, fun e => absurd (a.symm.trans e) (by decide), fun o ho => ?_, ?_⟩
  ·
   rcases List.mem_or_eq_of_mem_set hy with z | z
   ·
    exact h.few y z
   ·
    subst z; exact h4
  ·
   rcases List.mem_or_eq_of_mem_set hy with z | z
   ·
    exact h.no y z e
   ·
    subst z; cases e
  ·
   rcases flat_set o ho with z | z
   ·
    exact h.gd o z
   ·
    have h1 := List.any_eq_false.1 hb o z
    unfold badO at h1
    cases g : good lots o
    ·
     rw [g] at h1; exact absurd rfl h1
    ·
     rfl
  ·
   rw [flat_len hg (by omega)]; exact h16
 ·
  rw [showH_no c]; exact h
theorem SV.shows {who s : Int} {l : List S50} {x y : Value} (h : SV W ok v lots st (showH lots st H who l s x)) : SV W ok v lots st (showH lots st H who l s y) := by
 by_cases c : showC lots st H who l s = 0
 ·
  rw [showH_yes c] at h ⊢
  refine h.like ?_ ?_ ?_ ?_ <;> rw [List.map_set, List.map_set]
 ·
  rw [showH_no c] at h ⊢; exact h
end
end Go.Proofs.Ythfdjccdelbeeaa.PT
end
section
namespace Go.Proofs.Ythfdjccdelbeeaa.PT
open Go.RowKit Go.Proofs.YthfdjccdelbeeaaW.PrintWords Go.Proofs.YthfdjccdelbeeaaW.PrintLast Go.Proofs.YthfdjccdelbeeaaW.PrintMore
set_option linter.unusedVariables false
set_option linter.unusedSimpArgs false
def DoP (base t : Nat) (ok : Nat → Prop) (lots : Int) (w : World) (e : Ending) (w' : World) : Prop := ∃ (v' : Value) (F' : Nat → Prop) (st' : Int) (H' : List Hd), e = .returned (.tuple #[v', .bool true]) ∧ TN base F' w' t lots st' H' ∧ (∀ k, F' k → k < w'.heap.size) ∧ SV w' (fun k => ok k ∨ w.heap.size ≤ k) v' lots st' H' ∧ DI lots st' H' ∧ Chg (fun k => k = t) w w'
set_option maxHeartbeats 12800000 in
set_option maxRecDepth 100000 in
theorem do_sub0 (w0 w : World) (base t : Nat) (F ok : Nat → Prop) (lots st : Int) (H : List Hd) (v : Value) (kn : Nat) (buyer : Int) (A : Option Addr) (c : Nat) (l : List S50) (salt : Int) (raw : Bool) (hB0 : Below w0.heap.size w0 w) (ht0 : w0.heap.size ≤ t) (hT : TN base F w t lots st H) (hbase : base ≤ w.heap.size) (hF : ∀ k, F k → k < w.heap.size) (hS : SV w ok v lots st H) (hok : ∀ k, ok k → k ≠ t) (hD : DI lots st H) (hC : Kd.C k50 w0 A l.length l) (hc : l.length ≤ c) (hs0 : 0 ≤ salt ∧ salt < 18446744073709551616) (hl : l.length ≤ 20) (hkn : kn < 256) (hm : kn % 6 = 0) : Calls Try.prog 44 #[.pointer (some ⟨t, 0, none⟩), v, .agg #[.int .u8 (kn : Int), .int .i64 buyer, .slice A l.length c, .int .u64 salt, .bool raw]] w (DoP base t ok lots w) := by
 have hu93 := Try.underlying93
 have hu80 := Try.underlying80
 have hu44 := Try.underlying44
 have hu50 := Try.underlying50
 have HB0 := lhid hB0
 have HT0 := lhid ht0
 have HTT := lhid hT
 have HBS := lhid hbase
 have HF := lhid hF
 have HS0 := lhid hS.bound
 have HOK := lhid hok
 have HD := lhid hD
 have HC := lhid hC
 have HCC := lhid hc
 have HSA := lhid hs0
 have HLEN := lhid hl
 have HTL := lhid hT.lt
 obtain ⟨ko, hko⟩ := ev_own l (by omega)
 have HKO := lhid (hko ko (Nat.le_refl _))
 have hrem : ((kn : Int)).tmod 6 = 0 := by rw [Int.tmod_eq_emod_of_nonneg (by omega)]; omega
 have hk0 : (0 : Int) ≤ (kn : Int) := by omega
 have hk1 : (kn : Int) < 256 := by omega
 clear hko hB0 ht0 hT hbase hF hok hD hC hc hs0 hl hm hkn
 obtain ⟨A2, A3, A4, A5, c2, c3, c4, c5, rfl, hq⟩ := hS
 clear hq
 go_enter Try.func44, Try.ntmps44
 have CH_1 := lhid (Chg.refl (fun k => k = t) w)
 have HFK := lhid (show ∀ k, F k → k < w.heap.size ∨ w.heap.size + 2 < k from fun k q => Or.inl (HF.out k q))
 go_upto_region 1 with (fail)
 have hb := Zba (Below.refl w.heap.size w) (.cells #[.int .i64 lots, .int .i64 st, .slice A2 8 c2, .slice A3 8 c3, .slice A4 8 c4, .slice A5 8 c5] 93)
 have hn := blk_new w (.cells #[.int .i64 lots, .int .i64 st, .slice A2 8 c2, .slice A3 8 c3, .slice A4 8 c4, .slice A5 8 c5] 93)
 have HZ1 := lhid (show (World.alloc w (.cells #[.int .i64 lots, .int .i64 st, .slice A2 8 c2, .slice A3 8 c3, .slice A4 8 c4, .slice A5 8 c5] 93)).heap.size = w.heap.size + 1 from by simp)
 generalize hq : World.alloc w (.cells #[.int .i64 lots, .int .i64 st, .slice A2 8 c2, .slice A3 8 c3, .slice A4 8 c4, .slice A5 8 c5] 93) = w1 at hb hn HZ1 ⊢
 clear hq
 have CH_2 := lhid (CH_1.out.next hb)
 have HT_3 := lhid (HTT.out.next hb)
 have FS_4 := lhid (fun k q => Nat.lt_of_lt_of_le (HF.out k q) (hb).size)
 clear CH_1 HTT HF hb
 have XB_5 := lhid (hn)
 clear hn
 obtain ⟨xb, hxb⟩ : ∃ q, q = w.heap.size := ⟨_, rfl⟩
 rw [← hxb] at XB_5 ⊢
 have HSxb := lhid (show xb = w.heap.size ∧ w1.heap.size = xb + 1 from ⟨hxb, by rw [hxb]; exact HZ1.out⟩)
 clear hxb
 have hb := Zba (Below.refl w1.heap.size w1) (.cells #[.int .u8 (kn : Int), .int .i64 buyer, .slice A l.length c, .int .u64 salt, .bool raw] 80)
 have hn := blk_new w1 (.cells #[.int .u8 (kn : Int), .int .i64 buyer, .slice A l.length c, .int .u64 salt, .bool raw] 80)
 have HZ2 := lhid (show (World.alloc w1 (.cells #[.int .u8 (kn : Int), .int .i64 buyer, .slice A l.length c, .int .u64 salt, .bool raw] 80)).heap.size = w1.heap.size + 1 from by simp)
 generalize hq : World.alloc w1 (.cells #[.int .u8 (kn : Int), .int .i64 buyer, .slice A l.length c, .int .u64 salt, .bool raw] 80) = w2 at hb hn HZ2 ⊢
 clear hq
 have CH_6 := lhid (CH_2.out.next hb)
 have HT_7 := lhid (HT_3.out.next hb)
 have FS_8 := lhid (fun k q => Nat.lt_of_lt_of_le (FS_4.out k q) (hb).size)
 have XB_9 := lhid (blk_below XB_5.out hb)
 clear CH_2 HT_3 FS_4 XB_5 hb
 have AB_10 := lhid (hn)
 clear hn
 obtain ⟨ab, hab⟩ : ∃ q, q = xb + 1 := ⟨_, rfl⟩
 rw [show w1.heap.size = ab by have h1 := HSxb.out; omega] at AB_10
 rw [← hab]
 have HSab := lhid (show ab = w.heap.size + 1 ∧ w2.heap.size = ab + 1 from by have h1 := HSxb.out; have h2 := HZ2.out; omega)
 clear hab
 have hb := Zba (Below.refl w2.heap.size w2) (.cells #[.int .i64 0, .int .i64 0, .slice none 0 0, .slice none 0 0, .slice none 0 0, .slice none 0 0] 93)
 have hn := blk_new w2 (.cells #[.int .i64 0, .int .i64 0, .slice none 0 0, .slice none 0 0, .slice none 0 0, .slice none 0 0] 93)
 have HZ3 := lhid (show (World.alloc w2 (.cells #[.int .i64 0, .int .i64 0, .slice none 0 0, .slice none 0 0, .slice none 0 0, .slice none 0 0] 93)).heap.size = w2.heap.size + 1 from by simp)
 generalize hq : World.alloc w2 (.cells #[.int .i64 0, .int .i64 0, .slice none 0 0, .slice none 0 0, .slice none 0 0, .slice none 0 0] 93) = w3 at hb hn HZ3 ⊢
 clear hq
 have CH_11 := lhid (CH_6.out.next hb)
 have HT_12 := lhid (HT_7.out.next hb)
 have FS_13 := lhid (fun k q => Nat.lt_of_lt_of_le (FS_8.out k q) (hb).size)
 have XB_14 := lhid (blk_below XB_9.out hb)
 have AB_15 := lhid (blk_below AB_10.out hb)
 clear CH_6 HT_7 FS_8 XB_9 AB_10 hb
 have RB_16 := lhid (hn)
 clear hn
 obtain ⟨rb, hrb⟩ : ∃ q, q = ab + 1 := ⟨_, rfl⟩
 rw [show w2.heap.size = rb by have h1 := HSab.out; omega] at RB_16
 rw [← hrb]
 have HSrb := lhid (show rb = w.heap.size + 2 ∧ w3.heap.size = rb + 1 from by have h1 := HSab.out; have h2 := HZ3.out; omega)
 clear hrb
 have HSX := lhid (show t < xb ∧ w.heap.size ≤ xb ∧ w.heap.size ≤ rb ∧ w.heap.size ≤ ab ∧ xb < ab ∧ ab < rb from by have h1 := HSxb.out; have h2 := HSab.out; have h3 := HSrb.out; have h4 := HTL.out; omega)
 have HSV0 := lhid (show SV w (fun k => ok k ∧ k < w.heap.size) (.agg #[.int .i64 lots, .int .i64 st, .slice A2 8 c2, .slice A3 8 c3, .slice A4 8 c4, .slice A5 8 c5]) lots st H from HS0.out)
 have HRBL := lhid (blk_lt RB_16.out)
 have a2 := (blk_cell AB_15.out 2).trans rfl
 go_wp2_with fail
 try any_goals (exfalso; omega)
 with_reducible refine (kimberlitelaw05_own.calls ko A c l l w3 (Kd.C_below HC.out (HB0.out.trans (CH_11.out.below HB0.out.size (fun k q => by rw [show k = t from q]; exact HT0.out)))) HCC.out HKO.out).mono ?_
 rintro e w4 ⟨vo, rfl, hO, hb⟩
 have HO := lhid (Kd.R_lower hO (show w.heap.size ≤ w3.heap.size from CH_11.out.size))
 obtain ⟨Ao, co, rfl⟩ := Kd.R_slice hO
 clear hO a2
 have CH_17 := lhid (CH_11.out.next hb)
 have HT_18 := lhid (HT_12.out.next hb)
 have FS_19 := lhid (fun k q => Nat.lt_of_lt_of_le (FS_13.out k q) (hb).size)
 have XB_20 := lhid (blk_below XB_14.out hb)
 have AB_21 := lhid (blk_below AB_15.out hb)
 have RB_22 := lhid (blk_below RB_16.out hb)
 have RBL_23 := lhid (Nat.lt_of_lt_of_le HRBL.out (hb).size)
 clear CH_11 HT_12 FS_13 XB_14 AB_15 RB_16 HRBL hb
 have a0 := (blk_cell AB_21.out 0).trans rfl
 go_upto_region 10 with (fail)
 try any_goals (exfalso; omega)
 clear a0 hrem hk0 hk1
 have a3 := (blk_cell AB_21.out 3).trans rfl
 have a4 := (blk_cell AB_21.out 4).trans rfl
 go_upto_region 11 with (fail)
 try any_goals (exfalso; omega)
 cases raw
 ·
  obtain ⟨s, hs⟩ : ∃ s, s = sealAll l salt := ⟨_, rfl⟩
  have HS1 := lhid hs
  clear hs
  go_wp2_with fail
  try any_goals (exfalso; omega)
  with_reducible refine (tender_Seal.calls Ao co l salt s w4 (R_C HO.out) (Kd.R_reads' HO.out).2.1 (by unfold tender_Seal.f; rw [if_pos HSA.out, HS1.out])).mono ?_
  rintro e w5 ⟨rfl, hb⟩
  clear a3 a4
  have CH_24 := lhid (CH_17.out.next hb)
  have HT_25 := lhid (HT_18.out.next hb)
  have FS_26 := lhid (fun k q => Nat.lt_of_lt_of_le (FS_19.out k q) (hb).size)
  have XB_27 := lhid (blk_below XB_20.out hb)
  have AB_28 := lhid (blk_below AB_21.out hb)
  have RB_29 := lhid (blk_below RB_22.out hb)
  have RBL_30 := lhid (Nat.lt_of_lt_of_le RBL_23.out (hb).size)
  have O_31 := lhid (Kd.R_below HO.out hb)
  clear CH_17 HT_18 FS_19 XB_20 AB_21 RB_22 RBL_23 HO hb
  obtain ⟨cd, hcd⟩ : ∃ z, z = subC lots st buyer := ⟨_, rfl⟩
  have HCD := lhid hcd
  clear hcd
  have a1 := (blk_cell AB_28.out 1).trans rfl
  have hsu := Submit_t base t F w5 lots st H buyer s HT_25.out
  rw [← HCD.out] at hsu
  go_wp2_with fail
  try any_goals (exfalso; omega)
  with_reducible refine hsu.mono ?_
  rintro e w6 ⟨rfl, ht, hch⟩
  clear hsu a1
  have CHc := lhid (CH_24.out.trans hch (fun _ _ q => q))
  have HTc := lhid (ht)
  have XBc := lhid (hch.blk XB_27.out (fun q => by have h1 := HSX.out; have h2 : xb = t := q; omega))
  have ABc := lhid (hch.blk AB_28.out (fun q => by have h1 := HSX.out; have h2 : ab = t := q; omega))
  have RBc := lhid (hch.blk RB_29.out (fun q => by have h1 := HSX.out; have h2 : rb = t := q; omega))
  have Oc := lhid (Kd.R_mono (Kd.R_step (Kd.R_bound O_31.out) (fun k q hk => hch.block k hk (fun e => by have h1 := q.2.1; have h2 := HTL.out; have h3 : k = t := e; omega))) (fun k q => q.1))
  have FSc := lhid (fun k q => Nat.lt_of_lt_of_le (FS_26.out k q) hch.size)
  have RBLc := lhid (Nat.lt_of_lt_of_le RBL_30.out hch.size)
  clear hch CH_24 HT_25 XB_27 AB_28 RB_29 O_31 FS_26 RBL_30
  clear ht
  have RBLOW0 := RBLc.out
  have a1 := (blk_cell ABc.out 1).trans rfl
  obtain ⟨n0, n1, n2, n3, n4, n5⟩ := six XBc.out
  have hss := Submit_s buyer s (HSV0.out.far CHc.out (fun k q e => HOK.out k q.1 e)) HD.out.len HD.out.few HD.out.l1 HD.out.l2
  rw [← HCD.out] at hss
  go_wp2_with fail
  try any_goals (exfalso; omega)
  with_reducible refine hss.mono ?_
  rintro e w7 ⟨v', rfl, hS', hb⟩
  clear hss a1 n0 n1 n2 n3 n4 n5
  have hS' := SV.sub HD.out hS'
  have HV := lhid hS'
  obtain ⟨B2, B3, B4, B5, k2, k3, k4, k5, rfl, hq⟩ := hS'
  clear hq
  have CH_32 := lhid (CHc.out.next hb)
  have HT_33 := lhid (HTc.out.next hb)
  have FS_34 := lhid (fun k q => Nat.lt_of_lt_of_le (FSc.out k q) (hb).size)
  have XB_35 := lhid (blk_below XBc.out hb)
  have AB_36 := lhid (blk_below ABc.out hb)
  have RB_37 := lhid (blk_below RBc.out hb)
  have RBL_38 := lhid (Nat.lt_of_lt_of_le RBLc.out (hb).size)
  have O_39 := lhid (Kd.R_below Oc.out hb)
  clear CHc HTc FSc XBc ABc RBc RBLc Oc hb
  have HVK := lhid (show ∀ k, ((ok k ∧ k < w.heap.size) ∨ w6.heap.size ≤ k) → k < w.heap.size ∨ rb < k from fun k q => q.elim (fun z => Or.inl z.2) (fun z => Or.inr (by omega)))
  have HVK2 := lhid (show ∀ k, ((ok k ∧ k < w.heap.size) ∨ w6.heap.size ≤ k) → ok k ∨ w.heap.size ≤ k from fun k q => q.elim (fun z => Or.inl z.1) (fun z => Or.inr (by have h1 := HSX.out; omega)))
  have RBLOW := lhid (show rb < w7.heap.size from RBL_38.out)
  clear RBLOW0
  go_upto_region 15 with (fail)
  try any_goals (exfalso; omega)
  have hb := Zba (Below.refl w7.heap.size w7) (.cells #[.int .i64 lots, .int .i64 st, .slice B2 8 k2, .slice B3 8 k3, .slice B4 8 k4, .slice B5 8 k5] 93)
  have hn := blk_new w7 (.cells #[.int .i64 lots, .int .i64 st, .slice B2 8 k2, .slice B3 8 k3, .slice B4 8 k4, .slice B5 8 k5] 93)
  have HZ8 := lhid (show (World.alloc w7 (.cells #[.int .i64 lots, .int .i64 st, .slice B2 8 k2, .slice B3 8 k3, .slice B4 8 k4, .slice B5 8 k5] 93)).heap.size = w7.heap.size + 1 from by simp)
  generalize hq : World.alloc w7 (.cells #[.int .i64 lots, .int .i64 st, .slice B2 8 k2, .slice B3 8 k3, .slice B4 8 k4, .slice B5 8 k5] 93) = w8 at hb hn HZ8 ⊢
  clear hq
  have CH_40 := lhid (CH_32.out.next hb)
  have HT_41 := lhid (HT_33.out.next hb)
  have FS_42 := lhid (fun k q => Nat.lt_of_lt_of_le (FS_34.out k q) (hb).size)
  have XB_43 := lhid (blk_below XB_35.out hb)
  have AB_44 := lhid (blk_below AB_36.out hb)
  have RB_45 := lhid (blk_below RB_37.out hb)
  have RBL_46 := lhid (Nat.lt_of_lt_of_le RBL_38.out (hb).size)
  have O_47 := lhid (Kd.R_below O_39.out hb)
  have SV_48 := lhid (HV.out.next hb)
  clear CH_32 HT_33 FS_34 XB_35 AB_36 RB_37 RBL_38 O_39 HV hb
  have NB_49 := lhid (hn)
  clear hn
  obtain ⟨nb, hnb⟩ : ∃ q, q = w7.heap.size := ⟨_, rfl⟩
  rw [← hnb] at NB_49 ⊢
  have HSnb := lhid (show rb < nb from by rw [hnb]; exact RBLOW.out)
  clear hnb RBLOW
  obtain ⟨n0, n1, n2, n3, n4, n5⟩ := six NB_49.out
  obtain ⟨r0, r1, r2, r3, r4, r5⟩ := six XB_43.out
  have hfz := fun o => blk_frozen XB_43.out o
  go_upto_region 16 with (fail)
  try any_goals (exfalso; omega)
  have hp := put6 XB_43.out (.int .i64 lots) (.int .i64 st) (.slice B2 8 k2) (.slice B3 8 k3) (.slice B4 8 k4) (.slice B5 8 k5)
  clear n0 n1 n2 n3 n4 n5 r0 r1 r2 r3 r4 r5 hfz
  generalize World.setCell (World.setCell (World.setCell (World.setCell (World.setCell (World.setCell (w8) ⟨xb, 0, none⟩ (.int .i64 lots)) ⟨xb, 1, none⟩ (.int .i64 st)) ⟨xb, 2, none⟩ (.slice B2 8 k2)) ⟨xb, 3, none⟩ (.slice B3 8 k3)) ⟨xb, 4, none⟩ (.slice B4 8 k4)) ⟨xb, 5, none⟩ (.slice B5 8 k5) = wx at hp ⊢
  obtain ⟨hp1, hp2⟩ := hp
  have CHx := lhid (CH_40.out.trans hp2 (fun i hi q => by have h1 := HSX.out; have h2 : i = xb := q; omega))
  have HTx := lhid (HT_41.out.far hp2 (fun q => by have h1 := HSX.out; have h2 : t = xb := q; omega) (fun k q e => by have h1 := HFK.out k q; have h2 : k = xb := e; have h3 := HSX.out; have h4 := HSxb.out; omega))
  have XBx := lhid hp1
  have ABx := lhid (hp2.blk AB_44.out (fun q => by have h1 := HSX.out; have h2 : ab = xb := q; omega))
  have RBx := lhid (hp2.blk RB_45.out (fun q => by have h1 := HSX.out; have h2 : rb = xb := q; omega))
  have Ox := lhid (Kd.R_mono (Kd.R_step (Kd.R_types O_47.out XB_43.out (by decide)) (fun k q hk => hp2.block k hk q.2)) (fun k q => q.1))
  have FSx := lhid (fun k q => Nat.lt_of_lt_of_le (FS_42.out k q) hp2.size)
  have RBLx := lhid (Nat.lt_of_lt_of_le RBL_46.out hp2.size)
  have SVx := lhid (SV_48.out.far hp2 (fun k q e => by have h1 := HSX.out; have h2 : k = xb := e; have h3 := HVK.out k q; have h4 := HSxb.out; omega))
  clear hp1 hp2 CH_40 HT_41 XB_43 AB_44 RB_45 O_47 FS_42 RBL_46 SV_48 NB_49
  obtain ⟨n0, n1, n2, n3, n4, n5⟩ := six XBx.out
  obtain ⟨r0, r1, r2, r3, r4, r5⟩ := six RBx.out
  have hfz := fun o => blk_frozen RBx.out o
  have hne1 : xb ≠ rb := by have h1 := HSX.out; omega
  go_wp2_with fail
  try any_goals (exfalso; omega)
  have hp := put6 RBx.out (.int .i64 lots) (.int .i64 st) (.slice B2 8 k2) (.slice B3 8 k3) (.slice B4 8 k4) (.slice B5 8 k5)
  clear n0 n1 n2 n3 n4 n5 r0 r1 r2 r3 r4 r5 hfz
  generalize World.setCell (World.setCell (World.setCell (World.setCell (World.setCell (World.setCell (wx) ⟨rb, 0, none⟩ (.int .i64 lots)) ⟨rb, 1, none⟩ (.int .i64 st)) ⟨rb, 2, none⟩ (.slice B2 8 k2)) ⟨rb, 3, none⟩ (.slice B3 8 k3)) ⟨rb, 4, none⟩ (.slice B4 8 k4)) ⟨rb, 5, none⟩ (.slice B5 8 k5) = wf at hp ⊢
  obtain ⟨hp1, hp2⟩ := hp
  refine bodyPost_ret (results_ct rfl _ _ rb 93 #[(.int .i64 lots), (.int .i64 st), (.slice B2 8 k2), (.slice B3 8 k3), (.slice B4 8 k4), (.slice B5 8 k5)] (0, 0) _ rfl hp1 Try.underlying93 rfl (by kernel_rfl)) rfl ?_
  exact ⟨_, _, st, _, rfl, HTx.out.far hp2 (fun q => by have h1 := HSX.out; have h2 : t = rb := q; omega) (fun k q e => by have h1 := HFK.out k q; have h2 : k = rb := e; have h3 := HSrb.out; omega), fun k q => Nat.lt_of_lt_of_le (FSx.out k q) hp2.size, (SVx.out.far hp2 (fun k q e => by have h1 := HSX.out; have h2 : k = rb := e; have h3 := HVK.out k q; have h4 := HSrb.out; omega)).mono (fun k q => (HVK2.out k q)), HD.out.sub buyer s, CHx.out.trans hp2 (fun i hi q => by have h1 := HSX.out; have h2 : i = rb := q; omega)⟩
 ·
  go_upto_region 13 with (fail)
  try any_goals (exfalso; omega)
  clear a3 a4
  obtain ⟨cd, hcd⟩ : ∃ z, z = subC lots st buyer := ⟨_, rfl⟩
  have HCD := lhid hcd
  clear hcd
  have a1 := (blk_cell AB_21.out 1).trans rfl
  have hsu := Submit_t base t F w4 lots st H buyer salt HT_18.out
  rw [← HCD.out] at hsu
  go_wp2_with fail
  try any_goals (exfalso; omega)
  with_reducible refine hsu.mono ?_
  rintro e w5 ⟨rfl, ht, hch⟩
  clear hsu a1
  have CHc := lhid (CH_17.out.trans hch (fun _ _ q => q))
  have HTc := lhid (ht)
  have XBc := lhid (hch.blk XB_20.out (fun q => by have h1 := HSX.out; have h2 : xb = t := q; omega))
  have ABc := lhid (hch.blk AB_21.out (fun q => by have h1 := HSX.out; have h2 : ab = t := q; omega))
  have RBc := lhid (hch.blk RB_22.out (fun q => by have h1 := HSX.out; have h2 : rb = t := q; omega))
  have Oc := lhid (Kd.R_mono (Kd.R_step (Kd.R_bound HO.out) (fun k q hk => hch.block k hk (fun e => by have h1 := q.2.1; have h2 := HTL.out; have h3 : k = t := e; omega))) (fun k q => q.1))
  have FSc := lhid (fun k q => Nat.lt_of_lt_of_le (FS_19.out k q) hch.size)
  have RBLc := lhid (Nat.lt_of_lt_of_le RBL_23.out hch.size)
  clear hch CH_17 HT_18 XB_20 AB_21 RB_22 HO FS_19 RBL_23
  clear ht
  have RBLOW0 := RBLc.out
  have a1 := (blk_cell ABc.out 1).trans rfl
  obtain ⟨n0, n1, n2, n3, n4, n5⟩ := six XBc.out
  have hss := Submit_s buyer salt (HSV0.out.far CHc.out (fun k q e => HOK.out k q.1 e)) HD.out.len HD.out.few HD.out.l1 HD.out.l2
  rw [← HCD.out] at hss
  go_wp2_with fail
  try any_goals (exfalso; omega)
  with_reducible refine hss.mono ?_
  rintro e w6 ⟨v', rfl, hS', hb⟩
  clear hss a1 n0 n1 n2 n3 n4 n5
  have hS' := SV.sub HD.out hS'
  have HV := lhid hS'
  obtain ⟨B2, B3, B4, B5, k2, k3, k4, k5, rfl, hq⟩ := hS'
  clear hq
  have CH_50 := lhid (CHc.out.next hb)
  have HT_51 := lhid (HTc.out.next hb)
  have FS_52 := lhid (fun k q => Nat.lt_of_lt_of_le (FSc.out k q) (hb).size)
  have XB_53 := lhid (blk_below XBc.out hb)
  have AB_54 := lhid (blk_below ABc.out hb)
  have RB_55 := lhid (blk_below RBc.out hb)
  have RBL_56 := lhid (Nat.lt_of_lt_of_le RBLc.out (hb).size)
  have O_57 := lhid (Kd.R_below Oc.out hb)
  clear CHc HTc FSc XBc ABc RBc RBLc Oc hb
  have HVK := lhid (show ∀ k, ((ok k ∧ k < w.heap.size) ∨ w5.heap.size ≤ k) → k < w.heap.size ∨ rb < k from fun k q => q.elim (fun z => Or.inl z.2) (fun z => Or.inr (by omega)))
  have HVK2 := lhid (show ∀ k, ((ok k ∧ k < w.heap.size) ∨ w5.heap.size ≤ k) → ok k ∨ w.heap.size ≤ k from fun k q => q.elim (fun z => Or.inl z.1) (fun z => Or.inr (by have h1 := HSX.out; omega)))
  have RBLOW := lhid (show rb < w6.heap.size from RBL_56.out)
  clear RBLOW0
  go_upto_region 15 with (fail)
  try any_goals (exfalso; omega)
  have hb := Zba (Below.refl w6.heap.size w6) (.cells #[.int .i64 lots, .int .i64 st, .slice B2 8 k2, .slice B3 8 k3, .slice B4 8 k4, .slice B5 8 k5] 93)
  have hn := blk_new w6 (.cells #[.int .i64 lots, .int .i64 st, .slice B2 8 k2, .slice B3 8 k3, .slice B4 8 k4, .slice B5 8 k5] 93)
  have HZ7 := lhid (show (World.alloc w6 (.cells #[.int .i64 lots, .int .i64 st, .slice B2 8 k2, .slice B3 8 k3, .slice B4 8 k4, .slice B5 8 k5] 93)).heap.size = w6.heap.size + 1 from by simp)
  generalize hq : World.alloc w6 (.cells #[.int .i64 lots, .int .i64 st, .slice B2 8 k2, .slice B3 8 k3, .slice B4 8 k4, .slice B5 8 k5] 93) = w7 at hb hn HZ7 ⊢
  clear hq
  have CH_58 := lhid (CH_50.out.next hb)
  have HT_59 := lhid (HT_51.out.next hb)
  have FS_60 := lhid (fun k q => Nat.lt_of_lt_of_le (FS_52.out k q) (hb).size)
  have XB_61 := lhid (blk_below XB_53.out hb)
  have AB_62 := lhid (blk_below AB_54.out hb)
  have RB_63 := lhid (blk_below RB_55.out hb)
  have RBL_64 := lhid (Nat.lt_of_lt_of_le RBL_56.out (hb).size)
  have O_65 := lhid (Kd.R_below O_57.out hb)
  have SV_66 := lhid (HV.out.next hb)
  clear CH_50 HT_51 FS_52 XB_53 AB_54 RB_55 RBL_56 O_57 HV hb
  have NB_67 := lhid (hn)
  clear hn
  obtain ⟨nb, hnb⟩ : ∃ q, q = w6.heap.size := ⟨_, rfl⟩
  rw [← hnb] at NB_67 ⊢
  have HSnb := lhid (show rb < nb from by rw [hnb]; exact RBLOW.out)
  clear hnb RBLOW
  obtain ⟨n0, n1, n2, n3, n4, n5⟩ := six NB_67.out
  obtain ⟨r0, r1, r2, r3, r4, r5⟩ := six XB_61.out
  have hfz := fun o => blk_frozen XB_61.out o
  go_upto_region 16 with (fail)
  try any_goals (exfalso; omega)
  have hp := put6 XB_61.out (.int .i64 lots) (.int .i64 st) (.slice B2 8 k2) (.slice B3 8 k3) (.slice B4 8 k4) (.slice B5 8 k5)
  clear n0 n1 n2 n3 n4 n5 r0 r1 r2 r3 r4 r5 hfz
  generalize World.setCell (World.setCell (World.setCell (World.setCell (World.setCell (World.setCell (w7) ⟨xb, 0, none⟩ (.int .i64 lots)) ⟨xb, 1, none⟩ (.int .i64 st)) ⟨xb, 2, none⟩ (.slice B2 8 k2)) ⟨xb, 3, none⟩ (.slice B3 8 k3)) ⟨xb, 4, none⟩ (.slice B4 8 k4)) ⟨xb, 5, none⟩ (.slice B5 8 k5) = wx at hp ⊢
  obtain ⟨hp1, hp2⟩ := hp
  have CHx := lhid (CH_58.out.trans hp2 (fun i hi q => by have h1 := HSX.out; have h2 : i = xb := q; omega))
  have HTx := lhid (HT_59.out.far hp2 (fun q => by have h1 := HSX.out; have h2 : t = xb := q; omega) (fun k q e => by have h1 := HFK.out k q; have h2 : k = xb := e; have h3 := HSX.out; have h4 := HSxb.out; omega))
  have XBx := lhid hp1
  have ABx := lhid (hp2.blk AB_62.out (fun q => by have h1 := HSX.out; have h2 : ab = xb := q; omega))
  have RBx := lhid (hp2.blk RB_63.out (fun q => by have h1 := HSX.out; have h2 : rb = xb := q; omega))
  have Ox := lhid (Kd.R_mono (Kd.R_step (Kd.R_types O_65.out XB_61.out (by decide)) (fun k q hk => hp2.block k hk q.2)) (fun k q => q.1))
  have FSx := lhid (fun k q => Nat.lt_of_lt_of_le (FS_60.out k q) hp2.size)
  have RBLx := lhid (Nat.lt_of_lt_of_le RBL_64.out hp2.size)
  have SVx := lhid (SV_66.out.far hp2 (fun k q e => by have h1 := HSX.out; have h2 : k = xb := e; have h3 := HVK.out k q; have h4 := HSxb.out; omega))
  clear hp1 hp2 CH_58 HT_59 XB_61 AB_62 RB_63 O_65 FS_60 RBL_64 SV_66 NB_67
  obtain ⟨n0, n1, n2, n3, n4, n5⟩ := six XBx.out
  obtain ⟨r0, r1, r2, r3, r4, r5⟩ := six RBx.out
  have hfz := fun o => blk_frozen RBx.out o
  have hne1 : xb ≠ rb := by have h1 := HSX.out; omega
  go_wp2_with fail
  try any_goals (exfalso; omega)
  have hp := put6 RBx.out (.int .i64 lots) (.int .i64 st) (.slice B2 8 k2) (.slice B3 8 k3) (.slice B4 8 k4) (.slice B5 8 k5)
  clear n0 n1 n2 n3 n4 n5 r0 r1 r2 r3 r4 r5 hfz
  generalize World.setCell (World.setCell (World.setCell (World.setCell (World.setCell (World.setCell (wx) ⟨rb, 0, none⟩ (.int .i64 lots)) ⟨rb, 1, none⟩ (.int .i64 st)) ⟨rb, 2, none⟩ (.slice B2 8 k2)) ⟨rb, 3, none⟩ (.slice B3 8 k3)) ⟨rb, 4, none⟩ (.slice B4 8 k4)) ⟨rb, 5, none⟩ (.slice B5 8 k5) = wf at hp ⊢
  obtain ⟨hp1, hp2⟩ := hp
  refine bodyPost_ret (results_ct rfl _ _ rb 93 #[(.int .i64 lots), (.int .i64 st), (.slice B2 8 k2), (.slice B3 8 k3), (.slice B4 8 k4), (.slice B5 8 k5)] (0, 0) _ rfl hp1 Try.underlying93 rfl (by kernel_rfl)) rfl ?_
  exact ⟨_, _, st, _, rfl, HTx.out.far hp2 (fun q => by have h1 := HSX.out; have h2 : t = rb := q; omega) (fun k q e => by have h1 := HFK.out k q; have h2 : k = rb := e; have h3 := HSrb.out; omega), fun k q => Nat.lt_of_lt_of_le (FSx.out k q) hp2.size, (SVx.out.far hp2 (fun k q e => by have h1 := HSX.out; have h2 : k = rb := e; have h3 := HVK.out k q; have h4 := HSrb.out; omega)).mono (fun k q => (HVK2.out k q)), HD.out.sub buyer salt, CHx.out.trans hp2 (fun i hi q => by have h1 := HSX.out; have h2 : i = rb := q; omega)⟩
set_option maxHeartbeats 12800000 in
set_option maxRecDepth 100000 in
theorem do_sub1 (w0 w : World) (base t : Nat) (F ok : Nat → Prop) (lots st : Int) (H : List Hd) (v : Value) (kn : Nat) (buyer : Int) (A : Option Addr) (c : Nat) (l : List S50) (salt : Int) (raw : Bool) (hB0 : Below w0.heap.size w0 w) (ht0 : w0.heap.size ≤ t) (hT : TN base F w t lots st H) (hbase : base ≤ w.heap.size) (hF : ∀ k, F k → k < w.heap.size) (hS : SV w ok v lots st H) (hok : ∀ k, ok k → k ≠ t) (hD : DI lots st H) (hC : Kd.C k50 w0 A l.length l) (hc : l.length ≤ c) (hs0 : 0 ≤ salt ∧ salt < 18446744073709551616) (hl : l.length ≤ 20) (hkn : kn < 256) (hm : kn % 6 = 1) : Calls Try.prog 44 #[.pointer (some ⟨t, 0, none⟩), v, .agg #[.int .u8 (kn : Int), .int .i64 buyer, .slice A l.length c, .int .u64 salt, .bool raw]] w (DoP base t ok lots w) := by
 have hu93 := Try.underlying93
 have hu80 := Try.underlying80
 have hu44 := Try.underlying44
 have hu50 := Try.underlying50
 have HB0 := lhid hB0
 have HT0 := lhid ht0
 have HTT := lhid hT
 have HBS := lhid hbase
 have HF := lhid hF
 have HS0 := lhid hS.bound
 have HOK := lhid hok
 have HD := lhid hD
 have HC := lhid hC
 have HCC := lhid hc
 have HSA := lhid hs0
 have HLEN := lhid hl
 have HTL := lhid hT.lt
 obtain ⟨ko, hko⟩ := ev_own l (by omega)
 have HKO := lhid (hko ko (Nat.le_refl _))
 have hrem : ((kn : Int)).tmod 6 = 1 := by rw [Int.tmod_eq_emod_of_nonneg (by omega)]; omega
 have hk0 : (0 : Int) ≤ (kn : Int) := by omega
 have hk1 : (kn : Int) < 256 := by omega
 clear hko hB0 ht0 hT hbase hF hok hD hC hc hs0 hl hm hkn
 obtain ⟨A2, A3, A4, A5, c2, c3, c4, c5, rfl, hq⟩ := hS
 clear hq
 go_enter Try.func44, Try.ntmps44
 have CH_1 := lhid (Chg.refl (fun k => k = t) w)
 have HFK := lhid (show ∀ k, F k → k < w.heap.size ∨ w.heap.size + 2 < k from fun k q => Or.inl (HF.out k q))
 go_upto_region 1 with (fail)
 have hb := Zba (Below.refl w.heap.size w) (.cells #[.int .i64 lots, .int .i64 st, .slice A2 8 c2, .slice A3 8 c3, .slice A4 8 c4, .slice A5 8 c5] 93)
 have hn := blk_new w (.cells #[.int .i64 lots, .int .i64 st, .slice A2 8 c2, .slice A3 8 c3, .slice A4 8 c4, .slice A5 8 c5] 93)
 have HZ1 := lhid (show (World.alloc w (.cells #[.int .i64 lots, .int .i64 st, .slice A2 8 c2, .slice A3 8 c3, .slice A4 8 c4, .slice A5 8 c5] 93)).heap.size = w.heap.size + 1 from by simp)
 generalize hq : World.alloc w (.cells #[.int .i64 lots, .int .i64 st, .slice A2 8 c2, .slice A3 8 c3, .slice A4 8 c4, .slice A5 8 c5] 93) = w1 at hb hn HZ1 ⊢
 clear hq
 have CH_2 := lhid (CH_1.out.next hb)
 have HT_3 := lhid (HTT.out.next hb)
 have FS_4 := lhid (fun k q => Nat.lt_of_lt_of_le (HF.out k q) (hb).size)
 clear CH_1 HTT HF hb
 have XB_5 := lhid (hn)
 clear hn
 obtain ⟨xb, hxb⟩ : ∃ q, q = w.heap.size := ⟨_, rfl⟩
 rw [← hxb] at XB_5 ⊢
 have HSxb := lhid (show xb = w.heap.size ∧ w1.heap.size = xb + 1 from ⟨hxb, by rw [hxb]; exact HZ1.out⟩)
 clear hxb
 have hb := Zba (Below.refl w1.heap.size w1) (.cells #[.int .u8 (kn : Int), .int .i64 buyer, .slice A l.length c, .int .u64 salt, .bool raw] 80)
 have hn := blk_new w1 (.cells #[.int .u8 (kn : Int), .int .i64 buyer, .slice A l.length c, .int .u64 salt, .bool raw] 80)
 have HZ2 := lhid (show (World.alloc w1 (.cells #[.int .u8 (kn : Int), .int .i64 buyer, .slice A l.length c, .int .u64 salt, .bool raw] 80)).heap.size = w1.heap.size + 1 from by simp)
 generalize hq : World.alloc w1 (.cells #[.int .u8 (kn : Int), .int .i64 buyer, .slice A l.length c, .int .u64 salt, .bool raw] 80) = w2 at hb hn HZ2 ⊢
 clear hq
 have CH_6 := lhid (CH_2.out.next hb)
 have HT_7 := lhid (HT_3.out.next hb)
 have FS_8 := lhid (fun k q => Nat.lt_of_lt_of_le (FS_4.out k q) (hb).size)
 have XB_9 := lhid (blk_below XB_5.out hb)
 clear CH_2 HT_3 FS_4 XB_5 hb
 have AB_10 := lhid (hn)
 clear hn
 obtain ⟨ab, hab⟩ : ∃ q, q = xb + 1 := ⟨_, rfl⟩
 rw [show w1.heap.size = ab by have h1 := HSxb.out; omega] at AB_10
 rw [← hab]
 have HSab := lhid (show ab = w.heap.size + 1 ∧ w2.heap.size = ab + 1 from by have h1 := HSxb.out; have h2 := HZ2.out; omega)
 clear hab
 have hb := Zba (Below.refl w2.heap.size w2) (.cells #[.int .i64 0, .int .i64 0, .slice none 0 0, .slice none 0 0, .slice none 0 0, .slice none 0 0] 93)
 have hn := blk_new w2 (.cells #[.int .i64 0, .int .i64 0, .slice none 0 0, .slice none 0 0, .slice none 0 0, .slice none 0 0] 93)
 have HZ3 := lhid (show (World.alloc w2 (.cells #[.int .i64 0, .int .i64 0, .slice none 0 0, .slice none 0 0, .slice none 0 0, .slice none 0 0] 93)).heap.size = w2.heap.size + 1 from by simp)
 generalize hq : World.alloc w2 (.cells #[.int .i64 0, .int .i64 0, .slice none 0 0, .slice none 0 0, .slice none 0 0, .slice none 0 0] 93) = w3 at hb hn HZ3 ⊢
 clear hq
 have CH_11 := lhid (CH_6.out.next hb)
 have HT_12 := lhid (HT_7.out.next hb)
 have FS_13 := lhid (fun k q => Nat.lt_of_lt_of_le (FS_8.out k q) (hb).size)
 have XB_14 := lhid (blk_below XB_9.out hb)
 have AB_15 := lhid (blk_below AB_10.out hb)
 clear CH_6 HT_7 FS_8 XB_9 AB_10 hb
 have RB_16 := lhid (hn)
 clear hn
 obtain ⟨rb, hrb⟩ : ∃ q, q = ab + 1 := ⟨_, rfl⟩
 rw [show w2.heap.size = rb by have h1 := HSab.out; omega] at RB_16
 rw [← hrb]
 have HSrb := lhid (show rb = w.heap.size + 2 ∧ w3.heap.size = rb + 1 from by have h1 := HSab.out; have h2 := HZ3.out; omega)
 clear hrb
 have HSX := lhid (show t < xb ∧ w.heap.size ≤ xb ∧ w.heap.size ≤ rb ∧ w.heap.size ≤ ab ∧ xb < ab ∧ ab < rb from by have h1 := HSxb.out; have h2 := HSab.out; have h3 := HSrb.out; have h4 := HTL.out; omega)
 have HSV0 := lhid (show SV w (fun k => ok k ∧ k < w.heap.size) (.agg #[.int .i64 lots, .int .i64 st, .slice A2 8 c2, .slice A3 8 c3, .slice A4 8 c4, .slice A5 8 c5]) lots st H from HS0.out)
 have HRBL := lhid (blk_lt RB_16.out)
 have a2 := (blk_cell AB_15.out 2).trans rfl
 go_wp2_with fail
 try any_goals (exfalso; omega)
 with_reducible refine (kimberlitelaw05_own.calls ko A c l l w3 (Kd.C_below HC.out (HB0.out.trans (CH_11.out.below HB0.out.size (fun k q => by rw [show k = t from q]; exact HT0.out)))) HCC.out HKO.out).mono ?_
 rintro e w4 ⟨vo, rfl, hO, hb⟩
 have HO := lhid (Kd.R_lower hO (show w.heap.size ≤ w3.heap.size from CH_11.out.size))
 obtain ⟨Ao, co, rfl⟩ := Kd.R_slice hO
 clear hO a2
 have CH_17 := lhid (CH_11.out.next hb)
 have HT_18 := lhid (HT_12.out.next hb)
 have FS_19 := lhid (fun k q => Nat.lt_of_lt_of_le (FS_13.out k q) (hb).size)
 have XB_20 := lhid (blk_below XB_14.out hb)
 have AB_21 := lhid (blk_below AB_15.out hb)
 have RB_22 := lhid (blk_below RB_16.out hb)
 have RBL_23 := lhid (Nat.lt_of_lt_of_le HRBL.out (hb).size)
 clear CH_11 HT_12 FS_13 XB_14 AB_15 RB_16 HRBL hb
 have a0 := (blk_cell AB_21.out 0).trans rfl
 go_upto_region 10 with (fail)
 try any_goals (exfalso; omega)
 clear a0 hrem hk0 hk1
 have a3 := (blk_cell AB_21.out 3).trans rfl
 have a4 := (blk_cell AB_21.out 4).trans rfl
 go_upto_region 11 with (fail)
 try any_goals (exfalso; omega)
 cases raw
 ·
  obtain ⟨s, hs⟩ : ∃ s, s = sealAll l salt := ⟨_, rfl⟩
  have HS1 := lhid hs
  clear hs
  go_wp2_with fail
  try any_goals (exfalso; omega)
  with_reducible refine (tender_Seal.calls Ao co l salt s w4 (R_C HO.out) (Kd.R_reads' HO.out).2.1 (by unfold tender_Seal.f; rw [if_pos HSA.out, HS1.out])).mono ?_
  rintro e w5 ⟨rfl, hb⟩
  clear a3 a4
  have CH_24 := lhid (CH_17.out.next hb)
  have HT_25 := lhid (HT_18.out.next hb)
  have FS_26 := lhid (fun k q => Nat.lt_of_lt_of_le (FS_19.out k q) (hb).size)
  have XB_27 := lhid (blk_below XB_20.out hb)
  have AB_28 := lhid (blk_below AB_21.out hb)
  have RB_29 := lhid (blk_below RB_22.out hb)
  have RBL_30 := lhid (Nat.lt_of_lt_of_le RBL_23.out (hb).size)
  have O_31 := lhid (Kd.R_below HO.out hb)
  clear CH_17 HT_18 FS_19 XB_20 AB_21 RB_22 RBL_23 HO hb
  obtain ⟨cd, hcd⟩ : ∃ z, z = subC lots st buyer := ⟨_, rfl⟩
  have HCD := lhid hcd
  clear hcd
  have a1 := (blk_cell AB_28.out 1).trans rfl
  have hsu := Submit_t base t F w5 lots st H buyer s HT_25.out
  rw [← HCD.out] at hsu
  go_wp2_with fail
  try any_goals (exfalso; omega)
  with_reducible refine hsu.mono ?_
  rintro e w6 ⟨rfl, ht, hch⟩
  clear hsu a1
  have CHc := lhid (CH_24.out.trans hch (fun _ _ q => q))
  have HTc := lhid (ht)
  have XBc := lhid (hch.blk XB_27.out (fun q => by have h1 := HSX.out; have h2 : xb = t := q; omega))
  have ABc := lhid (hch.blk AB_28.out (fun q => by have h1 := HSX.out; have h2 : ab = t := q; omega))
  have RBc := lhid (hch.blk RB_29.out (fun q => by have h1 := HSX.out; have h2 : rb = t := q; omega))
  have Oc := lhid (Kd.R_mono (Kd.R_step (Kd.R_bound O_31.out) (fun k q hk => hch.block k hk (fun e => by have h1 := q.2.1; have h2 := HTL.out; have h3 : k = t := e; omega))) (fun k q => q.1))
  have FSc := lhid (fun k q => Nat.lt_of_lt_of_le (FS_26.out k q) hch.size)
  have RBLc := lhid (Nat.lt_of_lt_of_le RBL_30.out hch.size)
  clear hch CH_24 HT_25 XB_27 AB_28 RB_29 O_31 FS_26 RBL_30
  clear ht
  have RBLOW0 := RBLc.out
  have a1 := (blk_cell ABc.out 1).trans rfl
  obtain ⟨n0, n1, n2, n3, n4, n5⟩ := six XBc.out
  have hss := Submit_s buyer s (HSV0.out.far CHc.out (fun k q e => HOK.out k q.1 e)) HD.out.len HD.out.few HD.out.l1 HD.out.l2
  rw [← HCD.out] at hss
  go_wp2_with fail
  try any_goals (exfalso; omega)
  with_reducible refine hss.mono ?_
  rintro e w7 ⟨v', rfl, hS', hb⟩
  clear hss a1 n0 n1 n2 n3 n4 n5
  have hS' := SV.sub HD.out hS'
  have HV := lhid hS'
  obtain ⟨B2, B3, B4, B5, k2, k3, k4, k5, rfl, hq⟩ := hS'
  clear hq
  have CH_32 := lhid (CHc.out.next hb)
  have HT_33 := lhid (HTc.out.next hb)
  have FS_34 := lhid (fun k q => Nat.lt_of_lt_of_le (FSc.out k q) (hb).size)
  have XB_35 := lhid (blk_below XBc.out hb)
  have AB_36 := lhid (blk_below ABc.out hb)
  have RB_37 := lhid (blk_below RBc.out hb)
  have RBL_38 := lhid (Nat.lt_of_lt_of_le RBLc.out (hb).size)
  have O_39 := lhid (Kd.R_below Oc.out hb)
  clear CHc HTc FSc XBc ABc RBc RBLc Oc hb
  have HVK := lhid (show ∀ k, ((ok k ∧ k < w.heap.size) ∨ w6.heap.size ≤ k) → k < w.heap.size ∨ rb < k from fun k q => q.elim (fun z => Or.inl z.2) (fun z => Or.inr (by omega)))
  have HVK2 := lhid (show ∀ k, ((ok k ∧ k < w.heap.size) ∨ w6.heap.size ≤ k) → ok k ∨ w.heap.size ≤ k from fun k q => q.elim (fun z => Or.inl z.1) (fun z => Or.inr (by have h1 := HSX.out; omega)))
  have RBLOW := lhid (show rb < w7.heap.size from RBL_38.out)
  clear RBLOW0
  go_upto_region 15 with (fail)
  try any_goals (exfalso; omega)
  have hb := Zba (Below.refl w7.heap.size w7) (.cells #[.int .i64 lots, .int .i64 st, .slice B2 8 k2, .slice B3 8 k3, .slice B4 8 k4, .slice B5 8 k5] 93)
  have hn := blk_new w7 (.cells #[.int .i64 lots, .int .i64 st, .slice B2 8 k2, .slice B3 8 k3, .slice B4 8 k4, .slice B5 8 k5] 93)
  have HZ8 := lhid (show (World.alloc w7 (.cells #[.int .i64 lots, .int .i64 st, .slice B2 8 k2, .slice B3 8 k3, .slice B4 8 k4, .slice B5 8 k5] 93)).heap.size = w7.heap.size + 1 from by simp)
  generalize hq : World.alloc w7 (.cells #[.int .i64 lots, .int .i64 st, .slice B2 8 k2, .slice B3 8 k3, .slice B4 8 k4, .slice B5 8 k5] 93) = w8 at hb hn HZ8 ⊢
  clear hq
  have CH_40 := lhid (CH_32.out.next hb)
  have HT_41 := lhid (HT_33.out.next hb)
  have FS_42 := lhid (fun k q => Nat.lt_of_lt_of_le (FS_34.out k q) (hb).size)
  have XB_43 := lhid (blk_below XB_35.out hb)
  have AB_44 := lhid (blk_below AB_36.out hb)
  have RB_45 := lhid (blk_below RB_37.out hb)
  have RBL_46 := lhid (Nat.lt_of_lt_of_le RBL_38.out (hb).size)
  have O_47 := lhid (Kd.R_below O_39.out hb)
  have SV_48 := lhid (HV.out.next hb)
  clear CH_32 HT_33 FS_34 XB_35 AB_36 RB_37 RBL_38 O_39 HV hb
  have NB_49 := lhid (hn)
  clear hn
  obtain ⟨nb, hnb⟩ : ∃ q, q = w7.heap.size := ⟨_, rfl⟩
  rw [← hnb] at NB_49 ⊢
  have HSnb := lhid (show rb < nb from by rw [hnb]; exact RBLOW.out)
  clear hnb RBLOW
  obtain ⟨n0, n1, n2, n3, n4, n5⟩ := six NB_49.out
  obtain ⟨r0, r1, r2, r3, r4, r5⟩ := six XB_43.out
  have hfz := fun o => blk_frozen XB_43.out o
  go_upto_region 16 with (fail)
  try any_goals (exfalso; omega)
  have hp := put6 XB_43.out (.int .i64 lots) (.int .i64 st) (.slice B2 8 k2) (.slice B3 8 k3) (.slice B4 8 k4) (.slice B5 8 k5)
  clear n0 n1 n2 n3 n4 n5 r0 r1 r2 r3 r4 r5 hfz
  generalize World.setCell (World.setCell (World.setCell (World.setCell (World.setCell (World.setCell (w8) ⟨xb, 0, none⟩ (.int .i64 lots)) ⟨xb, 1, none⟩ (.int .i64 st)) ⟨xb, 2, none⟩ (.slice B2 8 k2)) ⟨xb, 3, none⟩ (.slice B3 8 k3)) ⟨xb, 4, none⟩ (.slice B4 8 k4)) ⟨xb, 5, none⟩ (.slice B5 8 k5) = wx at hp ⊢
  obtain ⟨hp1, hp2⟩ := hp
  have CHx := lhid (CH_40.out.trans hp2 (fun i hi q => by have h1 := HSX.out; have h2 : i = xb := q; omega))
  have HTx := lhid (HT_41.out.far hp2 (fun q => by have h1 := HSX.out; have h2 : t = xb := q; omega) (fun k q e => by have h1 := HFK.out k q; have h2 : k = xb := e; have h3 := HSX.out; have h4 := HSxb.out; omega))
  have XBx := lhid hp1
  have ABx := lhid (hp2.blk AB_44.out (fun q => by have h1 := HSX.out; have h2 : ab = xb := q; omega))
  have RBx := lhid (hp2.blk RB_45.out (fun q => by have h1 := HSX.out; have h2 : rb = xb := q; omega))
  have Ox := lhid (Kd.R_mono (Kd.R_step (Kd.R_types O_47.out XB_43.out (by decide)) (fun k q hk => hp2.block k hk q.2)) (fun k q => q.1))
  have FSx := lhid (fun k q => Nat.lt_of_lt_of_le (FS_42.out k q) hp2.size)
  have RBLx := lhid (Nat.lt_of_lt_of_le RBL_46.out hp2.size)
  have SVx := lhid (SV_48.out.far hp2 (fun k q e => by have h1 := HSX.out; have h2 : k = xb := e; have h3 := HVK.out k q; have h4 := HSxb.out; omega))
  clear hp1 hp2 CH_40 HT_41 XB_43 AB_44 RB_45 O_47 FS_42 RBL_46 SV_48 NB_49
  obtain ⟨n0, n1, n2, n3, n4, n5⟩ := six XBx.out
  obtain ⟨r0, r1, r2, r3, r4, r5⟩ := six RBx.out
  have hfz := fun o => blk_frozen RBx.out o
  have hne1 : xb ≠ rb := by have h1 := HSX.out; omega
  go_wp2_with fail
  try any_goals (exfalso; omega)
  have hp := put6 RBx.out (.int .i64 lots) (.int .i64 st) (.slice B2 8 k2) (.slice B3 8 k3) (.slice B4 8 k4) (.slice B5 8 k5)
  clear n0 n1 n2 n3 n4 n5 r0 r1 r2 r3 r4 r5 hfz
  generalize World.setCell (World.setCell (World.setCell (World.setCell (World.setCell (World.setCell (wx) ⟨rb, 0, none⟩ (.int .i64 lots)) ⟨rb, 1, none⟩ (.int .i64 st)) ⟨rb, 2, none⟩ (.slice B2 8 k2)) ⟨rb, 3, none⟩ (.slice B3 8 k3)) ⟨rb, 4, none⟩ (.slice B4 8 k4)) ⟨rb, 5, none⟩ (.slice B5 8 k5) = wf at hp ⊢
  obtain ⟨hp1, hp2⟩ := hp
  refine bodyPost_ret (results_ct rfl _ _ rb 93 #[(.int .i64 lots), (.int .i64 st), (.slice B2 8 k2), (.slice B3 8 k3), (.slice B4 8 k4), (.slice B5 8 k5)] (0, 0) _ rfl hp1 Try.underlying93 rfl (by kernel_rfl)) rfl ?_
  exact ⟨_, _, st, _, rfl, HTx.out.far hp2 (fun q => by have h1 := HSX.out; have h2 : t = rb := q; omega) (fun k q e => by have h1 := HFK.out k q; have h2 : k = rb := e; have h3 := HSrb.out; omega), fun k q => Nat.lt_of_lt_of_le (FSx.out k q) hp2.size, (SVx.out.far hp2 (fun k q e => by have h1 := HSX.out; have h2 : k = rb := e; have h3 := HVK.out k q; have h4 := HSrb.out; omega)).mono (fun k q => (HVK2.out k q)), HD.out.sub buyer s, CHx.out.trans hp2 (fun i hi q => by have h1 := HSX.out; have h2 : i = rb := q; omega)⟩
 ·
  go_upto_region 13 with (fail)
  try any_goals (exfalso; omega)
  clear a3 a4
  obtain ⟨cd, hcd⟩ : ∃ z, z = subC lots st buyer := ⟨_, rfl⟩
  have HCD := lhid hcd
  clear hcd
  have a1 := (blk_cell AB_21.out 1).trans rfl
  have hsu := Submit_t base t F w4 lots st H buyer salt HT_18.out
  rw [← HCD.out] at hsu
  go_wp2_with fail
  try any_goals (exfalso; omega)
  with_reducible refine hsu.mono ?_
  rintro e w5 ⟨rfl, ht, hch⟩
  clear hsu a1
  have CHc := lhid (CH_17.out.trans hch (fun _ _ q => q))
  have HTc := lhid (ht)
  have XBc := lhid (hch.blk XB_20.out (fun q => by have h1 := HSX.out; have h2 : xb = t := q; omega))
  have ABc := lhid (hch.blk AB_21.out (fun q => by have h1 := HSX.out; have h2 : ab = t := q; omega))
  have RBc := lhid (hch.blk RB_22.out (fun q => by have h1 := HSX.out; have h2 : rb = t := q; omega))
  have Oc := lhid (Kd.R_mono (Kd.R_step (Kd.R_bound HO.out) (fun k q hk => hch.block k hk (fun e => by have h1 := q.2.1; have h2 := HTL.out; have h3 : k = t := e; omega))) (fun k q => q.1))
  have FSc := lhid (fun k q => Nat.lt_of_lt_of_le (FS_19.out k q) hch.size)
  have RBLc := lhid (Nat.lt_of_lt_of_le RBL_23.out hch.size)
  clear hch CH_17 HT_18 XB_20 AB_21 RB_22 HO FS_19 RBL_23
  clear ht
  have RBLOW0 := RBLc.out
  have a1 := (blk_cell ABc.out 1).trans rfl
  obtain ⟨n0, n1, n2, n3, n4, n5⟩ := six XBc.out
  have hss := Submit_s buyer salt (HSV0.out.far CHc.out (fun k q e => HOK.out k q.1 e)) HD.out.len HD.out.few HD.out.l1 HD.out.l2
  rw [← HCD.out] at hss
  go_wp2_with fail
  try any_goals (exfalso; omega)
  with_reducible refine hss.mono ?_
  rintro e w6 ⟨v', rfl, hS', hb⟩
  clear hss a1 n0 n1 n2 n3 n4 n5
  have hS' := SV.sub HD.out hS'
  have HV := lhid hS'
  obtain ⟨B2, B3, B4, B5, k2, k3, k4, k5, rfl, hq⟩ := hS'
  clear hq
  have CH_50 := lhid (CHc.out.next hb)
  have HT_51 := lhid (HTc.out.next hb)
  have FS_52 := lhid (fun k q => Nat.lt_of_lt_of_le (FSc.out k q) (hb).size)
  have XB_53 := lhid (blk_below XBc.out hb)
  have AB_54 := lhid (blk_below ABc.out hb)
  have RB_55 := lhid (blk_below RBc.out hb)
  have RBL_56 := lhid (Nat.lt_of_lt_of_le RBLc.out (hb).size)
  have O_57 := lhid (Kd.R_below Oc.out hb)
  clear CHc HTc FSc XBc ABc RBc RBLc Oc hb
  have HVK := lhid (show ∀ k, ((ok k ∧ k < w.heap.size) ∨ w5.heap.size ≤ k) → k < w.heap.size ∨ rb < k from fun k q => q.elim (fun z => Or.inl z.2) (fun z => Or.inr (by omega)))
  have HVK2 := lhid (show ∀ k, ((ok k ∧ k < w.heap.size) ∨ w5.heap.size ≤ k) → ok k ∨ w.heap.size ≤ k from fun k q => q.elim (fun z => Or.inl z.1) (fun z => Or.inr (by have h1 := HSX.out; omega)))
  have RBLOW := lhid (show rb < w6.heap.size from RBL_56.out)
  clear RBLOW0
  go_upto_region 15 with (fail)
  try any_goals (exfalso; omega)
  have hb := Zba (Below.refl w6.heap.size w6) (.cells #[.int .i64 lots, .int .i64 st, .slice B2 8 k2, .slice B3 8 k3, .slice B4 8 k4, .slice B5 8 k5] 93)
  have hn := blk_new w6 (.cells #[.int .i64 lots, .int .i64 st, .slice B2 8 k2, .slice B3 8 k3, .slice B4 8 k4, .slice B5 8 k5] 93)
  have HZ7 := lhid (show (World.alloc w6 (.cells #[.int .i64 lots, .int .i64 st, .slice B2 8 k2, .slice B3 8 k3, .slice B4 8 k4, .slice B5 8 k5] 93)).heap.size = w6.heap.size + 1 from by simp)
  generalize hq : World.alloc w6 (.cells #[.int .i64 lots, .int .i64 st, .slice B2 8 k2, .slice B3 8 k3, .slice B4 8 k4, .slice B5 8 k5] 93) = w7 at hb hn HZ7 ⊢
  clear hq
  have CH_58 := lhid (CH_50.out.next hb)
  have HT_59 := lhid (HT_51.out.next hb)
  have FS_60 := lhid (fun k q => Nat.lt_of_lt_of_le (FS_52.out k q) (hb).size)
  have XB_61 := lhid (blk_below XB_53.out hb)
  have AB_62 := lhid (blk_below AB_54.out hb)
  have RB_63 := lhid (blk_below RB_55.out hb)
  have RBL_64 := lhid (Nat.lt_of_lt_of_le RBL_56.out (hb).size)
  have O_65 := lhid (Kd.R_below O_57.out hb)
  have SV_66 := lhid (HV.out.next hb)
  clear CH_50 HT_51 FS_52 XB_53 AB_54 RB_55 RBL_56 O_57 HV hb
  have NB_67 := lhid (hn)
  clear hn
  obtain ⟨nb, hnb⟩ : ∃ q, q = w6.heap.size := ⟨_, rfl⟩
  rw [← hnb] at NB_67 ⊢
  have HSnb := lhid (show rb < nb from by rw [hnb]; exact RBLOW.out)
  clear hnb RBLOW
  obtain ⟨n0, n1, n2, n3, n4, n5⟩ := six NB_67.out
  obtain ⟨r0, r1, r2, r3, r4, r5⟩ := six XB_61.out
  have hfz := fun o => blk_frozen XB_61.out o
  go_upto_region 16 with (fail)
  try any_goals (exfalso; omega)
  have hp := put6 XB_61.out (.int .i64 lots) (.int .i64 st) (.slice B2 8 k2) (.slice B3 8 k3) (.slice B4 8 k4) (.slice B5 8 k5)
  clear n0 n1 n2 n3 n4 n5 r0 r1 r2 r3 r4 r5 hfz
  generalize World.setCell (World.setCell (World.setCell (World.setCell (World.setCell (World.setCell (w7) ⟨xb, 0, none⟩ (.int .i64 lots)) ⟨xb, 1, none⟩ (.int .i64 st)) ⟨xb, 2, none⟩ (.slice B2 8 k2)) ⟨xb, 3, none⟩ (.slice B3 8 k3)) ⟨xb, 4, none⟩ (.slice B4 8 k4)) ⟨xb, 5, none⟩ (.slice B5 8 k5) = wx at hp ⊢
  obtain ⟨hp1, hp2⟩ := hp
  have CHx := lhid (CH_58.out.trans hp2 (fun i hi q => by have h1 := HSX.out; have h2 : i = xb := q; omega))
  have HTx := lhid (HT_59.out.far hp2 (fun q => by have h1 := HSX.out; have h2 : t = xb := q; omega) (fun k q e => by have h1 := HFK.out k q; have h2 : k = xb := e; have h3 := HSX.out; have h4 := HSxb.out; omega))
  have XBx := lhid hp1
  have ABx := lhid (hp2.blk AB_62.out (fun q => by have h1 := HSX.out; have h2 : ab = xb := q; omega))
  have RBx := lhid (hp2.blk RB_63.out (fun q => by have h1 := HSX.out; have h2 : rb = xb := q; omega))
  have Ox := lhid (Kd.R_mono (Kd.R_step (Kd.R_types O_65.out XB_61.out (by decide)) (fun k q hk => hp2.block k hk q.2)) (fun k q => q.1))
  have FSx := lhid (fun k q => Nat.lt_of_lt_of_le (FS_60.out k q) hp2.size)
  have RBLx := lhid (Nat.lt_of_lt_of_le RBL_64.out hp2.size)
  have SVx := lhid (SV_66.out.far hp2 (fun k q e => by have h1 := HSX.out; have h2 : k = xb := e; have h3 := HVK.out k q; have h4 := HSxb.out; omega))
  clear hp1 hp2 CH_58 HT_59 XB_61 AB_62 RB_63 O_65 FS_60 RBL_64 SV_66 NB_67
  obtain ⟨n0, n1, n2, n3, n4, n5⟩ := six XBx.out
  obtain ⟨r0, r1, r2, r3, r4, r5⟩ := six RBx.out
  have hfz := fun o => blk_frozen RBx.out o
  have hne1 : xb ≠ rb := by have h1 := HSX.out; omega
  go_wp2_with fail
  try any_goals (exfalso; omega)
  have hp := put6 RBx.out (.int .i64 lots) (.int .i64 st) (.slice B2 8 k2) (.slice B3 8 k3) (.slice B4 8 k4) (.slice B5 8 k5)
  clear n0 n1 n2 n3 n4 n5 r0 r1 r2 r3 r4 r5 hfz
  generalize World.setCell (World.setCell (World.setCell (World.setCell (World.setCell (World.setCell (wx) ⟨rb, 0, none⟩ (.int .i64 lots)) ⟨rb, 1, none⟩ (.int .i64 st)) ⟨rb, 2, none⟩ (.slice B2 8 k2)) ⟨rb, 3, none⟩ (.slice B3 8 k3)) ⟨rb, 4, none⟩ (.slice B4 8 k4)) ⟨rb, 5, none⟩ (.slice B5 8 k5) = wf at hp ⊢
  obtain ⟨hp1, hp2⟩ := hp
  refine bodyPost_ret (results_ct rfl _ _ rb 93 #[(.int .i64 lots), (.int .i64 st), (.slice B2 8 k2), (.slice B3 8 k3), (.slice B4 8 k4), (.slice B5 8 k5)] (0, 0) _ rfl hp1 Try.underlying93 rfl (by kernel_rfl)) rfl ?_
  exact ⟨_, _, st, _, rfl, HTx.out.far hp2 (fun q => by have h1 := HSX.out; have h2 : t = rb := q; omega) (fun k q e => by have h1 := HFK.out k q; have h2 : k = rb := e; have h3 := HSrb.out; omega), fun k q => Nat.lt_of_lt_of_le (FSx.out k q) hp2.size, (SVx.out.far hp2 (fun k q e => by have h1 := HSX.out; have h2 : k = rb := e; have h3 := HVK.out k q; have h4 := HSrb.out; omega)).mono (fun k q => (HVK2.out k q)), HD.out.sub buyer salt, CHx.out.trans hp2 (fun i hi q => by have h1 := HSX.out; have h2 : i = rb := q; omega)⟩
set_option maxHeartbeats 12800000 in
set_option maxRecDepth 100000 in
theorem do_shut (w0 w : World) (base t : Nat) (F ok : Nat → Prop) (lots st : Int) (H : List Hd) (v : Value) (kn : Nat) (buyer : Int) (A : Option Addr) (c : Nat) (l : List S50) (salt : Int) (raw : Bool) (hB0 : Below w0.heap.size w0 w) (ht0 : w0.heap.size ≤ t) (hT : TN base F w t lots st H) (hbase : base ≤ w.heap.size) (hF : ∀ k, F k → k < w.heap.size) (hS : SV w ok v lots st H) (hok : ∀ k, ok k → k ≠ t) (hD : DI lots st H) (hC : Kd.C k50 w0 A l.length l) (hc : l.length ≤ c) (hs0 : 0 ≤ salt ∧ salt < 18446744073709551616) (hl : l.length ≤ 20) (hkn : kn < 256) (hm : kn % 6 = 2) : Calls Try.prog 44 #[.pointer (some ⟨t, 0, none⟩), v, .agg #[.int .u8 (kn : Int), .int .i64 buyer, .slice A l.length c, .int .u64 salt, .bool raw]] w (DoP base t ok lots w) := by
 have hu93 := Try.underlying93
 have hu80 := Try.underlying80
 have hu44 := Try.underlying44
 have hu50 := Try.underlying50
 have HB0 := lhid hB0
 have HT0 := lhid ht0
 have HTT := lhid hT
 have HBS := lhid hbase
 have HF := lhid hF
 have HS0 := lhid hS.bound
 have HOK := lhid hok
 have HD := lhid hD
 have HC := lhid hC
 have HCC := lhid hc
 have HSA := lhid hs0
 have HLEN := lhid hl
 have HTL := lhid hT.lt
 obtain ⟨ko, hko⟩ := ev_own l (by omega)
 have HKO := lhid (hko ko (Nat.le_refl _))
 have hrem : ((kn : Int)).tmod 6 = 2 := by rw [Int.tmod_eq_emod_of_nonneg (by omega)]; omega
 have hk0 : (0 : Int) ≤ (kn : Int) := by omega
 have hk1 : (kn : Int) < 256 := by omega
 clear hko hB0 ht0 hT hbase hF hok hD hC hc hs0 hl hm hkn
 obtain ⟨A2, A3, A4, A5, c2, c3, c4, c5, rfl, hq⟩ := hS
 clear hq
 go_enter Try.func44, Try.ntmps44
 have CH_1 := lhid (Chg.refl (fun k => k = t) w)
 have HFK := lhid (show ∀ k, F k → k < w.heap.size ∨ w.heap.size + 2 < k from fun k q => Or.inl (HF.out k q))
 go_upto_region 1 with (fail)
 have hb := Zba (Below.refl w.heap.size w) (.cells #[.int .i64 lots, .int .i64 st, .slice A2 8 c2, .slice A3 8 c3, .slice A4 8 c4, .slice A5 8 c5] 93)
 have hn := blk_new w (.cells #[.int .i64 lots, .int .i64 st, .slice A2 8 c2, .slice A3 8 c3, .slice A4 8 c4, .slice A5 8 c5] 93)
 have HZ1 := lhid (show (World.alloc w (.cells #[.int .i64 lots, .int .i64 st, .slice A2 8 c2, .slice A3 8 c3, .slice A4 8 c4, .slice A5 8 c5] 93)).heap.size = w.heap.size + 1 from by simp)
 generalize hq : World.alloc w (.cells #[.int .i64 lots, .int .i64 st, .slice A2 8 c2, .slice A3 8 c3, .slice A4 8 c4, .slice A5 8 c5] 93) = w1 at hb hn HZ1 ⊢
 clear hq
 have CH_2 := lhid (CH_1.out.next hb)
 have HT_3 := lhid (HTT.out.next hb)
 have FS_4 := lhid (fun k q => Nat.lt_of_lt_of_le (HF.out k q) (hb).size)
 clear CH_1 HTT HF hb
 have XB_5 := lhid (hn)
 clear hn
 obtain ⟨xb, hxb⟩ : ∃ q, q = w.heap.size := ⟨_, rfl⟩
 rw [← hxb] at XB_5 ⊢
 have HSxb := lhid (show xb = w.heap.size ∧ w1.heap.size = xb + 1 from ⟨hxb, by rw [hxb]; exact HZ1.out⟩)
 clear hxb
 have hb := Zba (Below.refl w1.heap.size w1) (.cells #[.int .u8 (kn : Int), .int .i64 buyer, .slice A l.length c, .int .u64 salt, .bool raw] 80)
 have hn := blk_new w1 (.cells #[.int .u8 (kn : Int), .int .i64 buyer, .slice A l.length c, .int .u64 salt, .bool raw] 80)
 have HZ2 := lhid (show (World.alloc w1 (.cells #[.int .u8 (kn : Int), .int .i64 buyer, .slice A l.length c, .int .u64 salt, .bool raw] 80)).heap.size = w1.heap.size + 1 from by simp)
 generalize hq : World.alloc w1 (.cells #[.int .u8 (kn : Int), .int .i64 buyer, .slice A l.length c, .int .u64 salt, .bool raw] 80) = w2 at hb hn HZ2 ⊢
 clear hq
 have CH_6 := lhid (CH_2.out.next hb)
 have HT_7 := lhid (HT_3.out.next hb)
 have FS_8 := lhid (fun k q => Nat.lt_of_lt_of_le (FS_4.out k q) (hb).size)
 have XB_9 := lhid (blk_below XB_5.out hb)
 clear CH_2 HT_3 FS_4 XB_5 hb
 have AB_10 := lhid (hn)
 clear hn
 obtain ⟨ab, hab⟩ : ∃ q, q = xb + 1 := ⟨_, rfl⟩
 rw [show w1.heap.size = ab by have h1 := HSxb.out; omega] at AB_10
 rw [← hab]
 have HSab := lhid (show ab = w.heap.size + 1 ∧ w2.heap.size = ab + 1 from by have h1 := HSxb.out; have h2 := HZ2.out; omega)
 clear hab
 have hb := Zba (Below.refl w2.heap.size w2) (.cells #[.int .i64 0, .int .i64 0, .slice none 0 0, .slice none 0 0, .slice none 0 0, .slice none 0 0] 93)
 have hn := blk_new w2 (.cells #[.int .i64 0, .int .i64 0, .slice none 0 0, .slice none 0 0, .slice none 0 0, .slice none 0 0] 93)
 have HZ3 := lhid (show (World.alloc w2 (.cells #[.int .i64 0, .int .i64 0, .slice none 0 0, .slice none 0 0, .slice none 0 0, .slice none 0 0] 93)).heap.size = w2.heap.size + 1 from by simp)
 generalize hq : World.alloc w2 (.cells #[.int .i64 0, .int .i64 0, .slice none 0 0, .slice none 0 0, .slice none 0 0, .slice none 0 0] 93) = w3 at hb hn HZ3 ⊢
 clear hq
 have CH_11 := lhid (CH_6.out.next hb)
 have HT_12 := lhid (HT_7.out.next hb)
 have FS_13 := lhid (fun k q => Nat.lt_of_lt_of_le (FS_8.out k q) (hb).size)
 have XB_14 := lhid (blk_below XB_9.out hb)
 have AB_15 := lhid (blk_below AB_10.out hb)
 clear CH_6 HT_7 FS_8 XB_9 AB_10 hb
 have RB_16 := lhid (hn)
 clear hn
 obtain ⟨rb, hrb⟩ : ∃ q, q = ab + 1 := ⟨_, rfl⟩
 rw [show w2.heap.size = rb by have h1 := HSab.out; omega] at RB_16
 rw [← hrb]
 have HSrb := lhid (show rb = w.heap.size + 2 ∧ w3.heap.size = rb + 1 from by have h1 := HSab.out; have h2 := HZ3.out; omega)
 clear hrb
 have HSX := lhid (show t < xb ∧ w.heap.size ≤ xb ∧ w.heap.size ≤ rb ∧ w.heap.size ≤ ab ∧ xb < ab ∧ ab < rb from by have h1 := HSxb.out; have h2 := HSab.out; have h3 := HSrb.out; have h4 := HTL.out; omega)
 have HSV0 := lhid (show SV w (fun k => ok k ∧ k < w.heap.size) (.agg #[.int .i64 lots, .int .i64 st, .slice A2 8 c2, .slice A3 8 c3, .slice A4 8 c4, .slice A5 8 c5]) lots st H from HS0.out)
 have HRBL := lhid (blk_lt RB_16.out)
 have a2 := (blk_cell AB_15.out 2).trans rfl
 go_wp2_with fail
 try any_goals (exfalso; omega)
 with_reducible refine (kimberlitelaw05_own.calls ko A c l l w3 (Kd.C_below HC.out (HB0.out.trans (CH_11.out.below HB0.out.size (fun k q => by rw [show k = t from q]; exact HT0.out)))) HCC.out HKO.out).mono ?_
 rintro e w4 ⟨vo, rfl, hO, hb⟩
 have HO := lhid (Kd.R_lower hO (show w.heap.size ≤ w3.heap.size from CH_11.out.size))
 obtain ⟨Ao, co, rfl⟩ := Kd.R_slice hO
 clear hO a2
 have CH_17 := lhid (CH_11.out.next hb)
 have HT_18 := lhid (HT_12.out.next hb)
 have FS_19 := lhid (fun k q => Nat.lt_of_lt_of_le (FS_13.out k q) (hb).size)
 have XB_20 := lhid (blk_below XB_14.out hb)
 have AB_21 := lhid (blk_below AB_15.out hb)
 have RB_22 := lhid (blk_below RB_16.out hb)
 have RBL_23 := lhid (Nat.lt_of_lt_of_le HRBL.out (hb).size)
 clear CH_11 HT_12 FS_13 XB_14 AB_15 RB_16 HRBL hb
 have a0 := (blk_cell AB_21.out 0).trans rfl
 go_upto_region 18 with (fail)
 try any_goals (exfalso; omega)
 clear a0 hrem hk0 hk1
 obtain ⟨cd, hcd⟩ : ∃ z, z = inC lots st 0 := ⟨_, rfl⟩
 have HCD := lhid hcd
 clear hcd
 obtain ⟨s2, hs2⟩ : ∃ z, z = shutS lots st := ⟨_, rfl⟩
 have HS2 := lhid hs2
 clear hs2
 have hsu := Shut_t base t F w4 lots st H HT_18.out
 rw [← HCD.out, ← HS2.out] at hsu
 go_wp2_with fail
 try any_goals (exfalso; omega)
 with_reducible refine hsu.mono ?_
 rintro e w5 ⟨rfl, ht, hch⟩
 clear hsu
 have CHc := lhid (CH_17.out.trans hch (fun _ _ q => q))
 have HTc := lhid (ht)
 have XBc := lhid (hch.blk XB_20.out (fun q => by have h1 := HSX.out; have h2 : xb = t := q; omega))
 have ABc := lhid (hch.blk AB_21.out (fun q => by have h1 := HSX.out; have h2 : ab = t := q; omega))
 have RBc := lhid (hch.blk RB_22.out (fun q => by have h1 := HSX.out; have h2 : rb = t := q; omega))
 have Oc := lhid (Kd.R_mono (Kd.R_step (Kd.R_bound HO.out) (fun k q hk => hch.block k hk (fun e => by have h1 := q.2.1; have h2 := HTL.out; have h3 : k = t := e; omega))) (fun k q => q.1))
 have FSc := lhid (fun k q => Nat.lt_of_lt_of_le (FS_19.out k q) hch.size)
 have RBLc := lhid (Nat.lt_of_lt_of_le RBL_23.out hch.size)
 clear hch CH_17 HT_18 XB_20 AB_21 RB_22 HO FS_19 RBL_23
 clear ht
 obtain ⟨n0, n1, n2, n3, n4, n5⟩ := six XBc.out
 have hss := Shut_s (HSV0.out.far CHc.out (fun k q e => HOK.out k q.1 e)) HD.out.len HD.out.few HD.out.l1 HD.out.l2
 rw [← HCD.out, ← HS2.out] at hss
 go_wp2_with fail
 try any_goals (exfalso; omega)
 with_reducible refine hss.mono ?_
 have RBLOW0 := RBLc.out
 rintro e w6 ⟨v', rfl, hS', hb⟩
 clear hss n0 n1 n2 n3 n4 n5
 have HV := lhid hS'
 obtain ⟨B2, B3, B4, B5, k2, k3, k4, k5, rfl, hq⟩ := hS'
 clear hq
 have CH_24 := lhid (CHc.out.next hb)
 have HT_25 := lhid (HTc.out.next hb)
 have FS_26 := lhid (fun k q => Nat.lt_of_lt_of_le (FSc.out k q) (hb).size)
 have XB_27 := lhid (blk_below XBc.out hb)
 have AB_28 := lhid (blk_below ABc.out hb)
 have RB_29 := lhid (blk_below RBc.out hb)
 have RBL_30 := lhid (Nat.lt_of_lt_of_le RBLc.out (hb).size)
 have O_31 := lhid (Kd.R_below Oc.out hb)
 clear CHc HTc FSc XBc ABc RBc RBLc Oc hb
 have HVK := lhid (show ∀ k, ((ok k ∧ k < w.heap.size) ∨ w5.heap.size ≤ k) → k < w.heap.size ∨ rb < k from fun k q => q.elim (fun z => Or.inl z.2) (fun z => Or.inr (by omega)))
 have HVK2 := lhid (show ∀ k, ((ok k ∧ k < w.heap.size) ∨ w5.heap.size ≤ k) → ok k ∨ w.heap.size ≤ k from fun k q => q.elim (fun z => Or.inl z.1) (fun z => Or.inr (by have h1 := HSX.out; omega)))
 have RBLOW := lhid (show rb < w6.heap.size from RBL_30.out)
 clear RBLOW0
 go_upto_region 20 with (fail)
 try any_goals (exfalso; omega)
 have hb := Zba (Below.refl w6.heap.size w6) (.cells #[.int .i64 lots, .int .i64 s2, .slice B2 8 k2, .slice B3 8 k3, .slice B4 8 k4, .slice B5 8 k5] 93)
 have hn := blk_new w6 (.cells #[.int .i64 lots, .int .i64 s2, .slice B2 8 k2, .slice B3 8 k3, .slice B4 8 k4, .slice B5 8 k5] 93)
 have HZ7 := lhid (show (World.alloc w6 (.cells #[.int .i64 lots, .int .i64 s2, .slice B2 8 k2, .slice B3 8 k3, .slice B4 8 k4, .slice B5 8 k5] 93)).heap.size = w6.heap.size + 1 from by simp)
 generalize hq : World.alloc w6 (.cells #[.int .i64 lots, .int .i64 s2, .slice B2 8 k2, .slice B3 8 k3, .slice B4 8 k4, .slice B5 8 k5] 93) = w7 at hb hn HZ7 ⊢
 clear hq
 have CH_32 := lhid (CH_24.out.next hb)
 have HT_33 := lhid (HT_25.out.next hb)
 have FS_34 := lhid (fun k q => Nat.lt_of_lt_of_le (FS_26.out k q) (hb).size)
 have XB_35 := lhid (blk_below XB_27.out hb)
 have AB_36 := lhid (blk_below AB_28.out hb)
 have RB_37 := lhid (blk_below RB_29.out hb)
 have RBL_38 := lhid (Nat.lt_of_lt_of_le RBL_30.out (hb).size)
 have O_39 := lhid (Kd.R_below O_31.out hb)
 have SV_40 := lhid (HV.out.next hb)
 clear CH_24 HT_25 FS_26 XB_27 AB_28 RB_29 RBL_30 O_31 HV hb
 have NB_41 := lhid (hn)
 clear hn
 obtain ⟨nb, hnb⟩ : ∃ q, q = w6.heap.size := ⟨_, rfl⟩
 rw [← hnb] at NB_41 ⊢
 have HSnb := lhid (show rb < nb from by rw [hnb]; exact RBLOW.out)
 clear hnb RBLOW
 obtain ⟨n0, n1, n2, n3, n4, n5⟩ := six NB_41.out
 obtain ⟨r0, r1, r2, r3, r4, r5⟩ := six XB_35.out
 have hfz := fun o => blk_frozen XB_35.out o
 go_upto_region 21 with (fail)
 try any_goals (exfalso; omega)
 have hp := put6 XB_35.out (.int .i64 lots) (.int .i64 s2) (.slice B2 8 k2) (.slice B3 8 k3) (.slice B4 8 k4) (.slice B5 8 k5)
 clear n0 n1 n2 n3 n4 n5 r0 r1 r2 r3 r4 r5 hfz
 generalize World.setCell (World.setCell (World.setCell (World.setCell (World.setCell (World.setCell (w7) ⟨xb, 0, none⟩ (.int .i64 lots)) ⟨xb, 1, none⟩ (.int .i64 s2)) ⟨xb, 2, none⟩ (.slice B2 8 k2)) ⟨xb, 3, none⟩ (.slice B3 8 k3)) ⟨xb, 4, none⟩ (.slice B4 8 k4)) ⟨xb, 5, none⟩ (.slice B5 8 k5) = wx at hp ⊢
 obtain ⟨hp1, hp2⟩ := hp
 have CHx := lhid (CH_32.out.trans hp2 (fun i hi q => by have h1 := HSX.out; have h2 : i = xb := q; omega))
 have HTx := lhid (HT_33.out.far hp2 (fun q => by have h1 := HSX.out; have h2 : t = xb := q; omega) (fun k q e => by have h1 := HFK.out k q; have h2 : k = xb := e; have h3 := HSX.out; have h4 := HSxb.out; omega))
 have XBx := lhid hp1
 have ABx := lhid (hp2.blk AB_36.out (fun q => by have h1 := HSX.out; have h2 : ab = xb := q; omega))
 have RBx := lhid (hp2.blk RB_37.out (fun q => by have h1 := HSX.out; have h2 : rb = xb := q; omega))
 have Ox := lhid (Kd.R_mono (Kd.R_step (Kd.R_types O_39.out XB_35.out (by decide)) (fun k q hk => hp2.block k hk q.2)) (fun k q => q.1))
 have FSx := lhid (fun k q => Nat.lt_of_lt_of_le (FS_34.out k q) hp2.size)
 have RBLx := lhid (Nat.lt_of_lt_of_le RBL_38.out hp2.size)
 have SVx := lhid (SV_40.out.far hp2 (fun k q e => by have h1 := HSX.out; have h2 : k = xb := e; have h3 := HVK.out k q; have h4 := HSxb.out; omega))
 clear hp1 hp2 CH_32 HT_33 XB_35 AB_36 RB_37 O_39 FS_34 RBL_38 SV_40 NB_41
 obtain ⟨n0, n1, n2, n3, n4, n5⟩ := six XBx.out
 obtain ⟨r0, r1, r2, r3, r4, r5⟩ := six RBx.out
 have hfz := fun o => blk_frozen RBx.out o
 have hne1 : xb ≠ rb := by have h1 := HSX.out; omega
 go_wp2_with fail
 try any_goals (exfalso; omega)
 have hp := put6 RBx.out (.int .i64 lots) (.int .i64 s2) (.slice B2 8 k2) (.slice B3 8 k3) (.slice B4 8 k4) (.slice B5 8 k5)
 clear n0 n1 n2 n3 n4 n5 r0 r1 r2 r3 r4 r5 hfz
 generalize World.setCell (World.setCell (World.setCell (World.setCell (World.setCell (World.setCell (wx) ⟨rb, 0, none⟩ (.int .i64 lots)) ⟨rb, 1, none⟩ (.int .i64 s2)) ⟨rb, 2, none⟩ (.slice B2 8 k2)) ⟨rb, 3, none⟩ (.slice B3 8 k3)) ⟨rb, 4, none⟩ (.slice B4 8 k4)) ⟨rb, 5, none⟩ (.slice B5 8 k5) = wf at hp ⊢
 obtain ⟨hp1, hp2⟩ := hp
 refine bodyPost_ret (results_ct rfl _ _ rb 93 #[(.int .i64 lots), (.int .i64 s2), (.slice B2 8 k2), (.slice B3 8 k3), (.slice B4 8 k4), (.slice B5 8 k5)] (0, 0) _ rfl hp1 Try.underlying93 rfl (by kernel_rfl)) rfl ?_
 exact ⟨_, _, s2, _, rfl, HTx.out.far hp2 (fun q => by have h1 := HSX.out; have h2 : t = rb := q; omega) (fun k q e => by have h1 := HFK.out k q; have h2 : k = rb := e; have h3 := HSrb.out; omega), fun k q => Nat.lt_of_lt_of_le (FSx.out k q) hp2.size, (SVx.out.far hp2 (fun k q e => by have h1 := HSX.out; have h2 : k = rb := e; have h3 := HVK.out k q; have h4 := HSrb.out; omega)).mono (fun k q => (HVK2.out k q)), (by rw [HS2.out]; exact HD.out.shut), CHx.out.trans hp2 (fun i hi q => by have h1 := HSX.out; have h2 : i = rb := q; omega)⟩
end Go.Proofs.Ythfdjccdelbeeaa.PT
end
