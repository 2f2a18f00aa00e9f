/-
  The texts that the theorem in YthfdjccdelbeeaaZRowPl rests on, merged (part 13); only what it reaches.
-/
import Derived.Test.YthfdjccdelbeeaaZPl2
import Derived.Test.YthfdjccdelbeeaaZPl4
import Derived.Test.YthfdjccdelbeeaaZPl5
import Derived.Test.YthfdjccdelbeeaaZPl7
import Derived.Test.YthfdjccdelbeeaaZPl10
import Derived.Test.YthfdjccdelbeeaaZPl11
section
namespace Go.Proofs.Ythfdjccdelbeeaa.PT
open Go.RowKit Go.Proofs.YthfdjccdelbeeaaW.PrintWords Go.Proofs.YthfdjccdelbeeaaW.PrintLast Go.Proofs.YthfdjccdelbeeaaW.PrintMore
set_option linter.unusedVariables false
set_option linter.unusedSimpArgs false
theorem zfill {w : World} {base g c : Nat} {xs : List S50} {n : Nat} {ok : Nat → Prop} (h : Kd.R k50 50 w base ok (.slice (some ⟨g, 0, none⟩) n c) xs) (i : Nat) (hi : i < n) (y : S50) :
  ∃ u0 u1 u2, w.cell? ⟨g, i * 3, none⟩ = some u0 ∧ w.cell? ⟨g, i * 3 + 1, none⟩ = some u1 ∧ w.cell? ⟨g, i * 3 + 2, none⟩ = some u2 ∧ (∀ j, w.frozen? ⟨g, i * 3 + j, none⟩ = false) ∧
   Kd.R k50 50 (World.setCell (World.setCell (World.setCell w ⟨g, i * 3, none⟩ (.int .i64 y.f0)) ⟨g, i * 3 + 1, none⟩ (.int .i64 y.f1)) ⟨g, i * 3 + 2, none⟩ (.int .i64 y.f2)) base ok (.slice (some ⟨g, 0, none⟩) n c) (xs.set i y) := by
 obtain ⟨cs, hcl, hM, hcc, hf⟩ := Kd.R_elem h z50 (i : Int) (by omega) (by omega)
 have h3 : cs.length = 3 := hcl
 obtain ⟨u0, u1, u2, rfl⟩ : ∃ u0 u1 u2, cs = [u0, u1, u2] := by
  match cs, h3 with
  | [a, b, c], _ => exact ⟨a, b, c, rfl⟩
 have e0 := hcc 0 u0 rfl
 have e1 := hcc 1 u1 rfl
 have e2 := hcc 2 u2 rfl
 simp only [Int.toNat_natCast, show k50.sz = 3 from rfl, Nat.add_zero] at e0 e1 e2 hf
 refine ⟨u0, u1, u2, e0, e1, e2, hf, ?_⟩
 have hs := (Kd.R_seg h (i : Int) (by omega) (by omega) (c := [u0, u1, u2]) (seg := [.int .i64 y.f0, .int .i64 y.f1, .int .i64 y.f2]) (j := 0) hcl hcc (show 3 ≤ 3 from by decide) (x' := y) (okp := fun _ => False) (k50_mkM _ _ _ y) (fun _ q => q.elim)).1
 simp only [Int.toNat_natCast, show k50.sz = 3 from rfl, Nat.add_zero] at hs
 exact hs
theorem chg3 {W : World} {b i : Nat} (u0 u1 u2 : Value) : Chg (fun k => k = b) W (World.setCell (World.setCell (World.setCell W ⟨b, i, none⟩ u0) ⟨b, i + 1, none⟩ u1) ⟨b, i + 2, none⟩ u2) :=
 (((Chg.refl (fun k => k = b) W).set (p := ⟨b, i, none⟩) (Or.inr rfl) u0).set (p := ⟨b, i + 1, none⟩) (Or.inr rfl) u1).set (p := ⟨b, i + 2, none⟩) (Or.inr rfl) u2
set_option maxHeartbeats 12800000 in
set_option maxRecDepth 100000 in
theorem do_show3 (w0 w : World) (base t : Nat) (F ok : Nat → Prop) (lots st : Int) (H : List Hd) (v : Value) (kn : Nat) (buyer : Int) (A : Option Addr) (c : Nat) (l : List S50) (salt : Int) (raw : Bool) (hB0 : Below w0.heap.size w0 w) (ht0 : w0.heap.size ≤ t) (hT : TN base F w t lots st H) (hbase : base ≤ w.heap.size) (hF : ∀ k, F k → k < w.heap.size) (hS : SV w ok v lots st H) (hok : ∀ k, ok k → k ≠ t) (hD : DI lots st H) (hC : Kd.C k50 w0 A l.length l) (hc : l.length ≤ c) (hs0 : 0 ≤ salt ∧ salt < 18446744073709551616) (hl : l.length ≤ 20) (hkn : kn < 256) (hm : kn % 6 = 3) : Calls Try.prog 44 #[.pointer (some ⟨t, 0, none⟩), v, .agg #[.int .u8 (kn : Int), .int .i64 buyer, .slice A l.length c, .int .u64 salt, .bool raw]] w (DoP base t ok lots w) := by
 have hu93 := Try.underlying93
 have hu80 := Try.underlying80
 have hu44 := Try.underlying44
 have hu50 := Try.underlying50
 have HB0 := lhid hB0
 have HT0 := lhid ht0
 have HTT := lhid hT
 have HBS := lhid hbase
 have HF := lhid hF
 have HS0 := lhid hS.bound
 have HOK := lhid hok
 have HD := lhid hD
 have HC := lhid hC
 have HCC := lhid hc
 have HSA := lhid hs0
 have HLEN := lhid hl
 have HTL := lhid hT.lt
 obtain ⟨ko, hko⟩ := ev_own l (by omega)
 have HKO := lhid (hko ko (Nat.le_refl _))
 have hrem : ((kn : Int)).tmod 6 = 3 := by rw [Int.tmod_eq_emod_of_nonneg (by omega)]; omega
 have hk0 : (0 : Int) ≤ (kn : Int) := by omega
 have hk1 : (kn : Int) < 256 := by omega
 clear hko hB0 ht0 hT hbase hF hok hD hC hc hs0 hl hm hkn
 obtain ⟨A2, A3, A4, A5, c2, c3, c4, c5, rfl, hq⟩ := hS
 clear hq
 go_enter Try.func44, Try.ntmps44
 have CH_1 := lhid (Chg.refl (fun k => k = t) w)
 have HF0 := lhid HF.out
 have HFK := lhid (show ∀ k, F k → k < w.heap.size ∨ w.heap.size + 2 < k from fun k q => Or.inl (HF.out k q))
 go_upto_region 1 with (fail)
 have hb := Zba (Below.refl w.heap.size w) (.cells #[.int .i64 lots, .int .i64 st, .slice A2 8 c2, .slice A3 8 c3, .slice A4 8 c4, .slice A5 8 c5] 93)
 have hn := blk_new w (.cells #[.int .i64 lots, .int .i64 st, .slice A2 8 c2, .slice A3 8 c3, .slice A4 8 c4, .slice A5 8 c5] 93)
 have HZ1 := lhid (show (World.alloc w (.cells #[.int .i64 lots, .int .i64 st, .slice A2 8 c2, .slice A3 8 c3, .slice A4 8 c4, .slice A5 8 c5] 93)).heap.size = w.heap.size + 1 from by simp)
 generalize hq : World.alloc w (.cells #[.int .i64 lots, .int .i64 st, .slice A2 8 c2, .slice A3 8 c3, .slice A4 8 c4, .slice A5 8 c5] 93) = w1 at hb hn HZ1 ⊢
 clear hq
 have CH_2 := lhid (CH_1.out.next hb)
 have HT_3 := lhid (HTT.out.next hb)
 have FS_4 := lhid (fun k q => Nat.lt_of_lt_of_le (HF.out k q) (hb).size)
 clear CH_1 HTT HF hb
 have XB_5 := lhid (hn)
 clear hn
 obtain ⟨xb, hxb⟩ : ∃ q, q = w.heap.size := ⟨_, rfl⟩
 rw [← hxb] at XB_5 ⊢
 have HSxb := lhid (show xb = w.heap.size ∧ w1.heap.size = xb + 1 from ⟨hxb, by rw [hxb]; exact HZ1.out⟩)
 clear hxb
 have hb := Zba (Below.refl w1.heap.size w1) (.cells #[.int .u8 (kn : Int), .int .i64 buyer, .slice A l.length c, .int .u64 salt, .bool raw] 80)
 have hn := blk_new w1 (.cells #[.int .u8 (kn : Int), .int .i64 buyer, .slice A l.length c, .int .u64 salt, .bool raw] 80)
 have HZ2 := lhid (show (World.alloc w1 (.cells #[.int .u8 (kn : Int), .int .i64 buyer, .slice A l.length c, .int .u64 salt, .bool raw] 80)).heap.size = w1.heap.size + 1 from by simp)
 generalize hq : World.alloc w1 (.cells #[.int .u8 (kn : Int), .int .i64 buyer, .slice A l.length c, .int .u64 salt, .bool raw] 80) = w2 at hb hn HZ2 ⊢
 clear hq
 have CH_6 := lhid (CH_2.out.next hb)
 have HT_7 := lhid (HT_3.out.next hb)
 have FS_8 := lhid (fun k q => Nat.lt_of_lt_of_le (FS_4.out k q) (hb).size)
 have XB_9 := lhid (blk_below XB_5.out hb)
 clear CH_2 HT_3 FS_4 XB_5 hb
 have AB_10 := lhid (hn)
 clear hn
 obtain ⟨ab, hab⟩ : ∃ q, q = xb + 1 := ⟨_, rfl⟩
 rw [show w1.heap.size = ab by have h1 := HSxb.out; omega] at AB_10
 rw [← hab]
 have HSab := lhid (show ab = w.heap.size + 1 ∧ w2.heap.size = ab + 1 from by have h1 := HSxb.out; have h2 := HZ2.out; omega)
 clear hab
 have hb := Zba (Below.refl w2.heap.size w2) (.cells #[.int .i64 0, .int .i64 0, .slice none 0 0, .slice none 0 0, .slice none 0 0, .slice none 0 0] 93)
 have hn := blk_new w2 (.cells #[.int .i64 0, .int .i64 0, .slice none 0 0, .slice none 0 0, .slice none 0 0, .slice none 0 0] 93)
 have HZ3 := lhid (show (World.alloc w2 (.cells #[.int .i64 0, .int .i64 0, .slice none 0 0, .slice none 0 0, .slice none 0 0, .slice none 0 0] 93)).heap.size = w2.heap.size + 1 from by simp)
 generalize hq : World.alloc w2 (.cells #[.int .i64 0, .int .i64 0, .slice none 0 0, .slice none 0 0, .slice none 0 0, .slice none 0 0] 93) = w3 at hb hn HZ3 ⊢
 clear hq
 have CH_11 := lhid (CH_6.out.next hb)
 have HT_12 := lhid (HT_7.out.next hb)
 have FS_13 := lhid (fun k q => Nat.lt_of_lt_of_le (FS_8.out k q) (hb).size)
 have XB_14 := lhid (blk_below XB_9.out hb)
 have AB_15 := lhid (blk_below AB_10.out hb)
 clear CH_6 HT_7 FS_8 XB_9 AB_10 hb
 have RB_16 := lhid (hn)
 clear hn
 obtain ⟨rb, hrb⟩ : ∃ q, q = ab + 1 := ⟨_, rfl⟩
 rw [show w2.heap.size = rb by have h1 := HSab.out; omega] at RB_16
 rw [← hrb]
 have HSrb := lhid (show rb = w.heap.size + 2 ∧ w3.heap.size = rb + 1 from by have h1 := HSab.out; have h2 := HZ3.out; omega)
 clear hrb
 have HSX := lhid (show t < xb ∧ w.heap.size ≤ xb ∧ w.heap.size ≤ rb ∧ w.heap.size ≤ ab ∧ xb < ab ∧ ab < rb from by have h1 := HSxb.out; have h2 := HSab.out; have h3 := HSrb.out; have h4 := HTL.out; omega)
 have HSV0 := lhid (show SV w (fun k => ok k ∧ k < w.heap.size) (.agg #[.int .i64 lots, .int .i64 st, .slice A2 8 c2, .slice A3 8 c3, .slice A4 8 c4, .slice A5 8 c5]) lots st H from HS0.out)
 have HRBL := lhid (blk_lt RB_16.out)
 have a2 := (blk_cell AB_15.out 2).trans rfl
 go_wp2_with fail
 try any_goals (exfalso; omega)
 with_reducible refine (kimberlitelaw05_own.calls ko A c l l w3 (Kd.C_below HC.out (HB0.out.trans (CH_11.out.below HB0.out.size (fun k q => by rw [show k = t from q]; exact HT0.out)))) HCC.out HKO.out).mono ?_
 rintro e w4 ⟨vo, rfl, hO, hb⟩
 have HO9 := lhid (show ∀ k, Value.ownBlock vo = some k → w3.heap.size ≤ k from fun k e => Kd.R_base hO k e)
 have HO := lhid (Kd.R_lower hO (show w.heap.size ≤ w3.heap.size from CH_11.out.size))
 obtain ⟨Ao, co, rfl⟩ := Kd.R_slice hO
 clear hO a2
 have CH_17 := lhid (CH_11.out.next hb)
 have HT_18 := lhid (HT_12.out.next hb)
 have FS_19 := lhid (fun k q => Nat.lt_of_lt_of_le (FS_13.out k q) (hb).size)
 have XB_20 := lhid (blk_below XB_14.out hb)
 have AB_21 := lhid (blk_below AB_15.out hb)
 have RB_22 := lhid (blk_below RB_16.out hb)
 have RBL_23 := lhid (Nat.lt_of_lt_of_le HRBL.out (hb).size)
 clear CH_11 HT_12 FS_13 XB_14 AB_15 RB_16 HRBL hb
 have a0 := (blk_cell AB_21.out 0).trans rfl
 go_upto_region 24 with (fail)
 try any_goals (exfalso; omega)
 clear a0 hrem hk0 hk1
 have HOL := lhid (show ∀ k, Value.ownBlock (.slice Ao l.length co) = some k → k < w4.heap.size ∧ rb < k from fun k e => ⟨Kd.R_lt HO.out k e, by have h1 := HO9.out k e; have h2 := HSrb.out; omega⟩)
 obtain ⟨N, hN⟩ : ∃ N, N = w4.heap.size := ⟨_, rfl⟩
 rw [← hN] at HOL
 have HNN := lhid hN
 clear hN
 obtain ⟨cd, hcd⟩ : ∃ z, z = showC lots st H buyer l salt := ⟨_, rfl⟩
 have HCD := lhid hcd
 clear hcd
 have a1 := (blk_cell AB_21.out 1).trans rfl
 have a3 := (blk_cell AB_21.out 3).trans rfl
 have hsu := Show_t base t F w4 lots st H buyer Ao co l salt HT_18.out HD.out.few (Nat.le_trans HBS.out CH_17.out.size) (by have h1 := HD.out.l1; omega) HD.out.l2 (R_C HO.out) (Kd.R_reads' HO.out).2.1 HSA.out
 rw [← HCD.out] at hsu
 go_wp2_with fail
 try any_goals (exfalso; omega)
 with_reducible refine hsu.mono ?_
 rintro e w5 ⟨F', vv, hF', rfl, ht, hch⟩
 clear hsu a1 a3
 have HNW := lhid (show N ≤ w5.heap.size from by rw [HNN.out]; exact hch.size)
 have HFK2 := lhid (show ∀ k, F' k → (k < w.heap.size ∨ rb < k) ∧ (k < w.heap.size ∨ N ≤ k) from fun k q => by have h1 := HSrb.out; have h2 := HNN.out; have h3 := RBL_23.out; rcases hF' k q with z | z; have h4 := HF0.out k z; exact ⟨Or.inl h4, Or.inl h4⟩; exact ⟨Or.inr (by omega), Or.inr (by omega)⟩)
 have HFS2 := lhid (show ∀ k, F' k → k < w5.heap.size from fun k q => (hF' k q).elim (fun z => Nat.lt_of_lt_of_le (FS_19.out k z) hch.size) (fun z => z.2))
 clear hF' HFK
 have HFK := lhid (fun k q => (HFK2.out k q).1)
 have CHc := lhid (CH_17.out.trans hch (fun _ _ q => q))
 have HTc := lhid (ht)
 have XBc := lhid (hch.blk XB_20.out (fun q => by have h1 := HSX.out; have h2 : xb = t := q; omega))
 have ABc := lhid (hch.blk AB_21.out (fun q => by have h1 := HSX.out; have h2 : ab = t := q; omega))
 have RBc := lhid (hch.blk RB_22.out (fun q => by have h1 := HSX.out; have h2 : rb = t := q; omega))
 have Oc := lhid (Kd.R_mono (Kd.R_step (Kd.R_bound HO.out) (fun k q hk => hch.block k hk (fun e => by have h1 := q.2.1; have h2 := HTL.out; have h3 : k = t := e; omega))) (fun k q => q.1))
 have FSc := lhid (HFS2.out)
 have RBLc := lhid (Nat.lt_of_lt_of_le RBL_23.out hch.size)
 clear hch CH_17 HT_18 XB_20 AB_21 RB_22 HO FS_19 RBL_23
 clear ht HFS2
 have a1 := (blk_cell ABc.out 1).trans rfl
 have a2 := (blk_cell ABc.out 2).trans rfl
 have a3 := (blk_cell ABc.out 3).trans rfl
 obtain ⟨n0, n1, n2, n3, n4, n5⟩ := six XBc.out
 have hss := Show_s buyer A c l salt (HSV0.out.far CHc.out (fun k q e => HOK.out k q.1 e)) HD.out.len HD.out.few HD.out.l1 HD.out.l2 HD.out.no (Kd.C_below HC.out (HB0.out.trans (CHc.out.below HB0.out.size (fun k q => by rw [show k = t from q]; exact HT0.out)))) HCC.out HSA.out HLEN.out
 rw [← HCD.out] at hss
 go_wp2_with fail
 try any_goals (exfalso; omega)
 with_reducible refine hss.mono ?_
 have RBLOW0 := RBLc.out
 rintro e w6 ⟨v', rfl, hS', hb⟩
 clear hss a1 a2 a3 n0 n1 n2 n3 n4 n5
 have hS' := SV.shows (y := vv) hS'
 have HV := lhid hS'
 obtain ⟨B2, B3, B4, B5, k2, k3, k4, k5, rfl, hq⟩ := hS'
 clear hq
 have CH_24 := lhid (CHc.out.next hb)
 have HT_25 := lhid (HTc.out.next hb)
 have FS_26 := lhid (fun k q => Nat.lt_of_lt_of_le (FSc.out k q) (hb).size)
 have XB_27 := lhid (blk_below XBc.out hb)
 have AB_28 := lhid (blk_below ABc.out hb)
 have RB_29 := lhid (blk_below RBc.out hb)
 have RBL_30 := lhid (Nat.lt_of_lt_of_le RBLc.out (hb).size)
 have O_31 := lhid (Kd.R_below Oc.out hb)
 clear CHc HTc FSc XBc ABc RBc RBLc Oc hb
 have HVK := lhid (show ∀ k, ((ok k ∧ k < w.heap.size) ∨ w5.heap.size ≤ k) → k < w.heap.size ∨ rb < k from fun k q => q.elim (fun z => Or.inl z.2) (fun z => Or.inr (by omega)))
 have HVK2 := lhid (show ∀ k, ((ok k ∧ k < w.heap.size) ∨ w5.heap.size ≤ k) → ok k ∨ w.heap.size ≤ k from fun k q => q.elim (fun z => Or.inl z.1) (fun z => Or.inr (by have h1 := HSX.out; omega)))
 have RBLOW := lhid (show rb < w6.heap.size from RBL_30.out)
 clear RBLOW0
 have HVN := lhid (show ∀ k, ((ok k ∧ k < w.heap.size) ∨ w5.heap.size ≤ k) → k < w.heap.size ∨ N ≤ k from fun k q => q.elim (fun z => Or.inl z.2) (fun z => Or.inr (by have h1 := HNW.out; omega)))
 go_upto_region 26 with (fail)
 try any_goals (exfalso; omega)
 have hb := Zba (Below.refl w6.heap.size w6) (.cells #[.int .i64 lots, .int .i64 st, .slice B2 8 k2, .slice B3 8 k3, .slice B4 8 k4, .slice B5 8 k5] 93)
 have hn := blk_new w6 (.cells #[.int .i64 lots, .int .i64 st, .slice B2 8 k2, .slice B3 8 k3, .slice B4 8 k4, .slice B5 8 k5] 93)
 have HZ7 := lhid (show (World.alloc w6 (.cells #[.int .i64 lots, .int .i64 st, .slice B2 8 k2, .slice B3 8 k3, .slice B4 8 k4, .slice B5 8 k5] 93)).heap.size = w6.heap.size + 1 from by simp)
 generalize hq : World.alloc w6 (.cells #[.int .i64 lots, .int .i64 st, .slice B2 8 k2, .slice B3 8 k3, .slice B4 8 k4, .slice B5 8 k5] 93) = w7 at hb hn HZ7 ⊢
 clear hq
 have CH_32 := lhid (CH_24.out.next hb)
 have HT_33 := lhid (HT_25.out.next hb)
 have FS_34 := lhid (fun k q => Nat.lt_of_lt_of_le (FS_26.out k q) (hb).size)
 have XB_35 := lhid (blk_below XB_27.out hb)
 have AB_36 := lhid (blk_below AB_28.out hb)
 have RB_37 := lhid (blk_below RB_29.out hb)
 have RBL_38 := lhid (Nat.lt_of_lt_of_le RBL_30.out (hb).size)
 have O_39 := lhid (Kd.R_below O_31.out hb)
 have SV_40 := lhid (HV.out.next hb)
 clear CH_24 HT_25 FS_26 XB_27 AB_28 RB_29 RBL_30 O_31 HV hb
 have NB_41 := lhid (hn)
 clear hn
 obtain ⟨nb, hnb⟩ : ∃ q, q = w6.heap.size := ⟨_, rfl⟩
 rw [← hnb] at NB_41 ⊢
 have HSnb := lhid (show rb < nb from by rw [hnb]; exact RBLOW.out)
 clear hnb RBLOW
 obtain ⟨n0, n1, n2, n3, n4, n5⟩ := six NB_41.out
 obtain ⟨r0, r1, r2, r3, r4, r5⟩ := six XB_35.out
 have hfz := fun o => blk_frozen XB_35.out o
 go_upto_region 27 with (fail)
 try any_goals (exfalso; omega)
 have hp := put6 XB_35.out (.int .i64 lots) (.int .i64 st) (.slice B2 8 k2) (.slice B3 8 k3) (.slice B4 8 k4) (.slice B5 8 k5)
 clear n0 n1 n2 n3 n4 n5 r0 r1 r2 r3 r4 r5 hfz
 generalize World.setCell (World.setCell (World.setCell (World.setCell (World.setCell (World.setCell (w7) ⟨xb, 0, none⟩ (.int .i64 lots)) ⟨xb, 1, none⟩ (.int .i64 st)) ⟨xb, 2, none⟩ (.slice B2 8 k2)) ⟨xb, 3, none⟩ (.slice B3 8 k3)) ⟨xb, 4, none⟩ (.slice B4 8 k4)) ⟨xb, 5, none⟩ (.slice B5 8 k5) = wx at hp ⊢
 obtain ⟨hp1, hp2⟩ := hp
 have CHx := lhid (CH_32.out.trans hp2 (fun i hi q => by have h1 := HSX.out; have h2 : i = xb := q; omega))
 have HTx := lhid (HT_33.out.far hp2 (fun q => by have h1 := HSX.out; have h2 : t = xb := q; omega) (fun k q e => by have h1 := HFK.out k q; have h2 : k = xb := e; have h3 := HSX.out; have h4 := HSxb.out; omega))
 have XBx := lhid hp1
 have ABx := lhid (hp2.blk AB_36.out (fun q => by have h1 := HSX.out; have h2 : ab = xb := q; omega))
 have RBx := lhid (hp2.blk RB_37.out (fun q => by have h1 := HSX.out; have h2 : rb = xb := q; omega))
 have Ox := lhid (Kd.R_mono (Kd.R_step (Kd.R_types O_39.out XB_35.out (by decide)) (fun k q hk => hp2.block k hk q.2)) (fun k q => q.1))
 have FSx := lhid (fun k q => Nat.lt_of_lt_of_le (FS_34.out k q) hp2.size)
 have RBLx := lhid (Nat.lt_of_lt_of_le RBL_38.out hp2.size)
 have SVx := lhid (SV_40.out.far hp2 (fun k q e => by have h1 := HSX.out; have h2 : k = xb := e; have h3 := HVK.out k q; have h4 := HSxb.out; omega))
 clear hp1 hp2 CH_32 HT_33 XB_35 AB_36 RB_37 O_39 FS_34 RBL_38 SV_40 NB_41
 have a2 := (blk_cell ABx.out 2).trans rfl
 have hof := offers_eq wx Ao A co c l (by have h1 := HLEN.out; omega) (R_C Ox.out) (Kd.R_reads' Ox.out).2.1 (Kd.C_below HC.out (HB0.out.trans (CHx.out.below HB0.out.size (fun k q => by rw [show k = t from q]; exact HT0.out)))) HCC.out
 go_wp2_with fail
 try any_goals (exfalso; omega)
 with_reducible refine hof.mono ?_
 rintro e w8 ⟨rfl, hb⟩
 clear hof a2
 have CH_42 := lhid (CHx.out.next hb)
 have HT_43 := lhid (HTx.out.next hb)
 have FS_44 := lhid (fun k q => Nat.lt_of_lt_of_le (FSx.out k q) (hb).size)
 have XB_45 := lhid (blk_below XBx.out hb)
 have AB_46 := lhid (blk_below ABx.out hb)
 have RB_47 := lhid (blk_below RBx.out hb)
 have RBL_48 := lhid (Nat.lt_of_lt_of_le RBLx.out (hb).size)
 have O_49 := lhid (Kd.R_below Ox.out hb)
 have SV_50 := lhid (SVx.out.next hb)
 clear CHx HTx FSx XBx ABx RBx RBLx Ox SVx hb
 go_upto_region 29 with (fail)
 try any_goals (exfalso; omega)
 have HDI := lhid (HD.out.shows buyer l salt vv)
 obtain ⟨H2, hH2⟩ : ∃ H2, H2 = showH lots st H buyer l salt vv := ⟨_, rfl⟩
 rw [← hH2] at HDI HT_43 SV_50
 clear hH2
 go_loopw [20] (fun i wr => ∃ n : Nat, n ≤ l.length ∧ i = .int .i64 n ∧ ∃ xs : List S50, Hid (xs.length = l.length) ∧ Hid (Kd.R k50 50 wr w.heap.size (fun _ => True) (.slice Ao l.length co) xs) ∧ Hid (Chg (fun k => k = t) w wr) ∧ Hid (TN base F' wr t lots st H2) ∧ Hid (wr.heap[xb]? = some (.cells #[.int .i64 lots, .int .i64 st, .slice B2 8 k2, .slice B3 8 k3, .slice B4 8 k4, .slice B5 8 k5] 93)) ∧ Hid (wr.heap[rb]? = some (.cells #[.int .i64 0, .int .i64 0, .slice none 0 0, .slice none 0 0, .slice none 0 0, .slice none 0 0] 93)) ∧ Hid (∀ k, F' k → k < wr.heap.size) ∧ Hid (SV wr (fun k => (ok k ∧ k < w.heap.size) ∨ w5.heap.size ≤ k) (.agg #[.int .i64 lots, .int .i64 st, .slice B2 8 k2, .slice B3 8 k3, .slice B4 8 k4, .slice B5 8 k5]) lots st H2)) (fun i _ => l.length - (intOf i).toNat)
 case atStart => exact ⟨0, Nat.zero_le _, rfl, l, lhid rfl, O_49, CH_42, HT_43, XB_45, RB_47, FS_44, SV_50⟩
 case round =>
  clear CH_42 HT_43 FS_44 XB_45 AB_46 RB_47 RBL_48 O_49 SV_50
  obtain ⟨n, hn, rfl, xs, HXL, Or_, CHr, HTr, XBr, RBr, FSr, SVr⟩ := hrel
  by_cases hlt : n < l.length
  ·
   have hll20 : l.length ≤ 20 := HLEN.out
   have hlt2 : (n : Int) < (l.length : Int) := by omega
   have hn0 : (0 : Int) ≤ (n : Int) := by omega
   have hxl := HXL.out
   obtain ⟨g, cg, hvg, hg1, hg2, cs, hg3⟩ := Kd.R_form Or_.out (by omega)
   clear hxl
   injection hvg with hv1 hv2 hv3
   subst hv1 hv3
   have HG := lhid (show w.heap.size ≤ g ∧ g < N ∧ rb < g from ⟨hg1, (HOL.out g (by simp [Value.ownBlock])).1, (HOL.out g (by simp [Value.ownBlock])).2⟩)
   have HG3 := lhid hg3
   clear hg1 hg2 hg3 hv2
   obtain ⟨u0, u1, u2, c0, c1, c2_, hfz, hrow⟩ := zfill Or_.out n hlt ⟨7, 1, 1⟩
   have hf0 := hfz 0
   have hf1 := hfz 1
   have hf2 := hfz 2
   simp only [Nat.add_zero] at hf0
   have HROW := lhid hrow
   clear hfz hrow
   go_wp2_with fail
   try any_goals (exfalso; omega)
   have hch := chg3 (W := wr) (b := g) (i := n * 3) (.int .i64 7) (.int .i64 1) (.int .i64 1)
   clear c0 c1 c2_ hf0 hf1 hf2
   generalize World.setCell (World.setCell (World.setCell wr ⟨g, n * 3, none⟩ (.int .i64 7)) ⟨g, n * 3 + 1, none⟩ (.int .i64 1)) ⟨g, n * 3 + 2, none⟩ (.int .i64 1) = wn at hch HROW ⊢
   have CHn := lhid (CHr.out.trans hch (fun i hi q => by have h1 := HG.out; have h2 : i = g := q; omega))
   have HTn := lhid (HTr.out.far hch (fun q => by have h1 := HG.out; have h2 : t = g := q; have h3 := HTL.out; omega) (fun k q e => by have h1 := (HFK2.out k q).2; have h2 : k = g := e; have h3 := HG.out; omega))
   have XBn := lhid (hch.blk XBr.out (fun q => by have h1 := HG.out; have h2 : xb = g := q; have h3 := HSX.out; omega))
   have RBn := lhid (hch.blk RBr.out (fun q => by have h1 := HG.out; have h2 : rb = g := q; omega))
   have FSn := lhid (fun k q => Nat.lt_of_lt_of_le (FSr.out k q) hch.size)
   have SVn := lhid (SVr.out.far hch (fun k q e => by have h1 := HVN.out k q; have h2 : k = g := e; have h3 := HG.out; omega))
   go_roundw
   case rel => exact ⟨n + 1, by omega, by simp, xs.set n ⟨7, 1, 1⟩, lhid (by rw [List.length_set]; exact HXL.out), HROW, CHn, HTn, XBn, RBn, FSn, SVn⟩
   case measure => simp [intOf]; omega
  have hne : n = l.length := by omega
  subst hne
  obtain ⟨n0, n1, n2, n3, n4, n5⟩ := six XBr.out
  obtain ⟨r0, r1, r2, r3, r4, r5⟩ := six RBr.out
  have hfz := fun o => blk_frozen RBr.out o
  have hne1 : xb ≠ rb := by have h1 := HSX.out; omega
  go_wp2_with fail
  try any_goals (exfalso; omega)
  have hp := put6 RBr.out (.int .i64 lots) (.int .i64 st) (.slice B2 8 k2) (.slice B3 8 k3) (.slice B4 8 k4) (.slice B5 8 k5)
  clear n0 n1 n2 n3 n4 n5 r0 r1 r2 r3 r4 r5 hfz
  generalize World.setCell (World.setCell (World.setCell (World.setCell (World.setCell (World.setCell (wr) ⟨rb, 0, none⟩ (.int .i64 lots)) ⟨rb, 1, none⟩ (.int .i64 st)) ⟨rb, 2, none⟩ (.slice B2 8 k2)) ⟨rb, 3, none⟩ (.slice B3 8 k3)) ⟨rb, 4, none⟩ (.slice B4 8 k4)) ⟨rb, 5, none⟩ (.slice B5 8 k5) = wf at hp ⊢
  obtain ⟨hp1, hp2⟩ := hp
  refine bodyPost_ret (results_ct rfl _ _ rb 93 #[(.int .i64 lots), (.int .i64 st), (.slice B2 8 k2), (.slice B3 8 k3), (.slice B4 8 k4), (.slice B5 8 k5)] (0, 0) _ rfl hp1 Try.underlying93 rfl (by kernel_rfl)) rfl ?_
  exact ⟨_, _, st, _, rfl, HTr.out.far hp2 (fun q => by have h1 := HSX.out; have h2 : t = rb := q; omega) (fun k q e => by have h1 := HFK.out k q; have h2 : k = rb := e; have h3 := HSrb.out; omega), fun k q => Nat.lt_of_lt_of_le (FSr.out k q) hp2.size, (SVr.out.far hp2 (fun k q e => by have h1 := HSX.out; have h2 : k = rb := e; have h3 := HVK.out k q; have h4 := HSrb.out; omega)).mono (fun k q => (HVK2.out k q)), HDI.out, CHr.out.trans hp2 (fun i hi q => by have h1 := HSX.out; have h2 : i = rb := q; omega)⟩
set_option maxHeartbeats 12800000 in
set_option maxRecDepth 100000 in
theorem do_show4 (w0 w : World) (base t : Nat) (F ok : Nat → Prop) (lots st : Int) (H : List Hd) (v : Value) (kn : Nat) (buyer : Int) (A : Option Addr) (c : Nat) (l : List S50) (salt : Int) (raw : Bool) (hB0 : Below w0.heap.size w0 w) (ht0 : w0.heap.size ≤ t) (hT : TN base F w t lots st H) (hbase : base ≤ w.heap.size) (hF : ∀ k, F k → k < w.heap.size) (hS : SV w ok v lots st H) (hok : ∀ k, ok k → k ≠ t) (hD : DI lots st H) (hC : Kd.C k50 w0 A l.length l) (hc : l.length ≤ c) (hs0 : 0 ≤ salt ∧ salt < 18446744073709551616) (hl : l.length ≤ 20) (hkn : kn < 256) (hm : kn % 6 = 4) : Calls Try.prog 44 #[.pointer (some ⟨t, 0, none⟩), v, .agg #[.int .u8 (kn : Int), .int .i64 buyer, .slice A l.length c, .int .u64 salt, .bool raw]] w (DoP base t ok lots w) := by
 have hu93 := Try.underlying93
 have hu80 := Try.underlying80
 have hu44 := Try.underlying44
 have hu50 := Try.underlying50
 have HB0 := lhid hB0
 have HT0 := lhid ht0
 have HTT := lhid hT
 have HBS := lhid hbase
 have HF := lhid hF
 have HS0 := lhid hS.bound
 have HOK := lhid hok
 have HD := lhid hD
 have HC := lhid hC
 have HCC := lhid hc
 have HSA := lhid hs0
 have HLEN := lhid hl
 have HTL := lhid hT.lt
 obtain ⟨ko, hko⟩ := ev_own l (by omega)
 have HKO := lhid (hko ko (Nat.le_refl _))
 have hrem : ((kn : Int)).tmod 6 = 4 := by rw [Int.tmod_eq_emod_of_nonneg (by omega)]; omega
 have hk0 : (0 : Int) ≤ (kn : Int) := by omega
 have hk1 : (kn : Int) < 256 := by omega
 clear hko hB0 ht0 hT hbase hF hok hD hC hc hs0 hl hm hkn
 obtain ⟨A2, A3, A4, A5, c2, c3, c4, c5, rfl, hq⟩ := hS
 clear hq
 go_enter Try.func44, Try.ntmps44
 have CH_1 := lhid (Chg.refl (fun k => k = t) w)
 have HF0 := lhid HF.out
 have HFK := lhid (show ∀ k, F k → k < w.heap.size ∨ w.heap.size + 2 < k from fun k q => Or.inl (HF.out k q))
 go_upto_region 1 with (fail)
 have hb := Zba (Below.refl w.heap.size w) (.cells #[.int .i64 lots, .int .i64 st, .slice A2 8 c2, .slice A3 8 c3, .slice A4 8 c4, .slice A5 8 c5] 93)
 have hn := blk_new w (.cells #[.int .i64 lots, .int .i64 st, .slice A2 8 c2, .slice A3 8 c3, .slice A4 8 c4, .slice A5 8 c5] 93)
 have HZ1 := lhid (show (World.alloc w (.cells #[.int .i64 lots, .int .i64 st, .slice A2 8 c2, .slice A3 8 c3, .slice A4 8 c4, .slice A5 8 c5] 93)).heap.size = w.heap.size + 1 from by simp)
 generalize hq : World.alloc w (.cells #[.int .i64 lots, .int .i64 st, .slice A2 8 c2, .slice A3 8 c3, .slice A4 8 c4, .slice A5 8 c5] 93) = w1 at hb hn HZ1 ⊢
 clear hq
 have CH_2 := lhid (CH_1.out.next hb)
 have HT_3 := lhid (HTT.out.next hb)
 have FS_4 := lhid (fun k q => Nat.lt_of_lt_of_le (HF.out k q) (hb).size)
 clear CH_1 HTT HF hb
 have XB_5 := lhid (hn)
 clear hn
 obtain ⟨xb, hxb⟩ : ∃ q, q = w.heap.size := ⟨_, rfl⟩
 rw [← hxb] at XB_5 ⊢
 have HSxb := lhid (show xb = w.heap.size ∧ w1.heap.size = xb + 1 from ⟨hxb, by rw [hxb]; exact HZ1.out⟩)
 clear hxb
 have hb := Zba (Below.refl w1.heap.size w1) (.cells #[.int .u8 (kn : Int), .int .i64 buyer, .slice A l.length c, .int .u64 salt, .bool raw] 80)
 have hn := blk_new w1 (.cells #[.int .u8 (kn : Int), .int .i64 buyer, .slice A l.length c, .int .u64 salt, .bool raw] 80)
 have HZ2 := lhid (show (World.alloc w1 (.cells #[.int .u8 (kn : Int), .int .i64 buyer, .slice A l.length c, .int .u64 salt, .bool raw] 80)).heap.size = w1.heap.size + 1 from by simp)
 generalize hq : World.alloc w1 (.cells #[.int .u8 (kn : Int), .int .i64 buyer, .slice A l.length c, .int .u64 salt, .bool raw] 80) = w2 at hb hn HZ2 ⊢
 clear hq
 have CH_6 := lhid (CH_2.out.next hb)
 have HT_7 := lhid (HT_3.out.next hb)
 have FS_8 := lhid (fun k q => Nat.lt_of_lt_of_le (FS_4.out k q) (hb).size)
 have XB_9 := lhid (blk_below XB_5.out hb)
 clear CH_2 HT_3 FS_4 XB_5 hb
 have AB_10 := lhid (hn)
 clear hn
 obtain ⟨ab, hab⟩ : ∃ q, q = xb + 1 := ⟨_, rfl⟩
 rw [show w1.heap.size = ab by have h1 := HSxb.out; omega] at AB_10
 rw [← hab]
 have HSab := lhid (show ab = w.heap.size + 1 ∧ w2.heap.size = ab + 1 from by have h1 := HSxb.out; have h2 := HZ2.out; omega)
 clear hab
 have hb := Zba (Below.refl w2.heap.size w2) (.cells #[.int .i64 0, .int .i64 0, .slice none 0 0, .slice none 0 0, .slice none 0 0, .slice none 0 0] 93)
 have hn := blk_new w2 (.cells #[.int .i64 0, .int .i64 0, .slice none 0 0, .slice none 0 0, .slice none 0 0, .slice none 0 0] 93)
 have HZ3 := lhid (show (World.alloc w2 (.cells #[.int .i64 0, .int .i64 0, .slice none 0 0, .slice none 0 0, .slice none 0 0, .slice none 0 0] 93)).heap.size = w2.heap.size + 1 from by simp)
 generalize hq : World.alloc w2 (.cells #[.int .i64 0, .int .i64 0, .slice none 0 0, .slice none 0 0, .slice none 0 0, .slice none 0 0] 93) = w3 at hb hn HZ3 ⊢
 clear hq
 have CH_11 := lhid (CH_6.out.next hb)
 have HT_12 := lhid (HT_7.out.next hb)
 have FS_13 := lhid (fun k q => Nat.lt_of_lt_of_le (FS_8.out k q) (hb).size)
 have XB_14 := lhid (blk_below XB_9.out hb)
 have AB_15 := lhid (blk_below AB_10.out hb)
 clear CH_6 HT_7 FS_8 XB_9 AB_10 hb
 have RB_16 := lhid (hn)
 clear hn
 obtain ⟨rb, hrb⟩ : ∃ q, q = ab + 1 := ⟨_, rfl⟩
 rw [show w2.heap.size = rb by have h1 := HSab.out; omega] at RB_16
 rw [← hrb]
 have HSrb := lhid (show rb = w.heap.size + 2 ∧ w3.heap.size = rb + 1 from by have h1 := HSab.out; have h2 := HZ3.out; omega)
 clear hrb
 have HSX := lhid (show t < xb ∧ w.heap.size ≤ xb ∧ w.heap.size ≤ rb ∧ w.heap.size ≤ ab ∧ xb < ab ∧ ab < rb from by have h1 := HSxb.out; have h2 := HSab.out; have h3 := HSrb.out; have h4 := HTL.out; omega)
 have HSV0 := lhid (show SV w (fun k => ok k ∧ k < w.heap.size) (.agg #[.int .i64 lots, .int .i64 st, .slice A2 8 c2, .slice A3 8 c3, .slice A4 8 c4, .slice A5 8 c5]) lots st H from HS0.out)
 have HRBL := lhid (blk_lt RB_16.out)
 have a2 := (blk_cell AB_15.out 2).trans rfl
 go_wp2_with fail
 try any_goals (exfalso; omega)
 with_reducible refine (kimberlitelaw05_own.calls ko A c l l w3 (Kd.C_below HC.out (HB0.out.trans (CH_11.out.below HB0.out.size (fun k q => by rw [show k = t from q]; exact HT0.out)))) HCC.out HKO.out).mono ?_
 rintro e w4 ⟨vo, rfl, hO, hb⟩
 have HO9 := lhid (show ∀ k, Value.ownBlock vo = some k → w3.heap.size ≤ k from fun k e => Kd.R_base hO k e)
 have HO := lhid (Kd.R_lower hO (show w.heap.size ≤ w3.heap.size from CH_11.out.size))
 obtain ⟨Ao, co, rfl⟩ := Kd.R_slice hO
 clear hO a2
 have CH_17 := lhid (CH_11.out.next hb)
 have HT_18 := lhid (HT_12.out.next hb)
 have FS_19 := lhid (fun k q => Nat.lt_of_lt_of_le (FS_13.out k q) (hb).size)
 have XB_20 := lhid (blk_below XB_14.out hb)
 have AB_21 := lhid (blk_below AB_15.out hb)
 have RB_22 := lhid (blk_below RB_16.out hb)
 have RBL_23 := lhid (Nat.lt_of_lt_of_le HRBL.out (hb).size)
 clear CH_11 HT_12 FS_13 XB_14 AB_15 RB_16 HRBL hb
 have a0 := (blk_cell AB_21.out 0).trans rfl
 go_upto_region 24 with (fail)
 try any_goals (exfalso; omega)
 clear a0 hrem hk0 hk1
 have HOL := lhid (show ∀ k, Value.ownBlock (.slice Ao l.length co) = some k → k < w4.heap.size ∧ rb < k from fun k e => ⟨Kd.R_lt HO.out k e, by have h1 := HO9.out k e; have h2 := HSrb.out; omega⟩)
 obtain ⟨N, hN⟩ : ∃ N, N = w4.heap.size := ⟨_, rfl⟩
 rw [← hN] at HOL
 have HNN := lhid hN
 clear hN
 obtain ⟨cd, hcd⟩ : ∃ z, z = showC lots st H buyer l salt := ⟨_, rfl⟩
 have HCD := lhid hcd
 clear hcd
 have a1 := (blk_cell AB_21.out 1).trans rfl
 have a3 := (blk_cell AB_21.out 3).trans rfl
 have hsu := Show_t base t F w4 lots st H buyer Ao co l salt HT_18.out HD.out.few (Nat.le_trans HBS.out CH_17.out.size) (by have h1 := HD.out.l1; omega) HD.out.l2 (R_C HO.out) (Kd.R_reads' HO.out).2.1 HSA.out
 rw [← HCD.out] at hsu
 go_wp2_with fail
 try any_goals (exfalso; omega)
 with_reducible refine hsu.mono ?_
 rintro e w5 ⟨F', vv, hF', rfl, ht, hch⟩
 clear hsu a1 a3
 have HNW := lhid (show N ≤ w5.heap.size from by rw [HNN.out]; exact hch.size)
 have HFK2 := lhid (show ∀ k, F' k → (k < w.heap.size ∨ rb < k) ∧ (k < w.heap.size ∨ N ≤ k) from fun k q => by have h1 := HSrb.out; have h2 := HNN.out; have h3 := RBL_23.out; rcases hF' k q with z | z; have h4 := HF0.out k z; exact ⟨Or.inl h4, Or.inl h4⟩; exact ⟨Or.inr (by omega), Or.inr (by omega)⟩)
 have HFS2 := lhid (show ∀ k, F' k → k < w5.heap.size from fun k q => (hF' k q).elim (fun z => Nat.lt_of_lt_of_le (FS_19.out k z) hch.size) (fun z => z.2))
 clear hF' HFK
 have HFK := lhid (fun k q => (HFK2.out k q).1)
 have CHc := lhid (CH_17.out.trans hch (fun _ _ q => q))
 have HTc := lhid (ht)
 have XBc := lhid (hch.blk XB_20.out (fun q => by have h1 := HSX.out; have h2 : xb = t := q; omega))
 have ABc := lhid (hch.blk AB_21.out (fun q => by have h1 := HSX.out; have h2 : ab = t := q; omega))
 have RBc := lhid (hch.blk RB_22.out (fun q => by have h1 := HSX.out; have h2 : rb = t := q; omega))
 have Oc := lhid (Kd.R_mono (Kd.R_step (Kd.R_bound HO.out) (fun k q hk => hch.block k hk (fun e => by have h1 := q.2.1; have h2 := HTL.out; have h3 : k = t := e; omega))) (fun k q => q.1))
 have FSc := lhid (HFS2.out)
 have RBLc := lhid (Nat.lt_of_lt_of_le RBL_23.out hch.size)
 clear hch CH_17 HT_18 XB_20 AB_21 RB_22 HO FS_19 RBL_23
 clear ht HFS2
 have a1 := (blk_cell ABc.out 1).trans rfl
 have a2 := (blk_cell ABc.out 2).trans rfl
 have a3 := (blk_cell ABc.out 3).trans rfl
 obtain ⟨n0, n1, n2, n3, n4, n5⟩ := six XBc.out
 have hss := Show_s buyer A c l salt (HSV0.out.far CHc.out (fun k q e => HOK.out k q.1 e)) HD.out.len HD.out.few HD.out.l1 HD.out.l2 HD.out.no (Kd.C_below HC.out (HB0.out.trans (CHc.out.below HB0.out.size (fun k q => by rw [show k = t from q]; exact HT0.out)))) HCC.out HSA.out HLEN.out
 rw [← HCD.out] at hss
 go_wp2_with fail
 try any_goals (exfalso; omega)
 with_reducible refine hss.mono ?_
 have RBLOW0 := RBLc.out
 rintro e w6 ⟨v', rfl, hS', hb⟩
 clear hss a1 a2 a3 n0 n1 n2 n3 n4 n5
 have hS' := SV.shows (y := vv) hS'
 have HV := lhid hS'
 obtain ⟨B2, B3, B4, B5, k2, k3, k4, k5, rfl, hq⟩ := hS'
 clear hq
 have CH_24 := lhid (CHc.out.next hb)
 have HT_25 := lhid (HTc.out.next hb)
 have FS_26 := lhid (fun k q => Nat.lt_of_lt_of_le (FSc.out k q) (hb).size)
 have XB_27 := lhid (blk_below XBc.out hb)
 have AB_28 := lhid (blk_below ABc.out hb)
 have RB_29 := lhid (blk_below RBc.out hb)
 have RBL_30 := lhid (Nat.lt_of_lt_of_le RBLc.out (hb).size)
 have O_31 := lhid (Kd.R_below Oc.out hb)
 clear CHc HTc FSc XBc ABc RBc RBLc Oc hb
 have HVK := lhid (show ∀ k, ((ok k ∧ k < w.heap.size) ∨ w5.heap.size ≤ k) → k < w.heap.size ∨ rb < k from fun k q => q.elim (fun z => Or.inl z.2) (fun z => Or.inr (by omega)))
 have HVK2 := lhid (show ∀ k, ((ok k ∧ k < w.heap.size) ∨ w5.heap.size ≤ k) → ok k ∨ w.heap.size ≤ k from fun k q => q.elim (fun z => Or.inl z.1) (fun z => Or.inr (by have h1 := HSX.out; omega)))
 have RBLOW := lhid (show rb < w6.heap.size from RBL_30.out)
 clear RBLOW0
 have HVN := lhid (show ∀ k, ((ok k ∧ k < w.heap.size) ∨ w5.heap.size ≤ k) → k < w.heap.size ∨ N ≤ k from fun k q => q.elim (fun z => Or.inl z.2) (fun z => Or.inr (by have h1 := HNW.out; omega)))
 go_upto_region 26 with (fail)
 try any_goals (exfalso; omega)
 have hb := Zba (Below.refl w6.heap.size w6) (.cells #[.int .i64 lots, .int .i64 st, .slice B2 8 k2, .slice B3 8 k3, .slice B4 8 k4, .slice B5 8 k5] 93)
 have hn := blk_new w6 (.cells #[.int .i64 lots, .int .i64 st, .slice B2 8 k2, .slice B3 8 k3, .slice B4 8 k4, .slice B5 8 k5] 93)
 have HZ7 := lhid (show (World.alloc w6 (.cells #[.int .i64 lots, .int .i64 st, .slice B2 8 k2, .slice B3 8 k3, .slice B4 8 k4, .slice B5 8 k5] 93)).heap.size = w6.heap.size + 1 from by simp)
 generalize hq : World.alloc w6 (.cells #[.int .i64 lots, .int .i64 st, .slice B2 8 k2, .slice B3 8 k3, .slice B4 8 k4, .slice B5 8 k5] 93) = w7 at hb hn HZ7 ⊢
 clear hq
 have CH_32 := lhid (CH_24.out.next hb)
 have HT_33 := lhid (HT_25.out.next hb)
 have FS_34 := lhid (fun k q => Nat.lt_of_lt_of_le (FS_26.out k q) (hb).size)
 have XB_35 := lhid (blk_below XB_27.out hb)
 have AB_36 := lhid (blk_below AB_28.out hb)
 have RB_37 := lhid (blk_below RB_29.out hb)
 have RBL_38 := lhid (Nat.lt_of_lt_of_le RBL_30.out (hb).size)
 have O_39 := lhid (Kd.R_below O_31.out hb)
 have SV_40 := lhid (HV.out.next hb)
 clear CH_24 HT_25 FS_26 XB_27 AB_28 RB_29 RBL_30 O_31 HV hb
 have NB_41 := lhid (hn)
 clear hn
 obtain ⟨nb, hnb⟩ : ∃ q, q = w6.heap.size := ⟨_, rfl⟩
 rw [← hnb] at NB_41 ⊢
 have HSnb := lhid (show rb < nb from by rw [hnb]; exact RBLOW.out)
 clear hnb RBLOW
 obtain ⟨n0, n1, n2, n3, n4, n5⟩ := six NB_41.out
 obtain ⟨r0, r1, r2, r3, r4, r5⟩ := six XB_35.out
 have hfz := fun o => blk_frozen XB_35.out o
 go_upto_region 27 with (fail)
 try any_goals (exfalso; omega)
 have hp := put6 XB_35.out (.int .i64 lots) (.int .i64 st) (.slice B2 8 k2) (.slice B3 8 k3) (.slice B4 8 k4) (.slice B5 8 k5)
 clear n0 n1 n2 n3 n4 n5 r0 r1 r2 r3 r4 r5 hfz
 generalize World.setCell (World.setCell (World.setCell (World.setCell (World.setCell (World.setCell (w7) ⟨xb, 0, none⟩ (.int .i64 lots)) ⟨xb, 1, none⟩ (.int .i64 st)) ⟨xb, 2, none⟩ (.slice B2 8 k2)) ⟨xb, 3, none⟩ (.slice B3 8 k3)) ⟨xb, 4, none⟩ (.slice B4 8 k4)) ⟨xb, 5, none⟩ (.slice B5 8 k5) = wx at hp ⊢
 obtain ⟨hp1, hp2⟩ := hp
 have CHx := lhid (CH_32.out.trans hp2 (fun i hi q => by have h1 := HSX.out; have h2 : i = xb := q; omega))
 have HTx := lhid (HT_33.out.far hp2 (fun q => by have h1 := HSX.out; have h2 : t = xb := q; omega) (fun k q e => by have h1 := HFK.out k q; have h2 : k = xb := e; have h3 := HSX.out; have h4 := HSxb.out; omega))
 have XBx := lhid hp1
 have ABx := lhid (hp2.blk AB_36.out (fun q => by have h1 := HSX.out; have h2 : ab = xb := q; omega))
 have RBx := lhid (hp2.blk RB_37.out (fun q => by have h1 := HSX.out; have h2 : rb = xb := q; omega))
 have Ox := lhid (Kd.R_mono (Kd.R_step (Kd.R_types O_39.out XB_35.out (by decide)) (fun k q hk => hp2.block k hk q.2)) (fun k q => q.1))
 have FSx := lhid (fun k q => Nat.lt_of_lt_of_le (FS_34.out k q) hp2.size)
 have RBLx := lhid (Nat.lt_of_lt_of_le RBL_38.out hp2.size)
 have SVx := lhid (SV_40.out.far hp2 (fun k q e => by have h1 := HSX.out; have h2 : k = xb := e; have h3 := HVK.out k q; have h4 := HSxb.out; omega))
 clear hp1 hp2 CH_32 HT_33 XB_35 AB_36 RB_37 O_39 FS_34 RBL_38 SV_40 NB_41
 have a2 := (blk_cell ABx.out 2).trans rfl
 have hof := offers_eq wx Ao A co c l (by have h1 := HLEN.out; omega) (R_C Ox.out) (Kd.R_reads' Ox.out).2.1 (Kd.C_below HC.out (HB0.out.trans (CHx.out.below HB0.out.size (fun k q => by rw [show k = t from q]; exact HT0.out)))) HCC.out
 go_wp2_with fail
 try any_goals (exfalso; omega)
 with_reducible refine hof.mono ?_
 rintro e w8 ⟨rfl, hb⟩
 clear hof a2
 have CH_42 := lhid (CHx.out.next hb)
 have HT_43 := lhid (HTx.out.next hb)
 have FS_44 := lhid (fun k q => Nat.lt_of_lt_of_le (FSx.out k q) (hb).size)
 have XB_45 := lhid (blk_below XBx.out hb)
 have AB_46 := lhid (blk_below ABx.out hb)
 have RB_47 := lhid (blk_below RBx.out hb)
 have RBL_48 := lhid (Nat.lt_of_lt_of_le RBLx.out (hb).size)
 have O_49 := lhid (Kd.R_below Ox.out hb)
 have SV_50 := lhid (SVx.out.next hb)
 clear CHx HTx FSx XBx ABx RBx RBLx Ox SVx hb
 go_upto_region 29 with (fail)
 try any_goals (exfalso; omega)
 have HDI := lhid (HD.out.shows buyer l salt vv)
 obtain ⟨H2, hH2⟩ : ∃ H2, H2 = showH lots st H buyer l salt vv := ⟨_, rfl⟩
 rw [← hH2] at HDI HT_43 SV_50
 clear hH2
 go_loopw [20] (fun i wr => ∃ n : Nat, n ≤ l.length ∧ i = .int .i64 n ∧ ∃ xs : List S50, Hid (xs.length = l.length) ∧ Hid (Kd.R k50 50 wr w.heap.size (fun _ => True) (.slice Ao l.length co) xs) ∧ Hid (Chg (fun k => k = t) w wr) ∧ Hid (TN base F' wr t lots st H2) ∧ Hid (wr.heap[xb]? = some (.cells #[.int .i64 lots, .int .i64 st, .slice B2 8 k2, .slice B3 8 k3, .slice B4 8 k4, .slice B5 8 k5] 93)) ∧ Hid (wr.heap[rb]? = some (.cells #[.int .i64 0, .int .i64 0, .slice none 0 0, .slice none 0 0, .slice none 0 0, .slice none 0 0] 93)) ∧ Hid (∀ k, F' k → k < wr.heap.size) ∧ Hid (SV wr (fun k => (ok k ∧ k < w.heap.size) ∨ w5.heap.size ≤ k) (.agg #[.int .i64 lots, .int .i64 st, .slice B2 8 k2, .slice B3 8 k3, .slice B4 8 k4, .slice B5 8 k5]) lots st H2)) (fun i _ => l.length - (intOf i).toNat)
 case atStart => exact ⟨0, Nat.zero_le _, rfl, l, lhid rfl, O_49, CH_42, HT_43, XB_45, RB_47, FS_44, SV_50⟩
 case round =>
  clear CH_42 HT_43 FS_44 XB_45 AB_46 RB_47 RBL_48 O_49 SV_50
  obtain ⟨n, hn, rfl, xs, HXL, Or_, CHr, HTr, XBr, RBr, FSr, SVr⟩ := hrel
  by_cases hlt : n < l.length
  ·
   have hll20 : l.length ≤ 20 := HLEN.out
   have hlt2 : (n : Int) < (l.length : Int) := by omega
   have hn0 : (0 : Int) ≤ (n : Int) := by omega
   have hxl := HXL.out
   obtain ⟨g, cg, hvg, hg1, hg2, cs, hg3⟩ := Kd.R_form Or_.out (by omega)
   clear hxl
   injection hvg with hv1 hv2 hv3
   subst hv1 hv3
   have HG := lhid (show w.heap.size ≤ g ∧ g < N ∧ rb < g from ⟨hg1, (HOL.out g (by simp [Value.ownBlock])).1, (HOL.out g (by simp [Value.ownBlock])).2⟩)
   have HG3 := lhid hg3
   clear hg1 hg2 hg3 hv2
   obtain ⟨u0, u1, u2, c0, c1, c2_, hfz, hrow⟩ := zfill Or_.out n hlt ⟨7, 1, 1⟩
   have hf0 := hfz 0
   have hf1 := hfz 1
   have hf2 := hfz 2
   simp only [Nat.add_zero] at hf0
   have HROW := lhid hrow
   clear hfz hrow
   go_wp2_with fail
   try any_goals (exfalso; omega)
   have hch := chg3 (W := wr) (b := g) (i := n * 3) (.int .i64 7) (.int .i64 1) (.int .i64 1)
   clear c0 c1 c2_ hf0 hf1 hf2
   generalize World.setCell (World.setCell (World.setCell wr ⟨g, n * 3, none⟩ (.int .i64 7)) ⟨g, n * 3 + 1, none⟩ (.int .i64 1)) ⟨g, n * 3 + 2, none⟩ (.int .i64 1) = wn at hch HROW ⊢
   have CHn := lhid (CHr.out.trans hch (fun i hi q => by have h1 := HG.out; have h2 : i = g := q; omega))
   have HTn := lhid (HTr.out.far hch (fun q => by have h1 := HG.out; have h2 : t = g := q; have h3 := HTL.out; omega) (fun k q e => by have h1 := (HFK2.out k q).2; have h2 : k = g := e; have h3 := HG.out; omega))
   have XBn := lhid (hch.blk XBr.out (fun q => by have h1 := HG.out; have h2 : xb = g := q; have h3 := HSX.out; omega))
   have RBn := lhid (hch.blk RBr.out (fun q => by have h1 := HG.out; have h2 : rb = g := q; omega))
   have FSn := lhid (fun k q => Nat.lt_of_lt_of_le (FSr.out k q) hch.size)
   have SVn := lhid (SVr.out.far hch (fun k q e => by have h1 := HVN.out k q; have h2 : k = g := e; have h3 := HG.out; omega))
   go_roundw
   case rel => exact ⟨n + 1, by omega, by simp, xs.set n ⟨7, 1, 1⟩, lhid (by rw [List.length_set]; exact HXL.out), HROW, CHn, HTn, XBn, RBn, FSn, SVn⟩
   case measure => simp [intOf]; omega
  have hne : n = l.length := by omega
  subst hne
  obtain ⟨n0, n1, n2, n3, n4, n5⟩ := six XBr.out
  obtain ⟨r0, r1, r2, r3, r4, r5⟩ := six RBr.out
  have hfz := fun o => blk_frozen RBr.out o
  have hne1 : xb ≠ rb := by have h1 := HSX.out; omega
  go_wp2_with fail
  try any_goals (exfalso; omega)
  have hp := put6 RBr.out (.int .i64 lots) (.int .i64 st) (.slice B2 8 k2) (.slice B3 8 k3) (.slice B4 8 k4) (.slice B5 8 k5)
  clear n0 n1 n2 n3 n4 n5 r0 r1 r2 r3 r4 r5 hfz
  generalize World.setCell (World.setCell (World.setCell (World.setCell (World.setCell (World.setCell (wr) ⟨rb, 0, none⟩ (.int .i64 lots)) ⟨rb, 1, none⟩ (.int .i64 st)) ⟨rb, 2, none⟩ (.slice B2 8 k2)) ⟨rb, 3, none⟩ (.slice B3 8 k3)) ⟨rb, 4, none⟩ (.slice B4 8 k4)) ⟨rb, 5, none⟩ (.slice B5 8 k5) = wf at hp ⊢
  obtain ⟨hp1, hp2⟩ := hp
  refine bodyPost_ret (results_ct rfl _ _ rb 93 #[(.int .i64 lots), (.int .i64 st), (.slice B2 8 k2), (.slice B3 8 k3), (.slice B4 8 k4), (.slice B5 8 k5)] (0, 0) _ rfl hp1 Try.underlying93 rfl (by kernel_rfl)) rfl ?_
  exact ⟨_, _, st, _, rfl, HTr.out.far hp2 (fun q => by have h1 := HSX.out; have h2 : t = rb := q; omega) (fun k q e => by have h1 := HFK.out k q; have h2 : k = rb := e; have h3 := HSrb.out; omega), fun k q => Nat.lt_of_lt_of_le (FSr.out k q) hp2.size, (SVr.out.far hp2 (fun k q e => by have h1 := HSX.out; have h2 : k = rb := e; have h3 := HVK.out k q; have h4 := HSrb.out; omega)).mono (fun k q => (HVK2.out k q)), HDI.out, CHr.out.trans hp2 (fun i hi q => by have h1 := HSX.out; have h2 : i = rb := q; omega)⟩
end Go.Proofs.Ythfdjccdelbeeaa.PT
end
section
namespace Go.Proofs.Ythfdjccdelbeeaa.PT
open Go.RowKit Go.Proofs.YthfdjccdelbeeaaW.PrintWords Go.Proofs.YthfdjccdelbeeaaW.PrintLast Go.Proofs.YthfdjccdelbeeaaW.PrintMore Go.Proofs.Ythfdjccdelbeeaa.TPl
set_option linter.unusedVariables false
theorem ev_refDecide_l (l : List S50) (hv : bValid l) (v : Int) (hv0 : 0 ≤ v) (hv1 : v ≤ 17179869184) (T : List Int) (hT : ∀ x ∈ T, ∃ j : Nat, x = (j : Int) ∧ j < l.length) (hTl : T.length ≤ 16) (t0 : List Int) (w0 : Int) : ∀ (d i : Nat) (pays : List Int), i + d = T.length → pays.length = i →
  Ev (fun k => kimberliteref05_Decide.l0 k l T v (i : Int) t0 pays w0) (t0, pays ++ (T.drop i).map (payS l v), w0)
 | 0, i, pays, h, hp => Ev.here fun k => by
   simp only [kimberliteref05_Decide.l0]
   rw [if_neg (by omega), List.drop_of_length_le (by omega)]; simp
 | d + 1, i, pays, h, hp => by
   have hi : i < T.length := by omega
   obtain ⟨j, ej, hj⟩ := hT T[i] (List.getElem_mem hi)
   have erd : rd T (i : Int) = (j : Int) := by simp [rd, hi, ej]
   have ho := hv.2 l[j] (List.getElem_mem hj)
   obtain ⟨s, hs, e, hE⟩ := best_both l hv l[j].f0
   have hb := worthWo_bd l hv l[j].f0
   have hw : worthWo l l[j].f0 = ((val (l.map toOf) s : Nat) : Int) := by simp only [worthWo, e, Option.getD_some]
   have ih := ev_refDecide_l l hv v hv0 hv1 T hT hTl t0 w0 d (i + 1) (pays ++ [payS l v T[i]]) (by omega) (by simp [hp])
   rw [List.drop_eq_getElem_cons hi, List.map_cons]
   rw [List.append_assoc] at ih
   refine Ev.step (f := fun k => (kimberliteref05_Best.f k l l[j].f0).bind fun bt318 => kimberliteref05_Decide.l0 k l T v ((i + 1 : Nat) : Int) t0 (pays ++ [wrap64 (bt318.2 - (wrap64 (v - l[j].f2)))]) w0) (fun k => ?_) (Ev.bind hE ?_)
   ·
    simp only [kimberliteref05_Decide.l0, erd]
    rw [if_pos (by omega), if_pos (by omega), if_pos (by omega), if_pos (by omega), rd_get l j hj, w64 i (by omega)]
    simp only [if_pos (show pays.length < 17592186044416 by omega)]
   ·
    have : wrap64 (((val (l.map toOf) s : Nat) : Int) - wrap64 (v - l[j].f2)) = payS l v T[i] := by
     simp only [payS, ej, rd_get l j hj, hw]
     rw [hw] at hb
     unfold wrap64; omega
    rw [this]; exact ih
theorem ev_refDecide (l : List S50) (hv : bValid l) (s : List Bool) (hs : IsBest (-1) (l.map toOf) 0 0 s) :
  Ev (fun k => kimberliteref05_Decide.f k l) (idx 0 s, (idx 0 s).map (payS l ((val (l.map toOf) s : Nat) : Int)), ((val (l.map toOf) s : Nat) : Int)) := by
 obtain ⟨s', hs', e, hE⟩ := best_both l hv (-1)
 obtain rfl := hs'.uniq hs
 unfold kimberliteref05_Decide.f
 refine Ev.bind hE ?_
 have hsl := feas_len _ _ _ _ _ hs.1
 simp only [List.length_map] at hsl
 have hl16 := hv.1
 have := val_le (l.map toOf) s'
 have := tot_bd l hv
 have hil := idx_len s' 0
 have := ev_refDecide_l l hv ((val (l.map toOf) s' : Nat) : Int) (by omega) (by omega) (idx 0 s') (fun x hx => by obtain ⟨j, e, _, h2, _⟩ := idx_mem s' 0 x hx; exact ⟨j, e, by omega⟩) (by omega) (idx 0 s') ((val (l.map toOf) s' : Nat) : Int) (idx 0 s').length 0 [] (by omega) rfl
 simpa using this
def gainL (l : List S50) (b : Int) (w : List Int) (v : Int) : List Int → Int × Int
 | [] => (0, 0)
 | x :: T => if (rd_T50 l x).f0 = b then (wrap64 (rd w (rd_T50 l x).f1 - payS l v x), 0) else gainL l b w v T
structure GainIs (lots : Int) (l : List S50) (b : Int) (w : List Int) (r : Int × Int) : Prop where
 err : errS lots l ≠ 0 → r = (0, errS lots l)
 arg : errS lots l = 0 → (b < 0 ∨ 7 < b ∨ (w.length : Int) ≠ ((2 ^ lots.toNat : Nat) : Int)) → r = (0, 2)
 val : errS lots l = 0 → 0 ≤ b → b ≤ 7 → (w.length : Int) = ((2 ^ lots.toNat : Nat) : Int) → ¬ (∀ x ∈ w, 0 ≤ x ∧ x ≤ 1073741824) → r = (0, 2)
 ok : errS lots l = 0 → 0 ≤ b → b ≤ 7 → (w.length : Int) = ((2 ^ lots.toNat : Nat) : Int) → (∀ x ∈ w, 0 ≤ x ∧ x ≤ 1073741824) → ∀ s, IsBest (-1) (l.map toOf) 0 0 s → r = gainL l b w ((TPl.val (l.map toOf) s : Nat) : Int) (idx 0 s)
end Go.Proofs.Ythfdjccdelbeeaa.PT
end
section
namespace Go.Proofs.Ythfdjccdelbeeaa.PT
open Go.Proofs.Ythfdjccdelbeeaa.TPl Go.RowKit Go.Proofs.YthfdjccdelbeeaaW.PrintWords Go.Proofs.YthfdjccdelbeeaaW.PrintLast Go.Proofs.YthfdjccdelbeeaaW.PrintMore
set_option linter.unusedVariables false
set_option linter.unusedSimpArgs false
theorem dec_both {lots : Int} {l : List S50} (h : Vld lots l) : ∃ k r1 r2 r3, tender_Decide.f k lots l = some (r1, r2, r3, 0) ∧ kimberliteref05_Decide.f k l = some (r1, r2, r3) ∧ r1.length < 1000000 ∧ r2.length < 1000000 := by
 obtain ⟨s, hs, _, hk⟩ := ev_DecideOk lots l h
 have hr := ev_refDecide l h.bv s hs
 have hsl := feas_len _ _ _ _ _ hs.1
 simp only [List.length_map] at hsl
 have hl16 := h.len
 have hil := idx_len s 0
 obtain ⟨k1, h1⟩ := hk
 obtain ⟨k2, h2⟩ := hr
 exact ⟨max k1 k2, _, _, _, h1 _ (Nat.le_max_left _ _), h2 _ (Nat.le_max_right _ _), by omega, by rw [List.length_map]; omega⟩
theorem award_z (w : World) : Calls Try.prog 27 #[.agg #[.slice none 0 0, .slice none 0 0, .int .i64 0], .agg #[.slice none 0 0, .slice none 0 0, .int .i64 0]] w fun e w' => e = .returned (.bool true) ∧ Below w.heap.size w w' := by
 obtain ⟨k, hk⟩ := ev_award [] [] 0 [] [] 0 (by decide) (by decide)
 exact kimberlitelaw05_award.calls k none 0 [] none 0 [] 0 none 0 [] none 0 [] 0 true w (Kd.C_nil _ _) (Nat.le_refl _) (Kd.C_nil _ _) (Nat.le_refl _) (Kd.C_nil _ _) (Nat.le_refl _) (Kd.C_nil _ _) (Nat.le_refl _) (hk k (Nat.le_refl _))
theorem offers_z (w : World) : Calls Try.prog 20 #[.slice none 0 0, .slice none 0 0] w fun e w' => e = .returned (.bool true) ∧ Below w.heap.size w w' := offers_eq w none none 0 0 [] (by decide) (Kd.C_nil _ _) (Nat.le_refl _) (Kd.C_nil _ _) (Nat.le_refl _)
set_option maxHeartbeats 12800000 in
set_option maxRecDepth 100000 in
theorem do_close1 (w0 w : World) (base t : Nat) (F ok : Nat → Prop) (lots st : Int) (H : List Hd) (v : Value) (kn : Nat) (buyer : Int) (A : Option Addr) (c : Nat) (l : List S50) (salt : Int) (raw : Bool) (hB0 : Below w0.heap.size w0 w) (ht0 : w0.heap.size ≤ t) (hT : TN base F w t lots st H) (hbase : base ≤ w.heap.size) (hF : ∀ k, F k → k < w.heap.size) (hS : SV w ok v lots st H) (hok : ∀ k, ok k → k ≠ t) (hD : DI lots st H) (hC : Kd.C k50 w0 A l.length l) (hc : l.length ≤ c) (hs0 : 0 ≤ salt ∧ salt < 18446744073709551616) (hl : l.length ≤ 20) (hkn : kn < 256) (hm : kn % 6 = 5) (hst : st = 1) : Calls Try.prog 44 #[.pointer (some ⟨t, 0, none⟩), v, .agg #[.int .u8 (kn : Int), .int .i64 buyer, .slice A l.length c, .int .u64 salt, .bool raw]] w (DoP base t ok lots w) := by
 have hu93 := Try.underlying93
 have hu80 := Try.underlying80
 have hu44 := Try.underlying44
 have hu50 := Try.underlying50
 have HB0 := lhid hB0
 have HA := lhid hst
 clear hst
 have HT0 := lhid ht0
 have HTT := lhid hT
 have HBS := lhid hbase
 have HF := lhid hF
 have HS0 := lhid hS.bound
 have HOK := lhid hok
 have HD := lhid hD
 have HC := lhid hC
 have HCC := lhid hc
 have HSA := lhid hs0
 have HLEN := lhid hl
 have HTL := lhid hT.lt
 obtain ⟨ko, hko⟩ := ev_own l (by omega)
 have HKO := lhid (hko ko (Nat.le_refl _))
 have hrem : ((kn : Int)).tmod 6 = 5 := by rw [Int.tmod_eq_emod_of_nonneg (by omega)]; omega
 have hk0 : (0 : Int) ≤ (kn : Int) := by omega
 have hk1 : (kn : Int) < 256 := by omega
 clear hko hB0 ht0 hT hbase hF hok hD hC hc hs0 hl hm hkn
 obtain ⟨A2, A3, A4, A5, c2, c3, c4, c5, rfl, hq⟩ := hS
 clear hq
 go_enter Try.func44, Try.ntmps44
 have CH_1 := lhid (Chg.refl (fun k => k = t) w)
 have HFK := lhid (show ∀ k, F k → k < w.heap.size ∨ w.heap.size + 2 < k from fun k q => Or.inl (HF.out k q))
 go_upto_region 1 with (fail)
 have hb := Zba (Below.refl w.heap.size w) (.cells #[.int .i64 lots, .int .i64 st, .slice A2 8 c2, .slice A3 8 c3, .slice A4 8 c4, .slice A5 8 c5] 93)
 have hn := blk_new w (.cells #[.int .i64 lots, .int .i64 st, .slice A2 8 c2, .slice A3 8 c3, .slice A4 8 c4, .slice A5 8 c5] 93)
 have HZ1 := lhid (show (World.alloc w (.cells #[.int .i64 lots, .int .i64 st, .slice A2 8 c2, .slice A3 8 c3, .slice A4 8 c4, .slice A5 8 c5] 93)).heap.size = w.heap.size + 1 from by simp)
 generalize hq : World.alloc w (.cells #[.int .i64 lots, .int .i64 st, .slice A2 8 c2, .slice A3 8 c3, .slice A4 8 c4, .slice A5 8 c5] 93) = w1 at hb hn HZ1 ⊢
 clear hq
 have CH_2 := lhid (CH_1.out.next hb)
 have HT_3 := lhid (HTT.out.next hb)
 have FS_4 := lhid (fun k q => Nat.lt_of_lt_of_le (HF.out k q) (hb).size)
 clear CH_1 HTT HF hb
 have XB_5 := lhid (hn)
 clear hn
 obtain ⟨xb, hxb⟩ : ∃ q, q = w.heap.size := ⟨_, rfl⟩
 rw [← hxb] at XB_5 ⊢
 have HSxb := lhid (show xb = w.heap.size ∧ w1.heap.size = xb + 1 from ⟨hxb, by rw [hxb]; exact HZ1.out⟩)
 clear hxb
 have hb := Zba (Below.refl w1.heap.size w1) (.cells #[.int .u8 (kn : Int), .int .i64 buyer, .slice A l.length c, .int .u64 salt, .bool raw] 80)
 have hn := blk_new w1 (.cells #[.int .u8 (kn : Int), .int .i64 buyer, .slice A l.length c, .int .u64 salt, .bool raw] 80)
 have HZ2 := lhid (show (World.alloc w1 (.cells #[.int .u8 (kn : Int), .int .i64 buyer, .slice A l.length c, .int .u64 salt, .bool raw] 80)).heap.size = w1.heap.size + 1 from by simp)
 generalize hq : World.alloc w1 (.cells #[.int .u8 (kn : Int), .int .i64 buyer, .slice A l.length c, .int .u64 salt, .bool raw] 80) = w2 at hb hn HZ2 ⊢
 clear hq
 have CH_6 := lhid (CH_2.out.next hb)
 have HT_7 := lhid (HT_3.out.next hb)
 have FS_8 := lhid (fun k q => Nat.lt_of_lt_of_le (FS_4.out k q) (hb).size)
 have XB_9 := lhid (blk_below XB_5.out hb)
 clear CH_2 HT_3 FS_4 XB_5 hb
 have AB_10 := lhid (hn)
 clear hn
 obtain ⟨ab, hab⟩ : ∃ q, q = xb + 1 := ⟨_, rfl⟩
 rw [show w1.heap.size = ab by have h1 := HSxb.out; omega] at AB_10
 rw [← hab]
 have HSab := lhid (show ab = w.heap.size + 1 ∧ w2.heap.size = ab + 1 from by have h1 := HSxb.out; have h2 := HZ2.out; omega)
 clear hab
 have hb := Zba (Below.refl w2.heap.size w2) (.cells #[.int .i64 0, .int .i64 0, .slice none 0 0, .slice none 0 0, .slice none 0 0, .slice none 0 0] 93)
 have hn := blk_new w2 (.cells #[.int .i64 0, .int .i64 0, .slice none 0 0, .slice none 0 0, .slice none 0 0, .slice none 0 0] 93)
 have HZ3 := lhid (show (World.alloc w2 (.cells #[.int .i64 0, .int .i64 0, .slice none 0 0, .slice none 0 0, .slice none 0 0, .slice none 0 0] 93)).heap.size = w2.heap.size + 1 from by simp)
 generalize hq : World.alloc w2 (.cells #[.int .i64 0, .int .i64 0, .slice none 0 0, .slice none 0 0, .slice none 0 0, .slice none 0 0] 93) = w3 at hb hn HZ3 ⊢
 clear hq
 have CH_11 := lhid (CH_6.out.next hb)
 have HT_12 := lhid (HT_7.out.next hb)
 have FS_13 := lhid (fun k q => Nat.lt_of_lt_of_le (FS_8.out k q) (hb).size)
 have XB_14 := lhid (blk_below XB_9.out hb)
 have AB_15 := lhid (blk_below AB_10.out hb)
 clear CH_6 HT_7 FS_8 XB_9 AB_10 hb
 have RB_16 := lhid (hn)
 clear hn
 obtain ⟨rb, hrb⟩ : ∃ q, q = ab + 1 := ⟨_, rfl⟩
 rw [show w2.heap.size = rb by have h1 := HSab.out; omega] at RB_16
 rw [← hrb]
 have HSrb := lhid (show rb = w.heap.size + 2 ∧ w3.heap.size = rb + 1 from by have h1 := HSab.out; have h2 := HZ3.out; omega)
 clear hrb
 have HSX := lhid (show t < xb ∧ w.heap.size ≤ xb ∧ w.heap.size ≤ rb ∧ w.heap.size ≤ ab ∧ xb < ab ∧ ab < rb from by have h1 := HSxb.out; have h2 := HSab.out; have h3 := HSrb.out; have h4 := HTL.out; omega)
 have HSV0 := lhid (show SV w (fun k => ok k ∧ k < w.heap.size) (.agg #[.int .i64 lots, .int .i64 st, .slice A2 8 c2, .slice A3 8 c3, .slice A4 8 c4, .slice A5 8 c5]) lots st H from HS0.out)
 have HRBL := lhid (blk_lt RB_16.out)
 have a2 := (blk_cell AB_15.out 2).trans rfl
 go_wp2_with fail
 try any_goals (exfalso; omega)
 with_reducible refine (kimberlitelaw05_own.calls ko A c l l w3 (Kd.C_below HC.out (HB0.out.trans (CH_11.out.below HB0.out.size (fun k q => by rw [show k = t from q]; exact HT0.out)))) HCC.out HKO.out).mono ?_
 rintro e w4 ⟨vo, rfl, hO, hb⟩
 have HO9 := lhid (show ∀ k, Value.ownBlock vo = some k → w3.heap.size ≤ k from fun k e => Kd.R_base hO k e)
 have HO := lhid (Kd.R_lower hO (show w.heap.size ≤ w3.heap.size from CH_11.out.size))
 obtain ⟨Ao, co, rfl⟩ := Kd.R_slice hO
 clear hO a2
 have CH_17 := lhid (CH_11.out.next hb)
 have HT_18 := lhid (HT_12.out.next hb)
 have FS_19 := lhid (fun k q => Nat.lt_of_lt_of_le (FS_13.out k q) (hb).size)
 have XB_20 := lhid (blk_below XB_14.out hb)
 have AB_21 := lhid (blk_below AB_15.out hb)
 have RB_22 := lhid (blk_below RB_16.out hb)
 have RBL_23 := lhid (Nat.lt_of_lt_of_le HRBL.out (hb).size)
 clear CH_11 HT_12 FS_13 XB_14 AB_15 RB_16 HRBL hb
 have a0 := (blk_cell AB_21.out 0).trans rfl
 go_upto_region 4 with (fail)
 try any_goals (exfalso; omega)
 clear a0 hrem hk0 hk1
 obtain ⟨L, hL⟩ : ∃ L, L = H.flatMap (·.off) := ⟨_, rfl⟩
 have HLL := lhid hL
 clear hL
 have HI := lhid (show inC lots st 1 = 0 by rw [HA.out]; exact in_1 HD.out.l1)
 obtain ⟨k, r1, r2, r3, hd1, hd2, hr1, hr2⟩ := dec_both HD.out.vld
 have HD1 := lhid hd1
 have HD2 := lhid hd2
 have HR1 := lhid hr1
 have HR2 := lhid hr2
 clear hd1 hd2 hr1 hr2
 obtain ⟨s2, hs2⟩ : ∃ z, z = clS lots st := ⟨_, rfl⟩
 have HS2 := lhid hs2
 clear hs2
 have hsu := Close_t base t F w4 lots st H k r1 r2 r3 0 HT_18.out HD.out.few HI.out (fun z => by have h1 := FS_19.out _ z; omega) HD1.out
 rw [← HS2.out, ← HLL.out] at hsu
 go_wp2_with fail
 try any_goals (exfalso; omega)
 with_reducible refine hsu.mono ?_
 rintro e w5 ⟨vo, v0, v1, rfl, hO2, hX, hY, ht, hch⟩
 clear hsu
 have LE := CH_17.out.size
 have HYO := lhid (Kd.R_lower hO2 (show w.heap.size ≤ w4.heap.size from LE))
 obtain ⟨Po, po, rfl⟩ := Kd.R_slice hO2
 clear hO2
 have HYX := lhid (Kd.R_lower hX (show w.heap.size ≤ w4.heap.size from LE))
 obtain ⟨Px, px, rfl⟩ := Kd.R_slice hX
 clear hX
 have HYY := lhid (Kd.R_lower hY (show w.heap.size ≤ w4.heap.size from LE))
 obtain ⟨Py, py, rfl⟩ := Kd.R_slice hY
 clear hY
 clear LE
 have CHc := lhid (CH_17.out.trans hch (fun _ _ q => q))
 have HTc := lhid (ht)
 have XBc := lhid (hch.blk XB_20.out (fun q => by have h1 := HSX.out; have h2 : xb = t := q; omega))
 have ABc := lhid (hch.blk AB_21.out (fun q => by have h1 := HSX.out; have h2 : ab = t := q; omega))
 have RBc := lhid (hch.blk RB_22.out (fun q => by have h1 := HSX.out; have h2 : rb = t := q; omega))
 have Oc := lhid (Kd.R_mono (Kd.R_step (Kd.R_bound HO.out) (fun k q hk => hch.block k hk (fun e => by have h1 := q.2.1; have h2 := HTL.out; have h3 : k = t := e; omega))) (fun k q => q.1))
 have FSc := lhid (fun k q => Nat.lt_of_lt_of_le (FS_19.out k q) hch.size)
 have RBLc := lhid (Nat.lt_of_lt_of_le RBL_23.out hch.size)
 clear hch CH_17 HT_18 XB_20 AB_21 RB_22 HO FS_19 RBL_23
 clear ht
 go_upto_region 5 with (fail)
 try any_goals (exfalso; omega)
 have RBxa := lhid (show rb < w5.heap.size from RBLc.out)
 have hb := Zba (Below.refl w5.heap.size w5) (.cells #[Value.slice Px r1.length px, Value.slice Py r2.length py, Value.int .i64 r3] 44)
 have hn := blk_new w5 (.cells #[Value.slice Px r1.length px, Value.slice Py r2.length py, Value.int .i64 r3] 44)
 have HZ6 := lhid (show (World.alloc w5 (.cells #[Value.slice Px r1.length px, Value.slice Py r2.length py, Value.int .i64 r3] 44)).heap.size = w5.heap.size + 1 from by simp)
 generalize hq : World.alloc w5 (.cells #[Value.slice Px r1.length px, Value.slice Py r2.length py, Value.int .i64 r3] 44) = w6 at hb hn HZ6 ⊢
 clear hq
 have CH_24 := lhid (CHc.out.next hb)
 have HT_25 := lhid (HTc.out.next hb)
 have FS_26 := lhid (fun k q => Nat.lt_of_lt_of_le (FSc.out k q) (hb).size)
 have XB_27 := lhid (blk_below XBc.out hb)
 have AB_28 := lhid (blk_below ABc.out hb)
 have RB_29 := lhid (blk_below RBc.out hb)
 have RBL_30 := lhid (Nat.lt_of_lt_of_le RBLc.out (hb).size)
 have O_31 := lhid (Kd.R_below Oc.out hb)
 have YO_32 := lhid (Kd.R_below HYO.out hb)
 have YX_33 := lhid (Kd.R_below HYX.out hb)
 have YY_34 := lhid (Kd.R_below HYY.out hb)
 clear CHc HTc FSc XBc ABc RBc RBLc Oc HYO HYX HYY hb
 have XA_35 := lhid (hn)
 clear hn
 obtain ⟨xa, hxa⟩ : ∃ q, q = w5.heap.size := ⟨_, rfl⟩
 rw [← hxa] at XA_35 ⊢
 have HNxa := lhid (show rb < xa from by rw [hxa]; exact RBxa.out)
 clear hxa RBxa
 obtain ⟨n0, n1, n2, n3, n4, n5⟩ := six XB_27.out
 have hss := Close_s (HSV0.out.far CH_24.out (fun k q e => HOK.out k q.1 e)) HD.out.len HD.out.few HD.out.l1 HD.out.l2 HA.out HD2.out
 rw [show (2 : Int) = s2 by rw [HS2.out]; unfold clS; rw [if_pos HI.out], ← HLL.out] at hss
 go_wp2_with fail
 try any_goals (exfalso; omega)
 with_reducible refine hss.mono ?_
 have RBLOW0 := RBL_30.out
 rintro e w7 ⟨v', vo, v0, v1, rfl, hS', hO2, hX, hY, hb⟩
 clear hss n0 n1 n2 n3 n4 n5
 have HV := lhid hS'
 obtain ⟨B2, B3, B4, B5, k2, k3, k4, k5, rfl, hq⟩ := hS'
 clear hq
 have LE := CH_24.out.size
 have HZO := lhid (Kd.R_lower hO2 (show w.heap.size ≤ w6.heap.size from LE))
 obtain ⟨Pp, pp, rfl⟩ := Kd.R_slice hO2
 clear hO2
 have HZX := lhid (Kd.R_lower hX (show w.heap.size ≤ w6.heap.size from LE))
 obtain ⟨Pu, pu, rfl⟩ := Kd.R_slice hX
 clear hX
 have HZY := lhid (Kd.R_lower hY (show w.heap.size ≤ w6.heap.size from LE))
 obtain ⟨Pz, pz, rfl⟩ := Kd.R_slice hY
 clear hY
 clear LE
 have CH_36 := lhid (CH_24.out.next hb)
 have HT_37 := lhid (HT_25.out.next hb)
 have FS_38 := lhid (fun k q => Nat.lt_of_lt_of_le (FS_26.out k q) (hb).size)
 have XB_39 := lhid (blk_below XB_27.out hb)
 have AB_40 := lhid (blk_below AB_28.out hb)
 have RB_41 := lhid (blk_below RB_29.out hb)
 have RBL_42 := lhid (Nat.lt_of_lt_of_le RBL_30.out (hb).size)
 have O_43 := lhid (Kd.R_below O_31.out hb)
 have YO_44 := lhid (Kd.R_below YO_32.out hb)
 have YX_45 := lhid (Kd.R_below YX_33.out hb)
 have YY_46 := lhid (Kd.R_below YY_34.out hb)
 have XA_47 := lhid (blk_below XA_35.out hb)
 clear CH_24 HT_25 FS_26 XB_27 AB_28 RB_29 RBL_30 O_31 YO_32 YX_33 YY_34 XA_35 hb
 have HVK := lhid (show ∀ k, ((ok k ∧ k < w.heap.size) ∨ w6.heap.size ≤ k) → k < w.heap.size ∨ rb < k from fun k q => q.elim (fun z => Or.inl z.2) (fun z => Or.inr (by omega)))
 have HVK2 := lhid (show ∀ k, ((ok k ∧ k < w.heap.size) ∨ w6.heap.size ≤ k) → ok k ∨ w.heap.size ≤ k from fun k q => q.elim (fun z => Or.inl z.1) (fun z => Or.inr (by have h1 := HSX.out; omega)))
 have RBLOW := lhid (show rb < w7.heap.size from RBL_42.out)
 clear RBLOW0
 go_upto_region 6 with (fail)
 try any_goals (exfalso; omega)
 have hb := Zba (Below.refl w7.heap.size w7) (.cells #[.int .i64 lots, .int .i64 s2, .slice B2 8 k2, .slice B3 8 k3, .slice B4 8 k4, .slice B5 8 k5] 93)
 have hn := blk_new w7 (.cells #[.int .i64 lots, .int .i64 s2, .slice B2 8 k2, .slice B3 8 k3, .slice B4 8 k4, .slice B5 8 k5] 93)
 have HZ8 := lhid (show (World.alloc w7 (.cells #[.int .i64 lots, .int .i64 s2, .slice B2 8 k2, .slice B3 8 k3, .slice B4 8 k4, .slice B5 8 k5] 93)).heap.size = w7.heap.size + 1 from by simp)
 generalize hq : World.alloc w7 (.cells #[.int .i64 lots, .int .i64 s2, .slice B2 8 k2, .slice B3 8 k3, .slice B4 8 k4, .slice B5 8 k5] 93) = w8 at hb hn HZ8 ⊢
 clear hq
 have CH_48 := lhid (CH_36.out.next hb)
 have HT_49 := lhid (HT_37.out.next hb)
 have FS_50 := lhid (fun k q => Nat.lt_of_lt_of_le (FS_38.out k q) (hb).size)
 have XB_51 := lhid (blk_below XB_39.out hb)
 have AB_52 := lhid (blk_below AB_40.out hb)
 have RB_53 := lhid (blk_below RB_41.out hb)
 have RBL_54 := lhid (Nat.lt_of_lt_of_le RBL_42.out (hb).size)
 have O_55 := lhid (Kd.R_below O_43.out hb)
 have YO_56 := lhid (Kd.R_below YO_44.out hb)
 have YX_57 := lhid (Kd.R_below YX_45.out hb)
 have YY_58 := lhid (Kd.R_below YY_46.out hb)
 have XA_59 := lhid (blk_below XA_47.out hb)
 have SV_60 := lhid (HV.out.next hb)
 have YZO_61 := lhid (Kd.R_below HZO.out hb)
 have YZX_62 := lhid (Kd.R_below HZX.out hb)
 have YZY_63 := lhid (Kd.R_below HZY.out hb)
 clear CH_36 HT_37 FS_38 XB_39 AB_40 RB_41 RBL_42 O_43 YO_44 YX_45 YY_46 XA_47 HV HZO HZX HZY hb
 have NB_64 := lhid (hn)
 clear hn
 obtain ⟨nb, hnb⟩ : ∃ q, q = w7.heap.size := ⟨_, rfl⟩
 rw [← hnb] at NB_64 ⊢
 have HSnb := lhid (show rb < nb ∧ w8.heap.size = nb + 1 from ⟨by rw [hnb]; exact RBLOW.out, by rw [hnb]; exact HZ8.out⟩)
 clear hnb RBLOW
 have hb := Zba (Below.refl w8.heap.size w8) (.cells #[Value.slice Pu r1.length pu, Value.slice Pz r2.length pz, Value.int .i64 r3] 44)
 have hn := blk_new w8 (.cells #[Value.slice Pu r1.length pu, Value.slice Pz r2.length pz, Value.int .i64 r3] 44)
 have HZ9 := lhid (show (World.alloc w8 (.cells #[Value.slice Pu r1.length pu, Value.slice Pz r2.length pz, Value.int .i64 r3] 44)).heap.size = w8.heap.size + 1 from by simp)
 generalize hq : World.alloc w8 (.cells #[Value.slice Pu r1.length pu, Value.slice Pz r2.length pz, Value.int .i64 r3] 44) = w9 at hb hn HZ9 ⊢
 clear hq
 have CH_65 := lhid (CH_48.out.next hb)
 have HT_66 := lhid (HT_49.out.next hb)
 have FS_67 := lhid (fun k q => Nat.lt_of_lt_of_le (FS_50.out k q) (hb).size)
 have XB_68 := lhid (blk_below XB_51.out hb)
 have AB_69 := lhid (blk_below AB_52.out hb)
 have RB_70 := lhid (blk_below RB_53.out hb)
 have RBL_71 := lhid (Nat.lt_of_lt_of_le RBL_54.out (hb).size)
 have O_72 := lhid (Kd.R_below O_55.out hb)
 have YO_73 := lhid (Kd.R_below YO_56.out hb)
 have YX_74 := lhid (Kd.R_below YX_57.out hb)
 have YY_75 := lhid (Kd.R_below YY_58.out hb)
 have XA_76 := lhid (blk_below XA_59.out hb)
 have SV_77 := lhid (SV_60.out.next hb)
 have YZO_78 := lhid (Kd.R_below YZO_61.out hb)
 have YZX_79 := lhid (Kd.R_below YZX_62.out hb)
 have YZY_80 := lhid (Kd.R_below YZY_63.out hb)
 have NB_81 := lhid (blk_below NB_64.out hb)
 clear CH_48 HT_49 FS_50 XB_51 AB_52 RB_53 RBL_54 O_55 YO_56 YX_57 YY_58 XA_59 SV_60 YZO_61 YZX_62 YZY_63 NB_64 hb
 have YA_82 := lhid (hn)
 clear hn
 obtain ⟨ya, hya⟩ : ∃ q, q = nb + 1 := ⟨_, rfl⟩
 rw [show w8.heap.size = ya by have h1 := HSnb.out; omega] at YA_82
 rw [← hya]
 have HNya := lhid (show rb < ya from by have h1 := HSnb.out; omega)
 clear hya
 obtain ⟨n0, n1, n2, n3, n4, n5⟩ := six NB_81.out
 obtain ⟨r0, r1_, r2_, r3_, r4, r5⟩ := six XB_68.out
 have hfz := fun o => blk_frozen XB_68.out o
 go_upto_region 7 with (fail)
 try any_goals (exfalso; omega)
 have hp := put6 XB_68.out (.int .i64 lots) (.int .i64 s2) (.slice B2 8 k2) (.slice B3 8 k3) (.slice B4 8 k4) (.slice B5 8 k5)
 clear n0 n1 n2 n3 n4 n5 r0 r1_ r2_ r3_ r4 r5 hfz
 generalize World.setCell (World.setCell (World.setCell (World.setCell (World.setCell (World.setCell (w9) ⟨xb, 0, none⟩ (.int .i64 lots)) ⟨xb, 1, none⟩ (.int .i64 s2)) ⟨xb, 2, none⟩ (.slice B2 8 k2)) ⟨xb, 3, none⟩ (.slice B3 8 k3)) ⟨xb, 4, none⟩ (.slice B4 8 k4)) ⟨xb, 5, none⟩ (.slice B5 8 k5) = wx at hp ⊢
 obtain ⟨hp1, hp2⟩ := hp
 have CHx := lhid (CH_65.out.trans hp2 (fun i hi q => by have h1 := HSX.out; have h2 : i = xb := q; omega))
 have HTx := lhid (HT_66.out.far hp2 (fun q => by have h1 := HSX.out; have h2 : t = xb := q; omega) (fun k q e => by have h1 := HFK.out k q; have h2 : k = xb := e; have h3 := HSX.out; have h4 := HSxb.out; omega))
 have XBx := lhid hp1
 have ABx := lhid (hp2.blk AB_69.out (fun q => by have h1 := HSX.out; have h2 : ab = xb := q; omega))
 have RBx := lhid (hp2.blk RB_70.out (fun q => by have h1 := HSX.out; have h2 : rb = xb := q; omega))
 have Ox := lhid (Kd.R_mono (Kd.R_step (Kd.R_types O_72.out XB_68.out (by decide)) (fun k q hk => hp2.block k hk q.2)) (fun k q => q.1))
 have FSx := lhid (fun k q => Nat.lt_of_lt_of_le (FS_67.out k q) hp2.size)
 have RBLx := lhid (Nat.lt_of_lt_of_le RBL_71.out hp2.size)
 have SVx := lhid (SV_77.out.far hp2 (fun k q e => by have h1 := HSX.out; have h2 : k = xb := e; have h3 := HVK.out k q; have h4 := HSxb.out; omega))
 have YOx := lhid (Kd.R_mono (Kd.R_step (Kd.R_types YO_73.out XB_68.out (by decide)) (fun k q hk => hp2.block k hk q.2)) (fun k q => q.1))
 have YXx := lhid (Kd.R_mono (Kd.R_step (Kd.R_types YX_74.out XB_68.out (by decide)) (fun k q hk => hp2.block k hk q.2)) (fun k q => q.1))
 have YYx := lhid (Kd.R_mono (Kd.R_step (Kd.R_types YY_75.out XB_68.out (by decide)) (fun k q hk => hp2.block k hk q.2)) (fun k q => q.1))
 have YZOx := lhid (Kd.R_mono (Kd.R_step (Kd.R_types YZO_78.out XB_68.out (by decide)) (fun k q hk => hp2.block k hk q.2)) (fun k q => q.1))
 have YZXx := lhid (Kd.R_mono (Kd.R_step (Kd.R_types YZX_79.out XB_68.out (by decide)) (fun k q hk => hp2.block k hk q.2)) (fun k q => q.1))
 have YZYx := lhid (Kd.R_mono (Kd.R_step (Kd.R_types YZY_80.out XB_68.out (by decide)) (fun k q hk => hp2.block k hk q.2)) (fun k q => q.1))
 have XAx := lhid (hp2.blk XA_76.out (fun q => by have h1 := HSX.out; have h2 : xa = xb := q; have h3 := HNxa.out; omega))
 have WYAx := lhid (hp2.blk YA_82.out (fun q => by have h1 := HSX.out; have h2 : ya = xb := q; have h3 := HNya.out; omega))
 clear hp1 hp2 CH_65 HT_66 XB_68 AB_69 RB_70 O_72 FS_67 RBL_71 SV_77 YO_73 YX_74 YY_75 YZO_78 YZX_79 YZY_80 XA_76 YA_82 NB_81
 obtain ⟨x0, x1, x2⟩ := three XAx.out
 obtain ⟨y0, y1, y2⟩ := three WYAx.out
 have haw := award_eq wx Px Py Pu Pz px py pu pz r1 r2 r3 HR1.out HR2.out (Kd.R_reads' YXx.out).2.2 (Kd.R_reads' YXx.out).2.1 (Kd.R_reads' YYx.out).2.2 (Kd.R_reads' YYx.out).2.1 (Kd.R_reads' YZXx.out).2.2 (Kd.R_reads' YZXx.out).2.1 (Kd.R_reads' YZYx.out).2.2 (Kd.R_reads' YZYx.out).2.1
 go_wp2_with fail
 try any_goals (exfalso; omega)
 with_reducible refine haw.mono ?_
 rintro e w10 ⟨rfl, hb⟩
 clear haw x0 x1 x2 y0 y1 y2
 have CH_83 := lhid (CHx.out.next hb)
 have HT_84 := lhid (HTx.out.next hb)
 have FS_85 := lhid (fun k q => Nat.lt_of_lt_of_le (FSx.out k q) (hb).size)
 have XB_86 := lhid (blk_below XBx.out hb)
 have AB_87 := lhid (blk_below ABx.out hb)
 have RB_88 := lhid (blk_below RBx.out hb)
 have RBL_89 := lhid (Nat.lt_of_lt_of_le RBLx.out (hb).size)
 have O_90 := lhid (Kd.R_below Ox.out hb)
 have YO_91 := lhid (Kd.R_below YOx.out hb)
 have YX_92 := lhid (Kd.R_below YXx.out hb)
 have YY_93 := lhid (Kd.R_below YYx.out hb)
 have SV_94 := lhid (SVx.out.next hb)
 have YZO_95 := lhid (Kd.R_below YZOx.out hb)
 have YZX_96 := lhid (Kd.R_below YZXx.out hb)
 have YZY_97 := lhid (Kd.R_below YZYx.out hb)
 have XA_98 := lhid (blk_below XAx.out hb)
 have WYA_99 := lhid (blk_below WYAx.out hb)
 clear CHx HTx FSx XBx ABx RBx RBLx Ox YOx YXx YYx SVx YZOx YZXx YZYx XAx WYAx hb
 have hof := offers_eq w10 Po Pp po pp L (by rw [HLL.out]; have h1 := HD.out.l16; omega) (R_C YO_91.out) (Kd.R_reads' YO_91.out).2.1 (R_C YZO_95.out) (Kd.R_reads' YZO_95.out).2.1
 go_wp2_with fail
 try any_goals (exfalso; omega)
 with_reducible refine hof.mono ?_
 rintro e w11 ⟨rfl, hb⟩
 clear hof
 have CH_100 := lhid (CH_83.out.next hb)
 have HT_101 := lhid (HT_84.out.next hb)
 have FS_102 := lhid (fun k q => Nat.lt_of_lt_of_le (FS_85.out k q) (hb).size)
 have XB_103 := lhid (blk_below XB_86.out hb)
 have AB_104 := lhid (blk_below AB_87.out hb)
 have RB_105 := lhid (blk_below RB_88.out hb)
 have RBL_106 := lhid (Nat.lt_of_lt_of_le RBL_89.out (hb).size)
 have O_107 := lhid (Kd.R_below O_90.out hb)
 have YO_108 := lhid (Kd.R_below YO_91.out hb)
 have YX_109 := lhid (Kd.R_below YX_92.out hb)
 have YY_110 := lhid (Kd.R_below YY_93.out hb)
 have SV_111 := lhid (SV_94.out.next hb)
 have YZO_112 := lhid (Kd.R_below YZO_95.out hb)
 have YZX_113 := lhid (Kd.R_below YZX_96.out hb)
 have YZY_114 := lhid (Kd.R_below YZY_97.out hb)
 have XA_115 := lhid (blk_below XA_98.out hb)
 have WYA_116 := lhid (blk_below WYA_99.out hb)
 clear CH_83 HT_84 FS_85 XB_86 AB_87 RB_88 RBL_89 O_90 YO_91 YX_92 YY_93 SV_94 YZO_95 YZX_96 YZY_97 XA_98 WYA_99 hb
 obtain ⟨n0, n1, n2, n3, n4, n5⟩ := six XB_103.out
 obtain ⟨r0, r1, r2, r3, r4, r5⟩ := six RB_105.out
 have hfz := fun o => blk_frozen RB_105.out o
 have hne1 : xb ≠ rb := by have h1 := HSX.out; omega
 go_wp2_with fail
 try any_goals (exfalso; omega)
 have hp := put6 RB_105.out (.int .i64 lots) (.int .i64 s2) (.slice B2 8 k2) (.slice B3 8 k3) (.slice B4 8 k4) (.slice B5 8 k5)
 clear n0 n1 n2 n3 n4 n5 r0 r1 r2 r3 r4 r5 hfz
 generalize World.setCell (World.setCell (World.setCell (World.setCell (World.setCell (World.setCell (w11) ⟨rb, 0, none⟩ (.int .i64 lots)) ⟨rb, 1, none⟩ (.int .i64 s2)) ⟨rb, 2, none⟩ (.slice B2 8 k2)) ⟨rb, 3, none⟩ (.slice B3 8 k3)) ⟨rb, 4, none⟩ (.slice B4 8 k4)) ⟨rb, 5, none⟩ (.slice B5 8 k5) = wf at hp ⊢
 obtain ⟨hp1, hp2⟩ := hp
 refine bodyPost_ret (results_ct rfl _ _ rb 93 #[(.int .i64 lots), (.int .i64 s2), (.slice B2 8 k2), (.slice B3 8 k3), (.slice B4 8 k4), (.slice B5 8 k5)] (0, 0) _ rfl hp1 Try.underlying93 rfl (by kernel_rfl)) rfl ?_
 exact ⟨_, _, s2, _, rfl, HT_101.out.far hp2 (fun q => by have h1 := HSX.out; have h2 : t = rb := q; omega) (fun k q e => by have h1 := HFK.out k q; have h2 : k = rb := e; have h3 := HSrb.out; omega), fun k q => Nat.lt_of_lt_of_le (FS_102.out k q) hp2.size, (SV_111.out.far hp2 (fun k q e => by have h1 := HSX.out; have h2 : k = rb := e; have h3 := HVK.out k q; have h4 := HSrb.out; omega)).mono (fun k q => (HVK2.out k q)), (by rw [HS2.out]; exact HD.out.cls), CH_100.out.trans hp2 (fun i hi q => by have h1 := HSX.out; have h2 : i = rb := q; omega)⟩
set_option maxHeartbeats 12800000 in
set_option maxRecDepth 100000 in
theorem do_close0 (w0 w : World) (base t : Nat) (F ok : Nat → Prop) (lots st : Int) (H : List Hd) (v : Value) (kn : Nat) (buyer : Int) (A : Option Addr) (c : Nat) (l : List S50) (salt : Int) (raw : Bool) (hB0 : Below w0.heap.size w0 w) (ht0 : w0.heap.size ≤ t) (hT : TN base F w t lots st H) (hbase : base ≤ w.heap.size) (hF : ∀ k, F k → k < w.heap.size) (hS : SV w ok v lots st H) (hok : ∀ k, ok k → k ≠ t) (hD : DI lots st H) (hC : Kd.C k50 w0 A l.length l) (hc : l.length ≤ c) (hs0 : 0 ≤ salt ∧ salt < 18446744073709551616) (hl : l.length ≤ 20) (hkn : kn < 256) (hm : kn % 6 = 5) (hst : st ≠ 1) : Calls Try.prog 44 #[.pointer (some ⟨t, 0, none⟩), v, .agg #[.int .u8 (kn : Int), .int .i64 buyer, .slice A l.length c, .int .u64 salt, .bool raw]] w (DoP base t ok lots w) := by
 have hu93 := Try.underlying93
 have hu80 := Try.underlying80
 have hu44 := Try.underlying44
 have hu50 := Try.underlying50
 have HB0 := lhid hB0
 have HA := lhid hst
 clear hst
 have HT0 := lhid ht0
 have HTT := lhid hT
 have HBS := lhid hbase
 have HF := lhid hF
 have HS0 := lhid hS.bound
 have HOK := lhid hok
 have HD := lhid hD
 have HC := lhid hC
 have HCC := lhid hc
 have HSA := lhid hs0
 have HLEN := lhid hl
 have HTL := lhid hT.lt
 obtain ⟨ko, hko⟩ := ev_own l (by omega)
 have HKO := lhid (hko ko (Nat.le_refl _))
 have hrem : ((kn : Int)).tmod 6 = 5 := by rw [Int.tmod_eq_emod_of_nonneg (by omega)]; omega
 have hk0 : (0 : Int) ≤ (kn : Int) := by omega
 have hk1 : (kn : Int) < 256 := by omega
 clear hko hB0 ht0 hT hbase hF hok hD hC hc hs0 hl hm hkn
 obtain ⟨A2, A3, A4, A5, c2, c3, c4, c5, rfl, hq⟩ := hS
 clear hq
 go_enter Try.func44, Try.ntmps44
 have CH_1 := lhid (Chg.refl (fun k => k = t) w)
 have HFK := lhid (show ∀ k, F k → k < w.heap.size ∨ w.heap.size + 2 < k from fun k q => Or.inl (HF.out k q))
 go_upto_region 1 with (fail)
 have hb := Zba (Below.refl w.heap.size w) (.cells #[.int .i64 lots, .int .i64 st, .slice A2 8 c2, .slice A3 8 c3, .slice A4 8 c4, .slice A5 8 c5] 93)
 have hn := blk_new w (.cells #[.int .i64 lots, .int .i64 st, .slice A2 8 c2, .slice A3 8 c3, .slice A4 8 c4, .slice A5 8 c5] 93)
 have HZ1 := lhid (show (World.alloc w (.cells #[.int .i64 lots, .int .i64 st, .slice A2 8 c2, .slice A3 8 c3, .slice A4 8 c4, .slice A5 8 c5] 93)).heap.size = w.heap.size + 1 from by simp)
 generalize hq : World.alloc w (.cells #[.int .i64 lots, .int .i64 st, .slice A2 8 c2, .slice A3 8 c3, .slice A4 8 c4, .slice A5 8 c5] 93) = w1 at hb hn HZ1 ⊢
 clear hq
 have CH_2 := lhid (CH_1.out.next hb)
 have HT_3 := lhid (HTT.out.next hb)
 have FS_4 := lhid (fun k q => Nat.lt_of_lt_of_le (HF.out k q) (hb).size)
 clear CH_1 HTT HF hb
 have XB_5 := lhid (hn)
 clear hn
 obtain ⟨xb, hxb⟩ : ∃ q, q = w.heap.size := ⟨_, rfl⟩
 rw [← hxb] at XB_5 ⊢
 have HSxb := lhid (show xb = w.heap.size ∧ w1.heap.size = xb + 1 from ⟨hxb, by rw [hxb]; exact HZ1.out⟩)
 clear hxb
 have hb := Zba (Below.refl w1.heap.size w1) (.cells #[.int .u8 (kn : Int), .int .i64 buyer, .slice A l.length c, .int .u64 salt, .bool raw] 80)
 have hn := blk_new w1 (.cells #[.int .u8 (kn : Int), .int .i64 buyer, .slice A l.length c, .int .u64 salt, .bool raw] 80)
 have HZ2 := lhid (show (World.alloc w1 (.cells #[.int .u8 (kn : Int), .int .i64 buyer, .slice A l.length c, .int .u64 salt, .bool raw] 80)).heap.size = w1.heap.size + 1 from by simp)
 generalize hq : World.alloc w1 (.cells #[.int .u8 (kn : Int), .int .i64 buyer, .slice A l.length c, .int .u64 salt, .bool raw] 80) = w2 at hb hn HZ2 ⊢
 clear hq
 have CH_6 := lhid (CH_2.out.next hb)
 have HT_7 := lhid (HT_3.out.next hb)
 have FS_8 := lhid (fun k q => Nat.lt_of_lt_of_le (FS_4.out k q) (hb).size)
 have XB_9 := lhid (blk_below XB_5.out hb)
 clear CH_2 HT_3 FS_4 XB_5 hb
 have AB_10 := lhid (hn)
 clear hn
 obtain ⟨ab, hab⟩ : ∃ q, q = xb + 1 := ⟨_, rfl⟩
 rw [show w1.heap.size = ab by have h1 := HSxb.out; omega] at AB_10
 rw [← hab]
 have HSab := lhid (show ab = w.heap.size + 1 ∧ w2.heap.size = ab + 1 from by have h1 := HSxb.out; have h2 := HZ2.out; omega)
 clear hab
 have hb := Zba (Below.refl w2.heap.size w2) (.cells #[.int .i64 0, .int .i64 0, .slice none 0 0, .slice none 0 0, .slice none 0 0, .slice none 0 0] 93)
 have hn := blk_new w2 (.cells #[.int .i64 0, .int .i64 0, .slice none 0 0, .slice none 0 0, .slice none 0 0, .slice none 0 0] 93)
 have HZ3 := lhid (show (World.alloc w2 (.cells #[.int .i64 0, .int .i64 0, .slice none 0 0, .slice none 0 0, .slice none 0 0, .slice none 0 0] 93)).heap.size = w2.heap.size + 1 from by simp)
 generalize hq : World.alloc w2 (.cells #[.int .i64 0, .int .i64 0, .slice none 0 0, .slice none 0 0, .slice none 0 0, .slice none 0 0] 93) = w3 at hb hn HZ3 ⊢
 clear hq
 have CH_11 := lhid (CH_6.out.next hb)
 have HT_12 := lhid (HT_7.out.next hb)
 have FS_13 := lhid (fun k q => Nat.lt_of_lt_of_le (FS_8.out k q) (hb).size)
 have XB_14 := lhid (blk_below XB_9.out hb)
 have AB_15 := lhid (blk_below AB_10.out hb)
 clear CH_6 HT_7 FS_8 XB_9 AB_10 hb
 have RB_16 := lhid (hn)
 clear hn
 obtain ⟨rb, hrb⟩ : ∃ q, q = ab + 1 := ⟨_, rfl⟩
 rw [show w2.heap.size = rb by have h1 := HSab.out; omega] at RB_16
 rw [← hrb]
 have HSrb := lhid (show rb = w.heap.size + 2 ∧ w3.heap.size = rb + 1 from by have h1 := HSab.out; have h2 := HZ3.out; omega)
 clear hrb
 have HSX := lhid (show t < xb ∧ w.heap.size ≤ xb ∧ w.heap.size ≤ rb ∧ w.heap.size ≤ ab ∧ xb < ab ∧ ab < rb from by have h1 := HSxb.out; have h2 := HSab.out; have h3 := HSrb.out; have h4 := HTL.out; omega)
 have HSV0 := lhid (show SV w (fun k => ok k ∧ k < w.heap.size) (.agg #[.int .i64 lots, .int .i64 st, .slice A2 8 c2, .slice A3 8 c3, .slice A4 8 c4, .slice A5 8 c5]) lots st H from HS0.out)
 have HRBL := lhid (blk_lt RB_16.out)
 have a2 := (blk_cell AB_15.out 2).trans rfl
 go_wp2_with fail
 try any_goals (exfalso; omega)
 with_reducible refine (kimberlitelaw05_own.calls ko A c l l w3 (Kd.C_below HC.out (HB0.out.trans (CH_11.out.below HB0.out.size (fun k q => by rw [show k = t from q]; exact HT0.out)))) HCC.out HKO.out).mono ?_
 rintro e w4 ⟨vo, rfl, hO, hb⟩
 have HO9 := lhid (show ∀ k, Value.ownBlock vo = some k → w3.heap.size ≤ k from fun k e => Kd.R_base hO k e)
 have HO := lhid (Kd.R_lower hO (show w.heap.size ≤ w3.heap.size from CH_11.out.size))
 obtain ⟨Ao, co, rfl⟩ := Kd.R_slice hO
 clear hO a2
 have CH_17 := lhid (CH_11.out.next hb)
 have HT_18 := lhid (HT_12.out.next hb)
 have FS_19 := lhid (fun k q => Nat.lt_of_lt_of_le (FS_13.out k q) (hb).size)
 have XB_20 := lhid (blk_below XB_14.out hb)
 have AB_21 := lhid (blk_below AB_15.out hb)
 have RB_22 := lhid (blk_below RB_16.out hb)
 have RBL_23 := lhid (Nat.lt_of_lt_of_le HRBL.out (hb).size)
 clear CH_11 HT_12 FS_13 XB_14 AB_15 RB_16 HRBL hb
 have a0 := (blk_cell AB_21.out 0).trans rfl
 go_upto_region 4 with (fail)
 try any_goals (exfalso; omega)
 clear a0 hrem hk0 hk1
 obtain ⟨L, hL⟩ : ∃ L, L = H.flatMap (·.off) := ⟨_, rfl⟩
 have HLL := lhid hL
 clear hL
 have hsu := Close_no base t F w4 lots st H HT_18.out (by rw [in_9 HD.out.l1 HA.out]; decide)
 rw [in_9 HD.out.l1 HA.out] at hsu
 go_wp2_with fail
 try any_goals (exfalso; omega)
 with_reducible refine hsu.mono ?_
 rintro e w5 ⟨rfl, hb⟩
 clear hsu
 have CH_24 := lhid (CH_17.out.next hb)
 have HT_25 := lhid (HT_18.out.next hb)
 have FS_26 := lhid (fun k q => Nat.lt_of_lt_of_le (FS_19.out k q) (hb).size)
 have XB_27 := lhid (blk_below XB_20.out hb)
 have AB_28 := lhid (blk_below AB_21.out hb)
 have RB_29 := lhid (blk_below RB_22.out hb)
 have RBL_30 := lhid (Nat.lt_of_lt_of_le RBL_23.out (hb).size)
 have O_31 := lhid (Kd.R_below HO.out hb)
 clear CH_17 HT_18 FS_19 XB_20 AB_21 RB_22 RBL_23 HO hb
 go_upto_region 5 with (fail)
 try any_goals (exfalso; omega)
 have RBxa := lhid (show rb < w5.heap.size from RBL_30.out)
 have hb := Zba (Below.refl w5.heap.size w5) (.cells #[Value.slice none 0 0, Value.slice none 0 0, Value.int .i64 0] 44)
 have hn := blk_new w5 (.cells #[Value.slice none 0 0, Value.slice none 0 0, Value.int .i64 0] 44)
 have HZ6 := lhid (show (World.alloc w5 (.cells #[Value.slice none 0 0, Value.slice none 0 0, Value.int .i64 0] 44)).heap.size = w5.heap.size + 1 from by simp)
 generalize hq : World.alloc w5 (.cells #[Value.slice none 0 0, Value.slice none 0 0, Value.int .i64 0] 44) = w6 at hb hn HZ6 ⊢
 clear hq
 have CH_32 := lhid (CH_24.out.next hb)
 have HT_33 := lhid (HT_25.out.next hb)
 have FS_34 := lhid (fun k q => Nat.lt_of_lt_of_le (FS_26.out k q) (hb).size)
 have XB_35 := lhid (blk_below XB_27.out hb)
 have AB_36 := lhid (blk_below AB_28.out hb)
 have RB_37 := lhid (blk_below RB_29.out hb)
 have RBL_38 := lhid (Nat.lt_of_lt_of_le RBL_30.out (hb).size)
 have O_39 := lhid (Kd.R_below O_31.out hb)
 clear CH_24 HT_25 FS_26 XB_27 AB_28 RB_29 RBL_30 O_31 hb
 have XA_40 := lhid (hn)
 clear hn
 obtain ⟨xa, hxa⟩ : ∃ q, q = w5.heap.size := ⟨_, rfl⟩
 rw [← hxa] at XA_40 ⊢
 have HNxa := lhid (show rb < xa from by rw [hxa]; exact RBxa.out)
 clear hxa RBxa
 obtain ⟨n0, n1, n2, n3, n4, n5⟩ := six XB_35.out
 have hss := Close_n (HSV0.out.far CH_32.out (fun k q e => HOK.out k q.1 e)) HD.out.len HD.out.few HD.out.l1 HD.out.l2 HA.out
 go_wp2_with fail
 try any_goals (exfalso; omega)
 with_reducible refine hss.mono ?_
 have RBLOW0 := RBL_38.out
 rintro e w7 ⟨v', rfl, hS', hb⟩
 clear hss n0 n1 n2 n3 n4 n5
 have HV := lhid hS'
 obtain ⟨B2, B3, B4, B5, k2, k3, k4, k5, rfl, hq⟩ := hS'
 clear hq
 have CH_41 := lhid (CH_32.out.next hb)
 have HT_42 := lhid (HT_33.out.next hb)
 have FS_43 := lhid (fun k q => Nat.lt_of_lt_of_le (FS_34.out k q) (hb).size)
 have XB_44 := lhid (blk_below XB_35.out hb)
 have AB_45 := lhid (blk_below AB_36.out hb)
 have RB_46 := lhid (blk_below RB_37.out hb)
 have RBL_47 := lhid (Nat.lt_of_lt_of_le RBL_38.out (hb).size)
 have O_48 := lhid (Kd.R_below O_39.out hb)
 have XA_49 := lhid (blk_below XA_40.out hb)
 clear CH_32 HT_33 FS_34 XB_35 AB_36 RB_37 RBL_38 O_39 XA_40 hb
 have HVK := lhid (show ∀ k, ((ok k ∧ k < w.heap.size) ∨ w6.heap.size ≤ k) → k < w.heap.size ∨ rb < k from fun k q => q.elim (fun z => Or.inl z.2) (fun z => Or.inr (by omega)))
 have HVK2 := lhid (show ∀ k, ((ok k ∧ k < w.heap.size) ∨ w6.heap.size ≤ k) → ok k ∨ w.heap.size ≤ k from fun k q => q.elim (fun z => Or.inl z.1) (fun z => Or.inr (by have h1 := HSX.out; omega)))
 have RBLOW := lhid (show rb < w7.heap.size from RBL_47.out)
 clear RBLOW0
 go_upto_region 6 with (fail)
 try any_goals (exfalso; omega)
 have hb := Zba (Below.refl w7.heap.size w7) (.cells #[.int .i64 lots, .int .i64 st, .slice B2 8 k2, .slice B3 8 k3, .slice B4 8 k4, .slice B5 8 k5] 93)
 have hn := blk_new w7 (.cells #[.int .i64 lots, .int .i64 st, .slice B2 8 k2, .slice B3 8 k3, .slice B4 8 k4, .slice B5 8 k5] 93)
 have HZ8 := lhid (show (World.alloc w7 (.cells #[.int .i64 lots, .int .i64 st, .slice B2 8 k2, .slice B3 8 k3, .slice B4 8 k4, .slice B5 8 k5] 93)).heap.size = w7.heap.size + 1 from by simp)
 generalize hq : World.alloc w7 (.cells #[.int .i64 lots, .int .i64 st, .slice B2 8 k2, .slice B3 8 k3, .slice B4 8 k4, .slice B5 8 k5] 93) = w8 at hb hn HZ8 ⊢
 clear hq
 have CH_50 := lhid (CH_41.out.next hb)
 have HT_51 := lhid (HT_42.out.next hb)
 have FS_52 := lhid (fun k q => Nat.lt_of_lt_of_le (FS_43.out k q) (hb).size)
 have XB_53 := lhid (blk_below XB_44.out hb)
 have AB_54 := lhid (blk_below AB_45.out hb)
 have RB_55 := lhid (blk_below RB_46.out hb)
 have RBL_56 := lhid (Nat.lt_of_lt_of_le RBL_47.out (hb).size)
 have O_57 := lhid (Kd.R_below O_48.out hb)
 have XA_58 := lhid (blk_below XA_49.out hb)
 have SV_59 := lhid (HV.out.next hb)
 clear CH_41 HT_42 FS_43 XB_44 AB_45 RB_46 RBL_47 O_48 XA_49 HV hb
 have NB_60 := lhid (hn)
 clear hn
 obtain ⟨nb, hnb⟩ : ∃ q, q = w7.heap.size := ⟨_, rfl⟩
 rw [← hnb] at NB_60 ⊢
 have HSnb := lhid (show rb < nb ∧ w8.heap.size = nb + 1 from ⟨by rw [hnb]; exact RBLOW.out, by rw [hnb]; exact HZ8.out⟩)
 clear hnb RBLOW
 have hb := Zba (Below.refl w8.heap.size w8) (.cells #[Value.slice none 0 0, Value.slice none 0 0, Value.int .i64 0] 44)
 have hn := blk_new w8 (.cells #[Value.slice none 0 0, Value.slice none 0 0, Value.int .i64 0] 44)
 have HZ9 := lhid (show (World.alloc w8 (.cells #[Value.slice none 0 0, Value.slice none 0 0, Value.int .i64 0] 44)).heap.size = w8.heap.size + 1 from by simp)
 generalize hq : World.alloc w8 (.cells #[Value.slice none 0 0, Value.slice none 0 0, Value.int .i64 0] 44) = w9 at hb hn HZ9 ⊢
 clear hq
 have CH_61 := lhid (CH_50.out.next hb)
 have HT_62 := lhid (HT_51.out.next hb)
 have FS_63 := lhid (fun k q => Nat.lt_of_lt_of_le (FS_52.out k q) (hb).size)
 have XB_64 := lhid (blk_below XB_53.out hb)
 have AB_65 := lhid (blk_below AB_54.out hb)
 have RB_66 := lhid (blk_below RB_55.out hb)
 have RBL_67 := lhid (Nat.lt_of_lt_of_le RBL_56.out (hb).size)
 have O_68 := lhid (Kd.R_below O_57.out hb)
 have XA_69 := lhid (blk_below XA_58.out hb)
 have SV_70 := lhid (SV_59.out.next hb)
 have NB_71 := lhid (blk_below NB_60.out hb)
 clear CH_50 HT_51 FS_52 XB_53 AB_54 RB_55 RBL_56 O_57 XA_58 SV_59 NB_60 hb
 have YA_72 := lhid (hn)
 clear hn
 obtain ⟨ya, hya⟩ : ∃ q, q = nb + 1 := ⟨_, rfl⟩
 rw [show w8.heap.size = ya by have h1 := HSnb.out; omega] at YA_72
 rw [← hya]
 have HNya := lhid (show rb < ya from by have h1 := HSnb.out; omega)
 clear hya
 obtain ⟨n0, n1, n2, n3, n4, n5⟩ := six NB_71.out
 obtain ⟨r0, r1_, r2_, r3_, r4, r5⟩ := six XB_64.out
 have hfz := fun o => blk_frozen XB_64.out o
 go_upto_region 7 with (fail)
 try any_goals (exfalso; omega)
 have hp := put6 XB_64.out (.int .i64 lots) (.int .i64 st) (.slice B2 8 k2) (.slice B3 8 k3) (.slice B4 8 k4) (.slice B5 8 k5)
 clear n0 n1 n2 n3 n4 n5 r0 r1_ r2_ r3_ r4 r5 hfz
 generalize World.setCell (World.setCell (World.setCell (World.setCell (World.setCell (World.setCell (w9) ⟨xb, 0, none⟩ (.int .i64 lots)) ⟨xb, 1, none⟩ (.int .i64 st)) ⟨xb, 2, none⟩ (.slice B2 8 k2)) ⟨xb, 3, none⟩ (.slice B3 8 k3)) ⟨xb, 4, none⟩ (.slice B4 8 k4)) ⟨xb, 5, none⟩ (.slice B5 8 k5) = wx at hp ⊢
 obtain ⟨hp1, hp2⟩ := hp
 have CHx := lhid (CH_61.out.trans hp2 (fun i hi q => by have h1 := HSX.out; have h2 : i = xb := q; omega))
 have HTx := lhid (HT_62.out.far hp2 (fun q => by have h1 := HSX.out; have h2 : t = xb := q; omega) (fun k q e => by have h1 := HFK.out k q; have h2 : k = xb := e; have h3 := HSX.out; have h4 := HSxb.out; omega))
 have XBx := lhid hp1
 have ABx := lhid (hp2.blk AB_65.out (fun q => by have h1 := HSX.out; have h2 : ab = xb := q; omega))
 have RBx := lhid (hp2.blk RB_66.out (fun q => by have h1 := HSX.out; have h2 : rb = xb := q; omega))
 have Ox := lhid (Kd.R_mono (Kd.R_step (Kd.R_types O_68.out XB_64.out (by decide)) (fun k q hk => hp2.block k hk q.2)) (fun k q => q.1))
 have FSx := lhid (fun k q => Nat.lt_of_lt_of_le (FS_63.out k q) hp2.size)
 have RBLx := lhid (Nat.lt_of_lt_of_le RBL_67.out hp2.size)
 have SVx := lhid (SV_70.out.far hp2 (fun k q e => by have h1 := HSX.out; have h2 : k = xb := e; have h3 := HVK.out k q; have h4 := HSxb.out; omega))
 have XAx := lhid (hp2.blk XA_69.out (fun q => by have h1 := HSX.out; have h2 : xa = xb := q; have h3 := HNxa.out; omega))
 have WYAx := lhid (hp2.blk YA_72.out (fun q => by have h1 := HSX.out; have h2 : ya = xb := q; have h3 := HNya.out; omega))
 clear hp1 hp2 CH_61 HT_62 XB_64 AB_65 RB_66 O_68 FS_63 RBL_67 SV_70 XA_69 YA_72 NB_71
 obtain ⟨x0, x1, x2⟩ := three XAx.out
 obtain ⟨y0, y1, y2⟩ := three WYAx.out
 have haw := award_z wx
 go_wp2_with fail
 try any_goals (exfalso; omega)
 with_reducible refine haw.mono ?_
 rintro e w10 ⟨rfl, hb⟩
 clear haw x0 x1 x2 y0 y1 y2
 have CH_73 := lhid (CHx.out.next hb)
 have HT_74 := lhid (HTx.out.next hb)
 have FS_75 := lhid (fun k q => Nat.lt_of_lt_of_le (FSx.out k q) (hb).size)
 have XB_76 := lhid (blk_below XBx.out hb)
 have AB_77 := lhid (blk_below ABx.out hb)
 have RB_78 := lhid (blk_below RBx.out hb)
 have RBL_79 := lhid (Nat.lt_of_lt_of_le RBLx.out (hb).size)
 have O_80 := lhid (Kd.R_below Ox.out hb)
 have SV_81 := lhid (SVx.out.next hb)
 have XA_82 := lhid (blk_below XAx.out hb)
 have WYA_83 := lhid (blk_below WYAx.out hb)
 clear CHx HTx FSx XBx ABx RBx RBLx Ox SVx XAx WYAx hb
 have hof := offers_z w10
 go_wp2_with fail
 try any_goals (exfalso; omega)
 with_reducible refine hof.mono ?_
 rintro e w11 ⟨rfl, hb⟩
 clear hof
 have CH_84 := lhid (CH_73.out.next hb)
 have HT_85 := lhid (HT_74.out.next hb)
 have FS_86 := lhid (fun k q => Nat.lt_of_lt_of_le (FS_75.out k q) (hb).size)
 have XB_87 := lhid (blk_below XB_76.out hb)
 have AB_88 := lhid (blk_below AB_77.out hb)
 have RB_89 := lhid (blk_below RB_78.out hb)
 have RBL_90 := lhid (Nat.lt_of_lt_of_le RBL_79.out (hb).size)
 have O_91 := lhid (Kd.R_below O_80.out hb)
 have SV_92 := lhid (SV_81.out.next hb)
 have XA_93 := lhid (blk_below XA_82.out hb)
 have WYA_94 := lhid (blk_below WYA_83.out hb)
 clear CH_73 HT_74 FS_75 XB_76 AB_77 RB_78 RBL_79 O_80 SV_81 XA_82 WYA_83 hb
 obtain ⟨n0, n1, n2, n3, n4, n5⟩ := six XB_87.out
 obtain ⟨r0, r1, r2, r3, r4, r5⟩ := six RB_89.out
 have hfz := fun o => blk_frozen RB_89.out o
 have hne1 : xb ≠ rb := by have h1 := HSX.out; omega
 go_wp2_with fail
 try any_goals (exfalso; omega)
 have hp := put6 RB_89.out (.int .i64 lots) (.int .i64 st) (.slice B2 8 k2) (.slice B3 8 k3) (.slice B4 8 k4) (.slice B5 8 k5)
 clear n0 n1 n2 n3 n4 n5 r0 r1 r2 r3 r4 r5 hfz
 generalize World.setCell (World.setCell (World.setCell (World.setCell (World.setCell (World.setCell (w11) ⟨rb, 0, none⟩ (.int .i64 lots)) ⟨rb, 1, none⟩ (.int .i64 st)) ⟨rb, 2, none⟩ (.slice B2 8 k2)) ⟨rb, 3, none⟩ (.slice B3 8 k3)) ⟨rb, 4, none⟩ (.slice B4 8 k4)) ⟨rb, 5, none⟩ (.slice B5 8 k5) = wf at hp ⊢
 obtain ⟨hp1, hp2⟩ := hp
 refine bodyPost_ret (results_ct rfl _ _ rb 93 #[(.int .i64 lots), (.int .i64 st), (.slice B2 8 k2), (.slice B3 8 k3), (.slice B4 8 k4), (.slice B5 8 k5)] (0, 0) _ rfl hp1 Try.underlying93 rfl (by kernel_rfl)) rfl ?_
 exact ⟨_, _, st, _, rfl, HT_85.out.far hp2 (fun q => by have h1 := HSX.out; have h2 : t = rb := q; omega) (fun k q e => by have h1 := HFK.out k q; have h2 : k = rb := e; have h3 := HSrb.out; omega), fun k q => Nat.lt_of_lt_of_le (FS_86.out k q) hp2.size, (SV_92.out.far hp2 (fun k q e => by have h1 := HSX.out; have h2 : k = rb := e; have h3 := HVK.out k q; have h4 := HSrb.out; omega)).mono (fun k q => (HVK2.out k q)), HD.out, CH_84.out.trans hp2 (fun i hi q => by have h1 := HSX.out; have h2 : i = rb := q; omega)⟩
end Go.Proofs.Ythfdjccdelbeeaa.PT
end
section
namespace Go.Proofs.Ythfdjccdelbeeaa.PT
open Go.RowKit Go.Proofs.YthfdjccdelbeeaaW.PrintWords Go.Proofs.YthfdjccdelbeeaaW.PrintLast Go.Proofs.YthfdjccdelbeeaaW.PrintMore Go.Proofs.Ythfdjccdelbeeaa.Opn
set_option linter.unusedVariables false
set_option linter.unusedSimpArgs false
theorem do_any (w0 w : World) (base t : Nat) (F ok : Nat → Prop) (lots st : Int) (H : List Hd) (v : Value) (x : S80) (A : Option Addr) (c : Nat) (hB0 : Below w0.heap.size w0 w) (ht0 : w0.heap.size ≤ t) (hT : TN base F w t lots st H) (hbase : base ≤ w.heap.size) (hF : ∀ k, F k → k < w.heap.size) (hS : SV w ok v lots st H) (hok : ∀ k, ok k → k ≠ t) (hD : DI lots st H) (hC : Kd.C k50 w0 A x.f2.length x.f2) (hc : x.f2.length ≤ c) (hx : ok80 x) (hl : x.f2.length ≤ 20) :
  Calls Try.prog 44 #[.pointer (some ⟨t, 0, none⟩), v, .agg #[.int .u8 x.f0, .int .i64 x.f1, .slice A x.f2.length c, .int .u64 x.f3, .bool x.f4]] w (DoP base t ok lots w) := by
 have h0 := wf_u8 hx.1
 have hs := wf_u64 hx.2.2.2.1
 obtain ⟨f0, f1, f2, f3, f4⟩ := x
 obtain ⟨kn, rfl⟩ : ∃ kn : Nat, f0 = (kn : Int) := ⟨f0.toNat, by simp only at h0; omega⟩
 have hkn : kn < 256 := by simp only at h0; omega
 have h6 : kn % 6 = 0 ∨ kn % 6 = 1 ∨ kn % 6 = 2 ∨ kn % 6 = 3 ∨ kn % 6 = 4 ∨ kn % 6 = 5 := by omega
 rcases h6 with h | h | h | h | h | h
 ·
  exact do_sub0 w0 w base t F ok lots st H v kn f1 A c f2 f3 f4 hB0 ht0 hT hbase hF hS hok hD hC hc hs hl hkn h
 ·
  exact do_sub1 w0 w base t F ok lots st H v kn f1 A c f2 f3 f4 hB0 ht0 hT hbase hF hS hok hD hC hc hs hl hkn h
 ·
  exact do_shut w0 w base t F ok lots st H v kn f1 A c f2 f3 f4 hB0 ht0 hT hbase hF hS hok hD hC hc hs hl hkn h
 ·
  exact do_show3 w0 w base t F ok lots st H v kn f1 A c f2 f3 f4 hB0 ht0 hT hbase hF hS hok hD hC hc hs hl hkn h
 ·
  exact do_show4 w0 w base t F ok lots st H v kn f1 A c f2 f3 f4 hB0 ht0 hT hbase hF hS hok hD hC hc hs hl hkn h
 ·
  by_cases e : st = 1
  ·
   exact do_close1 w0 w base t F ok lots st H v kn f1 A c f2 f3 f4 hB0 ht0 hT hbase hF hS hok hD hC hc hs hl hkn h e
  ·
   exact do_close0 w0 w base t F ok lots st H v kn f1 A c f2 f3 f4 hB0 ht0 hT hbase hF hS hok hD hC hc hs hl hkn h e
theorem ev_short_l (l : List S80) : ∀ (d i : Nat), i + d = 40 → ∀ n : Int, ∃ r, Ev (fun k => kimberlitelaw05_short.l0 k l n (i : Int)) r ∧ (r = true → l.length ≤ 40 ∧ ∀ j : Nat, i ≤ j → j < l.length → (rd_T80 l (j : Int)).f2.length ≤ 20)
 | d, i, h, n => by
  by_cases c : i < l.length
  ·
   by_cases e : i ≥ 40
   ·
    refine ⟨false, Ev.step (f := fun k => kimberlitelaw05_short.j1 k l n (i : Int) true) (fun k => ?_) (Ev.here fun k => ?_), fun q => by cases q⟩
    ·
     simp only [kimberlitelaw05_short.l0]
     rw [if_pos (by omega), if_pos (by omega)]
    ·
     simp only [kimberlitelaw05_short.j1]
     rw [if_pos trivial]
   ·
    by_cases g : (rd_T80 l (i : Int)).f2.length > 20
    ·
     refine ⟨false, Ev.step (f := fun k => kimberlitelaw05_short.j1 k l n (i : Int) true) (fun k => ?_) (Ev.here fun k => ?_), fun q => by cases q⟩
     ·
      simp only [kimberlitelaw05_short.l0]
      rw [if_pos (by omega), if_neg (by omega), if_pos (by omega), decide_eq_true (by omega)]
     ·
      simp only [kimberlitelaw05_short.j1]
      rw [if_pos trivial]
    ·
     match d, h with
     | 0, h => omega
     | d + 1, h =>
      have st : ∀ n', ∃ r, Ev (fun k => kimberlitelaw05_short.l0 k l n' (wrap64 ((i : Int) + 1))) r ∧ (r = true → l.length ≤ 40 ∧ ∀ j : Nat, i ≤ j → j < l.length → (rd_T80 l (j : Int)).f2.length ≤ 20) := fun n' => by
       obtain ⟨r, h1, h2⟩ := ev_short_l l d (i + 1) (by omega) n'
       refine ⟨r, by rw [w64 i (by omega)]; exact h1, fun q => ⟨(h2 q).1, fun j hj hl => ?_⟩⟩
       by_cases z : j = i
       ·
        subst z; omega
       ·
        exact (h2 q).2 j (by omega) hl
      have fin : ∀ n', (∀ k, kimberlitelaw05_short.j1 (k + 1) l n (i : Int) false = kimberlitelaw05_short.l0 k l n' (wrap64 ((i : Int) + 1))) → ∃ r, Ev (fun k => kimberlitelaw05_short.l0 k l n (i : Int)) r ∧ (r = true → l.length ≤ 40 ∧ ∀ j : Nat, i ≤ j → j < l.length → (rd_T80 l (j : Int)).f2.length ≤ 20) := fun n' hn => by
       obtain ⟨r, h1, h2⟩ := st n'
       refine ⟨r, Ev.step (f := fun k => kimberlitelaw05_short.j1 k l n (i : Int) false) (fun k => ?_) (Ev.step hn h1), h2⟩
       simp only [kimberlitelaw05_short.l0]
       rw [if_pos (by omega), if_neg (by omega), if_pos (by omega), decide_eq_false (by omega)]
      by_cases m3 : Int.tmod ((rd_T80 l (i : Int)).f0) 6 = 3
      ·
       refine fin (wrap64 (n + (((rd_T80 l (i : Int)).f2).length : Int))) (fun k => ?_)
       simp only [kimberlitelaw05_short.j1]
       rw [if_neg (by decide), if_pos (by omega), if_pos (by omega), if_pos m3]
      ·
       by_cases m4 : Int.tmod ((rd_T80 l (i : Int)).f0) 6 = 4
       ·
        refine fin (wrap64 (n + (((rd_T80 l (i : Int)).f2).length : Int))) (fun k => ?_)
        simp only [kimberlitelaw05_short.j1]
        rw [if_neg (by decide), if_pos (by omega), if_pos (by omega), if_neg m3, if_pos m4]
       ·
        refine fin n (fun k => ?_)
        simp only [kimberlitelaw05_short.j1]
        rw [if_neg (by decide), if_pos (by omega), if_pos (by omega), if_neg m3, if_neg m4]
  ·
   refine ⟨decide (n ≤ 11), Ev.here fun k => ?_, fun _ => ⟨by omega, fun j hj hl => by omega⟩⟩
   simp only [kimberlitelaw05_short.l0]
   rw [if_neg (by omega)]
termination_by d => d
theorem ev_short (l : List S80) : ∃ r k, kimberlitelaw05_short.f k l = some r ∧ (r = true → l.length ≤ 40 ∧ ∀ j : Nat, j < l.length → (rd_T80 l (j : Int)).f2.length ≤ 20) := by
 obtain ⟨r, ⟨k, h1⟩, h2⟩ := ev_short_l l 40 0 rfl 0
 exact ⟨r, k, h1 k (Nat.le_refl _), fun q => ⟨(h2 q).1, fun j hj => (h2 q).2 j (Nat.zero_le _) hj⟩⟩
theorem same_i (w : World) (A B : Option Addr) (ca cb : Nat) (xs : List Int) (hl : xs.length < 1000000) (hA : Kd.C (Kd.int .i64) w A xs.length xs) (ha : xs.length ≤ ca) (hB : Kd.C (Kd.int .i64) w B xs.length xs) (hb : xs.length ≤ cb) : Calls Try.prog 22 #[.slice A xs.length ca, .slice B xs.length cb] w fun e w' => e = .returned (.bool true) ∧ Below w.heap.size w w' := by
 obtain ⟨k, hk⟩ := ev_same xs xs hl
 have h := hk k (Nat.le_refl _)
 simp only [beq_self_eq_true] at h
 refine (kimberlitelaw05_same.calls k A ca xs B cb xs true w hA ha hB hb h).mono ?_
 rintro e w' ⟨rfl, nd, hq⟩
 have hb' := Zbn (Below.refl w.heap.size w) nd
 rw [← hq] at hb'
 exact ⟨rfl, hb'⟩
theorem State_i {base t : Nat} {F : Nat → Prop} {w : World} {lots st : Int} {H : List Hd} (h : TN base F w t lots st H) (hl : 1 ≤ lots) : Calls Try.prog 40 #[.pointer (some ⟨t, 0, none⟩)] w fun e w' => e = .returned (.int .i64 st) ∧ w = w' := by
 have := State_t base t F w lots st H h
 rwa [show stS lots st = st by unfold stS; rw [if_neg (by omega)]] at this
theorem TN.far93 {base t g : Nat} {F : Nat → Prop} {w W : World} {lots st : Int} {H : List Hd} {cs : Array Value} (h : TN base F w t lots st H) (hg : w.heap[g]? = some (.cells cs 93)) (hc : Chg (fun k => k = g) w W) : TN base F W t lots st H :=
 ⟨hc.blk h.blk (fun e => by
  have e' : t = g := e
  have hb := h.blk
  rw [e', hg] at hb
  injection hb with hb
  injection hb with _ hb
  cases hb), h.len, fun x hx => Kd.R_mono (Kd.R_step (Kd.R_types (h.rows x hx) hg (by decide)) (fun k q hk => hc.block k hk q.2)) (fun k q => q.1), h.nF⟩
theorem DI.new {lots : Int} (h1 : 1 ≤ lots) (h2 : lots ≤ 12) : DI lots 0 (List.replicate 8 hd0) := by
 refine ⟨h1, h2, rfl, fun x hx => ?_, fun x hx _ => ?_, fun _ x hx => ?_, fun o ho => ?_, by decide⟩
 ·
  obtain rfl := List.eq_of_mem_replicate hx; decide
 ·
  obtain rfl := List.eq_of_mem_replicate hx; rfl
 ·
  obtain rfl := List.eq_of_mem_replicate hx; rfl
 ·
  exact absurd ho (by simp [List.replicate, List.flatMap, hd0])
theorem misN_few {H : List Hd} : (misN H 8).length < 1000000 := by have := misN_len H 8; omega
end Go.Proofs.Ythfdjccdelbeeaa.PT
end
