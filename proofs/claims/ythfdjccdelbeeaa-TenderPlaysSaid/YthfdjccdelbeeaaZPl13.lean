/-
  The texts that the theorem in YthfdjccdelbeeaaZRowPl rests on, merged (part 14); only what it reaches.
-/
import Derived.Test.YthfdjccdelbeeaaZPl2
import Derived.Test.YthfdjccdelbeeaaZPl12
section
namespace Go.Proofs.Ythfdjccdelbeeaa.PT
open Go.RowKit Go.Proofs.YthfdjccdelbeeaaW.PrintWords Go.Proofs.YthfdjccdelbeeaaW.PrintLast Go.Proofs.YthfdjccdelbeeaaW.PrintMore Go.Proofs.Ythfdjccdelbeeaa.Opn
set_option linter.unusedVariables false
set_option linter.unusedSimpArgs false
theorem New_sb (w : World) (lots : Int) (h : lots < 1 ∨ 12 < lots) : Calls Try.prog 43 #[.int .i64 lots] w fun e w' => ∃ A2 A3 A4 A5 c2 c3 c4 c5, e = .returned (.tuple #[.agg #[.int .i64 0, .int .i64 0, .slice A2 0 c2, .slice A3 0 c3, .slice A4 0 c4, .slice A5 0 c5], .int .i64 2]) ∧ Below w.heap.size w w' := by
 refine (kimberliteref05_New.calls lots _ _ _ _ _ _ _ w (New_bad h)).mono ?_
 rintro e w' ⟨v2, v3, v4, v5, rfl, g2, g3, g4, g5, hb⟩
 obtain ⟨A2, c2, rfl⟩ := Kd.R_slice g2
 obtain ⟨A3, c3, rfl⟩ := Kd.R_slice g3
 obtain ⟨A4, c4, rfl⟩ := Kd.R_slice g4
 obtain ⟨A5, c5, rfl⟩ := Kd.R_slice (Kd.S_R g5)
 exact ⟨A2, A3, A4, A5, c2, c3, c4, c5, rfl, hb⟩
theorem newC_bad {lots : Int} (h : newC lots ≠ 0) : lots < 1 ∨ 12 < lots := by unfold newC at h; split at h; assumption; exact absurd rfl h
theorem newC_ok {lots : Int} (h : newC lots = 0) : 1 ≤ lots ∧ lots ≤ 12 := by unfold newC at h; split at h; cases h; omega
set_option maxHeartbeats 12800000 in
set_option maxRecDepth 100000 in
theorem kimberlitelaw05_TenderPlays.calls (k : Nat) (lots : Int) (A1 : Option Addr) (c1 : Nat) (l1 : List S80) (A2 : Option Addr) (c2 : Nat) (l2 : List S80) (w : World) (hr1 : Kd.C k80 w A1 l1.length l1) (hc1 : l1.length ≤ c1) (hr2 : Kd.C k80 w A2 l2.length l2) (hc2 : l2.length ≤ c2) (h : kimberlitelaw05_TenderPlays.ok lots l1 l2) : Calls Try.prog 13 #[.int .i64 lots, .slice A1 l1.length c1, .slice A2 l2.length c2] w fun e w' => e = .returned (.bool true) ∧ Below w.heap.size w w' := by
 have hu93 := Try.underlying93
 have hu80 := Try.underlying80
 have hu88 := Try.underlying88
 have hu62 := Try.underlying62
 have HA := lhid hr1
 have HAC := lhid hc1
 have HM := lhid hr2
 have HMC := lhid hc2
 have HOK := lhid h
 obtain ⟨r1, k1, hk1, hs1⟩ := ev_short l1
 obtain ⟨r2, k2, hk2, hs2⟩ := ev_short l2
 have HK1 := lhid hk1
 have HK2 := lhid hk2
 have HS1 := lhid hs1
 have HS2 := lhid hs2
 clear hr1 hc1 hr2 hc2 h hk1 hk2 hs1 hs2
 go_enter Try.func13, Try.ntmps13
 have HB_1 := lhid (Below.refl w.heap.size w)
 go_wp2_with fail
 with_reducible refine (kimberlitelaw05_short.calls k1 A1 c1 l1 r1 w (Kd.C_below HA.out HB_1.out) HAC.out HK1.out).mono ?_
 rintro e w1 ⟨rfl, nd, hq⟩
 have hb := Zbn (Below.refl w.heap.size w) nd
 rw [← hq] at hb
 clear hq
 have HB_2 := lhid (below_then HB_1.out HB_1.out.size hb)
 clear HB_1 hb
 cases r1
 ·
  go_wp2_with fail
  try any_goals (exfalso; omega)
  with_reducible refine (alive_calls w1).mono ?_
  rintro e w702 ⟨rfl, hb⟩
  have HB_3 := lhid (below_then HB_2.out HB_2.out.size hb)
  clear HB_2 hb
  go_wp2_with fail
  go_ret
  exact ⟨rfl, HB_3.out⟩
 go_wp2_with fail
 with_reducible refine (kimberlitelaw05_short.calls k2 A2 c2 l2 r2 w1 (Kd.C_below HM.out HB_2.out) HMC.out HK2.out).mono ?_
 rintro e w2 ⟨rfl, nd, hq⟩
 have hb := Zbn (Below.refl w1.heap.size w1) nd
 rw [← hq] at hb
 clear hq
 have HB_4 := lhid (below_then HB_2.out HB_2.out.size hb)
 clear HB_2 hb
 cases r2
 ·
  go_wp2_with fail
  try any_goals (exfalso; omega)
  with_reducible refine (alive_calls w2).mono ?_
  rintro e w703 ⟨rfl, hb⟩
  have HB_5 := lhid (below_then HB_4.out HB_4.out.size hb)
  clear HB_4 hb
  go_wp2_with fail
  go_ret
  exact ⟨rfl, HB_5.out⟩
 have HS3 := lhid (HS1.out (by first | trivial | rfl))
 have HS4 := lhid (HS2.out (by first | trivial | rfl))
 clear HS1 HS2 HK1 HK2
 clear k1 k2
 go_wp2_with fail
 try any_goals (exfalso; omega)
 have hN := New_t w2 lots
 with_reducible refine hN.mono ?_
 clear hN
 rintro e w10 ho
 have HBX := lhid (show Below w.heap.size w w2 from HB_4.out)
 rcases ho with ⟨h1, rfl, hb⟩ | ⟨hn0, rfl, ht, hb⟩
 ·
  have HB_6 := lhid (below_then HB_4.out HB_4.out.size hb)
  clear HB_4 hb
  have HBAD := lhid (newC_bad h1)
  clear h1
  go_wp2_with fail
  try any_goals (exfalso; omega)
  with_reducible refine (New_sb w10 lots HBAD.out).mono ?_
  rintro e w11 ⟨B2, B3, B4, B5, k2, k3, k4, k5, rfl, hb⟩
  have HB_7 := lhid (below_then HB_6.out HB_6.out.size hb)
  clear HB_6 hb
  go_upto_region 5 with (fail)
  try any_goals (exfalso; omega)
  have hb := Zba (Below.refl w11.heap.size w11) (.cells #[.int .i64 0, .int .i64 0, .slice B2 0 k2, .slice B3 0 k3, .slice B4 0 k4, .slice B5 0 k5] 93)
  have hn := blk_new w11 (.cells #[.int .i64 0, .int .i64 0, .slice B2 0 k2, .slice B3 0 k3, .slice B4 0 k4, .slice B5 0 k5] 93)
  have HZ12 := lhid (show (World.alloc w11 (.cells #[.int .i64 0, .int .i64 0, .slice B2 0 k2, .slice B3 0 k3, .slice B4 0 k4, .slice B5 0 k5] 93)).heap.size = w11.heap.size + 1 from by simp)
  generalize hq : World.alloc w11 (.cells #[.int .i64 0, .int .i64 0, .slice B2 0 k2, .slice B3 0 k3, .slice B4 0 k4, .slice B5 0 k5] 93) = w12 at hb hn HZ12 ⊢
  clear hq
  have HB_8 := lhid (below_then HB_7.out HB_7.out.size hb)
  clear HB_7 hb
  clear hn
  go_upto_region 9 with (fail)
  try any_goals (exfalso; omega)
  go_loopw [11, 12] (fun b i wr => b = .bool true ∧ i = .int .i64 0 ∧ Hid (Below w.heap.size w wr)) (fun _ _ _ => 0)
  case atStart => exact ⟨rfl, rfl, HB_8⟩
  case round =>
   clear HB_8
   obtain ⟨rfl, rfl, HBr⟩ := hrel
   have hll : (0 : Int) < (l1.length : Int) ∨ ¬ (0 : Int) < (l1.length : Int) := Classical.em _
   rcases hll with hll | hll
   ·
    go_wp2_with fail
    try any_goals (exfalso; omega)
    with_reducible refine (alive_calls wr).mono ?_
    rintro e w721 ⟨rfl, hb⟩
    have HB_9 := lhid (below_then HBr.out HBr.out.size hb)
    clear HBr hb
    go_wp2_with fail
    go_ret
    exact ⟨rfl, HB_9.out⟩
   ·
    go_wp2_with fail
    try any_goals (exfalso; omega)
    with_reducible refine (alive_calls wr).mono ?_
    rintro e w721 ⟨rfl, hb⟩
    have HB_10 := lhid (below_then HBr.out HBr.out.size hb)
    clear HBr hb
    go_wp2_with fail
    go_ret
    exact ⟨rfl, HB_10.out⟩
 have HT0 := lhid ht
 have HL := lhid (newC_ok hn0)
 have HBT := lhid (show w.heap.size ≤ w2.heap.size from HBX.out.size)
 clear hn0 ht
 have HB_11 := lhid (below_then HB_4.out HB_4.out.size hb)
 clear HB_4 hb
 obtain ⟨t, htt⟩ : ∃ q, q = w2.heap.size := ⟨_, rfl⟩
 rw [← htt] at HT0 ⊢
 have HTT := lhid (show w.heap.size ≤ t by rw [htt]; exact HBT.out)
 clear htt
 go_wp2_with fail
 try any_goals (exfalso; omega)
 have HTW := lhid HT0.out.lt
 with_reducible refine (New_s w10 lots HL.out.1 HL.out.2).mono ?_
 rintro e w30 ⟨v, rfl, hS, hb⟩
 have hS := hS.mono (ok' := fun k => k ≠ t) (fun k q e => by have h1 := HTW.out; omega)
 have hS := hS.bound
 have HV := lhid hS
 obtain ⟨B2, B3, B4, B5, Bc2, Bc3, Bc4, Bc5, rfl, hq⟩ := hS
 clear hq
 have HB_12 := lhid (below_then HB_11.out HB_11.out.size hb)
 have HT_13 := lhid (HT0.out.next hb)
 clear HB_11 HT0 hb
 go_upto_region 5 with (fail)
 try any_goals (exfalso; omega)
 have HTL := lhid HT_13.out.lt
 have HWB := lhid HB_12.out.size
 have hb := Zba (Below.refl w30.heap.size w30) (.cells #[.int .i64 lots, .int .i64 0, .slice B2 8 Bc2, .slice B3 8 Bc3, .slice B4 8 Bc4, .slice B5 8 Bc5] 93)
 have hn := blk_new w30 (.cells #[.int .i64 lots, .int .i64 0, .slice B2 8 Bc2, .slice B3 8 Bc3, .slice B4 8 Bc4, .slice B5 8 Bc5] 93)
 have HZ31 := lhid (show (World.alloc w30 (.cells #[.int .i64 lots, .int .i64 0, .slice B2 8 Bc2, .slice B3 8 Bc3, .slice B4 8 Bc4, .slice B5 8 Bc5] 93)).heap.size = w30.heap.size + 1 from by simp)
 generalize hq : World.alloc w30 (.cells #[.int .i64 lots, .int .i64 0, .slice B2 8 Bc2, .slice B3 8 Bc3, .slice B4 8 Bc4, .slice B5 8 Bc5] 93) = w31 at hb hn HZ31 ⊢
 clear hq
 have HB_14 := lhid (below_then HB_12.out HB_12.out.size hb)
 have HT_15 := lhid (HT_13.out.next hb)
 have SV_16 := lhid (HV.out.next hb)
 clear HB_12 HT_13 HV hb
 have XB_17 := lhid (hn)
 clear hn
 obtain ⟨xb, hxb⟩ : ∃ q, q = w30.heap.size := ⟨_, rfl⟩
 rw [← hxb] at XB_17 ⊢
 have HXN := lhid hxb
 have HXB := lhid (show t < xb ∧ w.heap.size ≤ xb from ⟨by rw [hxb]; exact HTL.out, by rw [hxb]; exact HWB.out⟩)
 clear hxb
 have HDI := lhid (DI.new HL.out.1 HL.out.2)
 have HFS := lhid (show ∀ k : Nat, False → k < w31.heap.size from fun k q => q.elim)
 have HVX := lhid (SV_16.out.mono (ok' := fun k => k ≠ t ∧ k ≠ xb) (fun k q => ⟨q.1, by have h1 := HXN.out; have h2 := q.2; omega⟩))
 clear SV_16
 go_upto_region 9 with (fail)
 try any_goals (exfalso; omega)
 go_loopw [11, 12] (fun b i wr => b = .bool true ∧ ∃ n : Nat, n ≤ l1.length ∧ i = .int .i64 n ∧ ∃ (F : Nat → Prop) (st : Int) (H : List Hd) (B2 B3 B4 B5 : Option Addr) (Bc2 Bc3 Bc4 Bc5 : Nat), Hid (TN t F wr t lots st H) ∧ Hid (∀ k, F k → k < wr.heap.size) ∧ Hid (SV wr (fun k => k ≠ t ∧ k ≠ xb) (.agg #[.int .i64 lots, .int .i64 st, .slice B2 8 Bc2, .slice B3 8 Bc3, .slice B4 8 Bc4, .slice B5 8 Bc5]) lots st H) ∧ Hid (wr.heap[xb]? = some (.cells #[.int .i64 lots, .int .i64 st, .slice B2 8 Bc2, .slice B3 8 Bc3, .slice B4 8 Bc4, .slice B5 8 Bc5] 93)) ∧ Hid (DI lots st H) ∧ Hid (Below w.heap.size w wr)) (fun _ i _ => l1.length - (intOf i).toNat)
 case atStart => exact ⟨rfl, 0, Nat.zero_le _, rfl, fun _ => False, 0, List.replicate 8 hd0, B2, B3, B4, B5, Bc2, Bc3, Bc4, Bc5, HT_15, HFS, HVX, XB_17, HDI, HB_14⟩
 case round =>
  clear HDI HB_14 HT_15 HVX XB_17 HFS
  obtain ⟨rfl, n, hn, rfl, F, st, H, B2, B3, B4, B5, Bc2, Bc3, Bc4, Bc5, HTr, FSr, SVr, XBr, HDr, HBr⟩ := hrel
  by_cases hlt : n < l1.length
  ·
   have hll : l1.length ≤ 40 := HS3.out.1
   have hlt2 : (n : Int) < (l1.length : Int) := by omega
   have hn0 : (0 : Int) ≤ (n : Int) := by omega
   go_upto_region 11 with (fail)
   try any_goals (exfalso; omega)
   obtain ⟨ad, E, e, eA, y0, y1, y2, y3, y4, hle, hCE⟩ := at_T80 HA.out (n : Int) hn0 hlt2
   cases eA
   have HXK := lhid (show ok80 (rd_T80 l1 (n : Int)) from by rw [show rd_T80 l1 (n : Int) = l1[n] by simp [rd_T80, hlt]]; exact HOK.out.2.1.2 _ (List.getElem_mem hlt))
   have HXL := lhid (HS3.out.2 n hlt)
   obtain ⟨x, hx⟩ : ∃ x, x = rd_T80 l1 (n : Int) := ⟨_, rfl⟩
   rw [← hx] at y0 y1 y2 y3 y4 hle hCE HXK HXL
   have HLE := lhid hle
   have HCE := lhid hCE
   simp only [Int.toNat_natCast] at y0 y1 y2 y3 y4
   clear hx hle hCE
   have hb := Zbd (Below.refl wr.heap.size wr)
   have HT_18 := lhid (HTr.out.next hb)
   have FS_19 := lhid (fun k q => Nat.lt_of_lt_of_le (FSr.out k q) (hb).size)
   have SV_20 := lhid (SVr.out.next hb)
   have XB_21 := lhid (blk_below XBr.out hb)
   have HB_22 := lhid (below_then HBr.out HBr.out.size hb)
   clear HTr FSr SVr XBr HBr hb
   refine start_ (n := 12) (S := fun w' => w'.cell? ⟨xb, 0, none⟩ = some (.int .i64 lots) ∧ w'.cell? ⟨xb, 1, none⟩ = some (.int .i64 st) ∧ w'.cell? ⟨xb, 2, none⟩ = some (.slice B2 8 Bc2) ∧ w'.cell? ⟨xb, 3, none⟩ = some (.slice B3 8 Bc3) ∧ w'.cell? ⟨xb, 4, none⟩ = some (.slice B4 8 Bc4) ∧ w'.cell? ⟨xb, 5, none⟩ = some (.slice B5 8 Bc5) ∧ w'.cell? (ad.add (n * 5)) = some (.int .u8 x.f0) ∧ w'.cell? ⟨(ad.add (n * 5)).block, (ad.add (n * 5)).off + 1, none⟩ = some (.int .i64 x.f1) ∧ w'.cell? ⟨(ad.add (n * 5)).block, (ad.add (n * 5)).off + 2, none⟩ = some (.slice E x.f2.length e) ∧ w'.cell? ⟨(ad.add (n * 5)).block, (ad.add (n * 5)).off + 3, none⟩ = some (.int .u64 x.f3) ∧ w'.cell? ⟨(ad.add (n * 5)).block, (ad.add (n * 5)).off + 4, none⟩ = some (.bool x.f4)) (ds := [10]) (lsb 12 0) (by kernel_rfl) rfl (by kernel_rfl) ⟨(six XB_21.out).1, (six XB_21.out).2.1, (six XB_21.out).2.2.1, (six XB_21.out).2.2.2.1, (six XB_21.out).2.2.2.2.1, (six XB_21.out).2.2.2.2.2, (pw_cell_below HB_22.out y0), (pw_cell_below HB_22.out y1), (pw_cell_below HB_22.out y2), (pw_cell_below HB_22.out y3), (pw_cell_below HB_22.out y4)⟩ (fun hHeld => ?_)
   generalize wr.drew = w61 at HT_18 FS_19 SV_20 XB_21 HB_22 hHeld ⊢
   refine pu 0 (some 59) 12 1 rfl rfl (v := ?_) (a' := ?_) ?_ ?_ ?_; rotate_left; (intro w'; go_simp; with_reducible rfl); rotate_left; (simp only [Act.put, pS]; rfl)
   refine pu 2 (some 61) 12 5 rfl rfl (v := ?_) (a' := ?_) ?_ ?_ ?_; rotate_left; (intro w'; go_simp; with_reducible rfl); rotate_left; (simp only [Act.put, pS]; rfl)
   refine pu 3 (some 62) 12 13 rfl rfl (v := ?_) (a' := ?_) ?_ ?_ ?_; rotate_left; (intro w'; go_simp; with_reducible rfl); rotate_left; (simp only [Act.put, pS]; rfl)
   refine pu 4 (some 63) 12 29 rfl rfl (v := ?_) (a' := ?_) ?_ ?_ ?_; rotate_left; (intro w'; go_simp; with_reducible rfl); rotate_left; (simp only [Act.put, pS]; rfl)
   refine tk 1 (some 60) 12 31 rfl rfl hHeld (v := ?_) (a' := ?_) ?_ ?_ ?_; rotate_left; (rintro w' ⟨s0, s1, s2, s3, s4, s5, s6, s7, s8, s9, s10⟩; go_simp; with_reducible rfl); rotate_left; (simp only [Act.put, pS]; rfl)
   refine tk 5 (some 64) 12 63 rfl rfl hHeld (v := ?_) (a' := ?_) ?_ ?_ ?_; rotate_left; (rintro w' ⟨s0, s1, s2, s3, s4, s5, s6, s7, s8, s9, s10⟩; go_simp; with_reducible rfl); rotate_left; (simp only [Act.put, pS]; rfl)
   refine one_ (i := 6) (N := some 65) (lsb 12 127) rfl rfl (by kernel_rfl) (by decide) (fun K hK => ?_)
   refine goes_ Try.func44 (by kernel_rfl) rfl #[.pointer (some ⟨t, 0, none⟩), .agg #[.int .i64 lots, .int .i64 st, .slice B2 8 Bc2, .slice B3 8 Bc3, .slice B4 8 Bc4, .slice B5 8 Bc5], .agg #[.int .u8 x.f0, .int .i64 x.f1, .slice E x.f2.length e, .int .u64 x.f3, .bool x.f4]] (by rfl) rfl rfl (by (try simp only [List.map_toArray, List.map_cons, List.map_nil]); first | done | rfl) ?_
   with_reducible refine (do_any w w61 t t F (fun k => k ≠ t ∧ k ≠ xb) lots st H (.agg #[.int .i64 lots, .int .i64 st, .slice B2 8 Bc2, .slice B3 8 Bc3, .slice B4 8 Bc4, .slice B5 8 Bc5]) x E e HB_22.out HTT.out HT_18.out (Nat.le_of_lt HT_18.out.lt) FS_19.out SV_20.out (fun k q => q.1) HDr.out HCE.out HLE.out HXK.out HXL.out).mono ?_
   rintro e w62 ⟨v', F', st', H', rfl, hT, hF, hS, hD, hCh⟩
   refine ⟨_, rfl, ?_⟩
   have HVn := lhid (hS.mono (ok' := fun k => k ≠ t ∧ k ≠ xb) (fun k q => q.elim id (fun z => ⟨by have h1 := HT_18.out.lt; omega, by have h1 := blk_lt XB_21.out; omega⟩)))
   have hS := HVn.out
   obtain ⟨C2, C3, C4, C5, Cc2, Cc3, Cc4, Cc5, rfl, hq⟩ := hS
   clear hq
   have HTn := lhid hT
   have HFn := lhid hF
   have HDn := lhid hD
   have HBn := lhid (HB_22.out.trans (hCh.below HB_22.out.size (fun k q => by rw [show k = t from q]; exact HTT.out)))
   have XBn := lhid (hCh.blk XB_21.out (fun q => by have h1 := HXB.out; have h2 : xb = t := q; omega))
   clear hT hF hD hCh
   clear HDr HT_18 FS_19 SV_20 XB_21 HB_22
   refine hK.out _ _ ⟨(six XBn.out).1, (six XBn.out).2.1, (six XBn.out).2.2.1, (six XBn.out).2.2.2.1, (six XBn.out).2.2.2.2.1, (six XBn.out).2.2.2.2.2, (pw_cell_below HBn.out y0), (pw_cell_below HBn.out y1), (pw_cell_below HBn.out y2), (pw_cell_below HBn.out y3), (pw_cell_below HBn.out y4)⟩ (fun hHeld => ?_)
   clear hK K
   refine norm_ (a' := ?_) ?_ ?_
   rotate_left
   ·
    show Act.put _ (some 65) _ = _
    simp only [Act.put, pS]
    rfl
   refine pu 7 (some 58) 12 255 rfl rfl (v := ?_) (a' := ?_) ?_ ?_ ?_; rotate_left; (intro w'; go_simp; with_reducible rfl); rotate_left; (simp only [Act.put, pS]; rfl)
   refine pu 8 (some 66) 12 511 rfl rfl (v := ?_) (a' := ?_) ?_ ?_ ?_; rotate_left; (intro w'; go_simp; with_reducible rfl); rotate_left; (simp only [Act.put, pS]; rfl)
   refine pu 9 (some 67) 12 1023 rfl rfl (v := ?_) (a' := ?_) ?_ ?_ ?_; rotate_left; (intro w'; go_simp; with_reducible rfl); rotate_left; (simp only [Act.put, pS]; rfl)
   refine last_ (i := 10) (N := none) (lsb 12 2047) rfl rfl (by kernel_rfl) (by decide) (fun K hK => ?_)
   obtain ⟨r0, r1, r2, r3, r4, r5⟩ := six XBn.out
   have hfz := fun o => blk_frozen XBn.out o
   refine skip_ (w1 := ?_) (by rfl) rfl ?_ ?_
   rotate_left
   ·
    go_simp
    rfl
   clear r0 r1 r2 r3 r4 r5 hfz
   have hp := put6 XBn.out (.int .i64 lots) (.int .i64 st') (.slice C2 8 Cc2) (.slice C3 8 Cc3) (.slice C4 8 Cc4) (.slice C5 8 Cc5)
   generalize World.setCell (World.setCell (World.setCell (World.setCell (World.setCell (World.setCell (w62) ⟨xb, 0, none⟩ (.int .i64 lots)) ⟨xb, 1, none⟩ (.int .i64 st')) ⟨xb, 2, none⟩ (.slice C2 8 Cc2)) ⟨xb, 3, none⟩ (.slice C3 8 Cc3)) ⟨xb, 4, none⟩ (.slice C4 8 Cc4)) ⟨xb, 5, none⟩ (.slice C5 8 Cc5) = wx at hp ⊢
   obtain ⟨hp1, hp2⟩ := hp
   have HTx := lhid (HTn.out.far93 XBn.out hp2)
   have FSx := lhid (fun k q => Nat.lt_of_lt_of_le (HFn.out k q) hp2.size)
   have SVx := lhid (HVn.out.far hp2 (fun k q e => q.2 e))
   have HBx := lhid (HBn.out.trans (hp2.below HBn.out.size (fun k q => by have h1 := HXB.out; have h2 : k = xb := q; omega)))
   have XBx := lhid hp1
   clear hp1 hp2 HTn HFn HVn XBn HBn
   refine hK.out _ _ ?_
   clear hK K
   refine pu 11 (some 11) 12 4095 rfl rfl (v := ?_) (a' := ?_) ?_ ?_ ?_; rotate_left; (intro w'; go_simp; with_reducible rfl); rotate_left; (simp only [Act.put, pS]; rfl)
   refine done_ (by kernel_rfl) ?_
   
   clear y0 y1 y2 y3 y4
   go_upto_region 12 with (fail)
   try any_goals (exfalso; omega)
   have hb := Zbd (Below.refl wx.heap.size wx)
   have HT_23 := lhid (HTx.out.next hb)
   have FS_24 := lhid (fun k q => Nat.lt_of_lt_of_le (FSx.out k q) (hb).size)
   have SV_25 := lhid (SVx.out.next hb)
   have XB_26 := lhid (blk_below XBx.out hb)
   have HB_27 := lhid (below_then HBx.out HBx.out.size hb)
   clear HTx FSx SVx XBx HBx hb
   refine start_ (n := 16) (S := fun w' => w'.cell? ⟨xb, 0, none⟩ = some (.int .i64 lots) ∧ w'.cell? ⟨xb, 1, none⟩ = some (.int .i64 st') ∧ w'.cell? ⟨xb, 2, none⟩ = some (.slice C2 8 Cc2) ∧ w'.cell? ⟨xb, 3, none⟩ = some (.slice C3 8 Cc3) ∧ w'.cell? ⟨xb, 4, none⟩ = some (.slice C4 8 Cc4) ∧ w'.cell? ⟨xb, 5, none⟩ = some (.slice C5 8 Cc5)) (ds := []) (lsb 16 0) (by kernel_rfl) rfl (by kernel_rfl) ⟨(six XB_26.out).1, (six XB_26.out).2.1, (six XB_26.out).2.2.1, (six XB_26.out).2.2.2.1, (six XB_26.out).2.2.2.2.1, (six XB_26.out).2.2.2.2.2⟩ (fun hHeld => ?_)
   generalize wx.drew = w81 at HT_23 FS_24 SV_25 XB_26 HB_27 hHeld ⊢
   refine pu 0 (some 68) 16 1 rfl rfl (v := ?_) (a' := ?_) ?_ ?_ ?_; rotate_left; (intro w'; go_simp; with_reducible rfl); rotate_left; (simp only [Act.put, pS]; rfl)
   refine pu 1 (some 69) 16 3 rfl rfl (v := ?_) (a' := ?_) ?_ ?_ ?_; rotate_left; (intro w'; go_simp; with_reducible rfl); rotate_left; (simp only [Act.put, pS]; rfl)
   refine pu 2 (some 70) 16 7 rfl rfl (v := ?_) (a' := ?_) ?_ ?_ ?_; rotate_left; (intro w'; go_simp; with_reducible rfl); rotate_left; (simp only [Act.put, pS]; rfl)
   refine pu 4 (some 72) 16 23 rfl rfl (v := ?_) (a' := ?_) ?_ ?_ ?_; rotate_left; (intro w'; go_simp; with_reducible rfl); rotate_left; (simp only [Act.put, pS]; rfl)
   refine tk 5 (some 73) 16 55 rfl rfl hHeld (v := ?_) (a' := ?_) ?_ ?_ ?_; rotate_left; (rintro w' ⟨s0, s1, s2, s3, s4, s5⟩; go_simp; with_reducible rfl); rotate_left; (simp only [Act.put, pS]; rfl)
   refine one_ (i := 3) (N := some 71) (lsb 16 63) rfl rfl (by kernel_rfl) (by decide) (fun K hK => ?_)
   refine goes_ Try.func40 (by kernel_rfl) rfl #[.pointer (some ⟨t, 0, none⟩)] (by rfl) rfl rfl (by (try simp only [List.map_toArray, List.map_cons, List.map_nil]); first | done | rfl) ?_
   with_reducible refine (State_i HT_23.out HL.out.1).mono ?_
   rintro e wsame ⟨rfl, rfl⟩
   refine ⟨_, rfl, ?_⟩
   refine hK.out _ _ ⟨(six XB_26.out).1, (six XB_26.out).2.1, (six XB_26.out).2.2.1, (six XB_26.out).2.2.2.1, (six XB_26.out).2.2.2.2.1, (six XB_26.out).2.2.2.2.2⟩ (fun hHeld => ?_)
   clear hK K
   refine norm_ (a' := ?_) ?_ ?_
   rotate_left
   ·
    show Act.put _ (some 71) _ = _
    simp only [Act.put, pS]
    rfl
   refine pu 6 (some 74) 16 127 rfl rfl (v := ?_) (a' := ?_) ?_ ?_ ?_; rotate_left; (intro w'; go_simp; with_reducible rfl); rotate_left; (simp only [Act.put, pS]; rfl)
   refine pu 7 (some 75) 16 255 rfl rfl (v := ?_) (a' := ?_) ?_ ?_ ?_; rotate_left; (intro w'; go_simp; with_reducible rfl); rotate_left; (simp only [Act.put, pS]; rfl)
   refine pu 8 (some 76) 16 511 rfl rfl (v := ?_) (a' := ?_) ?_ ?_ ?_; rotate_left; (intro w'; go_simp; with_reducible rfl); rotate_left; (simp only [Act.put, pS]; rfl)
   refine pu 9 (some 77) 16 1023 rfl rfl (v := ?_) (a' := ?_) ?_ ?_ ?_; rotate_left; (intro w'; go_simp; with_reducible rfl); rotate_left; (simp only [Act.put, pS]; rfl)
   refine tk 11 (some 79) 16 3071 rfl rfl hHeld (v := ?_) (a' := ?_) ?_ ?_ ?_; rotate_left; (rintro w' ⟨s0, s1, s2, s3, s4, s5⟩; go_simp; with_reducible rfl); rotate_left; (simp only [Act.put, pS]; rfl)
   refine one_ (i := 10) (N := some 78) (lsb 16 4095) rfl rfl (by kernel_rfl) (by decide) (fun K hK => ?_)
   refine goes_ Try.func39 (by kernel_rfl) rfl #[.pointer (some ⟨t, 0, none⟩)] (by rfl) rfl rfl (by (try simp only [List.map_toArray, List.map_cons, List.map_nil]); first | done | rfl) ?_
   with_reducible refine (Missing_t t t F' w81 lots st' H' HT_23.out).mono ?_
   rintro e w82 ⟨vm, rfl, hR, hb⟩
   refine ⟨_, rfl, ?_⟩
   have HR1 := lhid hR
   obtain ⟨P1, p1, rfl⟩ := Kd.R_slice hR
   clear hR
   have HT_28 := lhid (HT_23.out.next hb)
   have FS_29 := lhid (fun k q => Nat.lt_of_lt_of_le (FS_24.out k q) (hb).size)
   have SV_30 := lhid (SV_25.out.next hb)
   have XB_31 := lhid (blk_below XB_26.out hb)
   have HB_32 := lhid (below_then HB_27.out HB_27.out.size hb)
   clear HT_23 FS_24 SV_25 XB_26 HB_27 hb
   refine hK.out _ _ ⟨(six XB_31.out).1, (six XB_31.out).2.1, (six XB_31.out).2.2.1, (six XB_31.out).2.2.2.1, (six XB_31.out).2.2.2.2.1, (six XB_31.out).2.2.2.2.2⟩ (fun hHeld => ?_)
   clear hK K
   refine norm_ (a' := ?_) ?_ ?_
   rotate_left
   ·
    show Act.put _ (some 78) _ = _
    simp only [Act.put, pS]
    rfl
   refine one_ (i := 12) (N := some 80) (lsb 16 8191) rfl rfl (by kernel_rfl) (by decide) (fun K hK => ?_)
   refine goes_ Try.func45 (by kernel_rfl) rfl #[.agg #[.int .i64 lots, .int .i64 st', .slice C2 8 Cc2, .slice C3 8 Cc3, .slice C4 8 Cc4, .slice C5 8 Cc5]] (by rfl) rfl rfl (by (try simp only [List.map_toArray, List.map_cons, List.map_nil]); first | done | rfl) ?_
   with_reducible refine (Missing_s SV_30.out HDn.out.len).mono ?_
   rintro e w83 ⟨vm, rfl, hR, hb⟩
   refine ⟨_, rfl, ?_⟩
   have HR2 := lhid hR
   obtain ⟨P2, p2, rfl⟩ := Kd.R_slice hR
   clear hR
   have HT_33 := lhid (HT_28.out.next hb)
   have FS_34 := lhid (fun k q => Nat.lt_of_lt_of_le (FS_29.out k q) (hb).size)
   have SV_35 := lhid (SV_30.out.next hb)
   have XB_36 := lhid (blk_below XB_31.out hb)
   have HB_37 := lhid (below_then HB_32.out HB_32.out.size hb)
   have R1_38 := lhid (Kd.R_below HR1.out hb)
   clear HT_28 FS_29 SV_30 XB_31 HB_32 HR1 hb
   refine hK.out _ _ ⟨(six XB_36.out).1, (six XB_36.out).2.1, (six XB_36.out).2.2.1, (six XB_36.out).2.2.2.1, (six XB_36.out).2.2.2.2.1, (six XB_36.out).2.2.2.2.2⟩ (fun hHeld => ?_)
   clear hK K
   refine norm_ (a' := ?_) ?_ ?_
   rotate_left
   ·
    show Act.put _ (some 80) _ = _
    simp only [Act.put, pS]
    rfl
   refine one_ (i := 13) (N := some 81) (lsb 16 16383) rfl rfl (by kernel_rfl) (by decide) (fun K hK => ?_)
   refine goes_ Try.func22 (by kernel_rfl) rfl #[.slice P1 (misN H' 8).length p1, .slice P2 (misN H' 8).length p2] (by rfl) rfl rfl (by (try simp only [List.map_toArray, List.map_cons, List.map_nil]); first | done | rfl) ?_
   with_reducible refine (same_i w83 P1 P2 p1 p2 (misN H' 8) misN_few (Kd.R_reads' R1_38.out).2.2 (Kd.R_reads' R1_38.out).2.1 (Kd.R_reads' HR2.out).2.2 (Kd.R_reads' HR2.out).2.1).mono ?_
   rintro e w84 ⟨rfl, hb⟩
   refine ⟨_, rfl, ?_⟩
   have HT_39 := lhid (HT_33.out.next hb)
   have FS_40 := lhid (fun k q => Nat.lt_of_lt_of_le (FS_34.out k q) (hb).size)
   have SV_41 := lhid (SV_35.out.next hb)
   have XB_42 := lhid (blk_below XB_36.out hb)
   have HB_43 := lhid (below_then HB_37.out HB_37.out.size hb)
   have R1_44 := lhid (Kd.R_below R1_38.out hb)
   have R2_45 := lhid (Kd.R_below HR2.out hb)
   clear HT_33 FS_34 SV_35 XB_36 HB_37 R1_38 HR2 hb
   refine hK.out _ _ ⟨(six XB_42.out).1, (six XB_42.out).2.1, (six XB_42.out).2.2.1, (six XB_42.out).2.2.2.1, (six XB_42.out).2.2.2.2.1, (six XB_42.out).2.2.2.2.2⟩ (fun hHeld => ?_)
   clear hK K
   refine norm_ (a' := ?_) ?_ ?_
   rotate_left
   ·
    show Act.put _ (some 81) _ = _
    simp only [Act.put, pS]
    rfl
   refine pu 14 (some 82) 16 32767 rfl rfl (v := ?_) (a' := ?_) ?_ ?_ ?_; rotate_left; (intro w'; go_simp; with_reducible rfl); rotate_left; (simp only [Act.put, pS]; rfl)
   refine pu 15 (some 11) 16 65535 rfl rfl (v := ?_) (a' := ?_) ?_ ?_ ?_; rotate_left; (intro w'; go_simp; with_reducible rfl); rotate_left; (simp only [Act.put, pS]; rfl)
   refine done_ (by kernel_rfl) ?_
   
   go_wp2_with fail
   go_roundw
   case rel => exact ⟨rfl, n + 1, by omega, by simp, F', st', H', C2, C3, C4, C5, Cc2, Cc3, Cc4, Cc5, HT_39, FS_40, SV_41, XB_42, HDn, HB_43⟩
   case measure => simp [intOf]; omega
  have hne : n = l1.length := by omega
  subst hne
  clear hlt hn
  obtain ⟨N, hN⟩ : ∃ N, N = wr.heap.size := ⟨_, rfl⟩
  have HFC := lhid (show ∀ k, F k → k < N from fun k q => by rw [hN]; exact FSr.out k q)
  have HNN := lhid hN
  have HSR := lhid (show SV wr (fun k => (k ≠ t ∧ k ≠ xb) ∧ k < N) (.agg #[.int .i64 lots, .int .i64 st, .slice B2 8 Bc2, .slice B3 8 Bc3, .slice B4 8 Bc4, .slice B5 8 Bc5]) lots st H from by rw [hN]; exact SVr.out.bound)
  have HXL := lhid (show xb < N by rw [hN]; exact blk_lt XBr.out)
  have HTL2 := lhid (show t < N by rw [hN]; exact HTr.out.lt)
  clear hN SVr FSr
  go_upto_region 15 with (fail)
  try any_goals (exfalso; omega)
  go_wp2_with fail
  try any_goals (exfalso; omega)
  with_reducible refine (Copy_t t t F wr lots st H HTr.out (by have h1 := HL.out.1; omega) (fun z => by have h1 := HFC.out _ z; have h2 := HNN.out; omega)).mono ?_
  rintro e w90 ⟨c, rfl, hcc, hT1, hT2, hb⟩
  have HTa := lhid hT1
  have HCa := lhid hT2
  have HCN := lhid (show N ≤ c by rw [HNN.out]; exact hcc)
  clear hT1 hT2 hcc
  clear HTr
  have XB_46 := lhid (blk_below XBr.out hb)
  have HB_47 := lhid (below_then HBr.out HBr.out.size hb)
  have SR_48 := lhid (HSR.out.next hb)
  clear XBr HBr HSR hb
  obtain ⟨n0, n1, n2, n3, n4, n5⟩ := six XB_46.out
  go_upto_region 20 with (fail)
  try any_goals (exfalso; omega)
  clear n0 n1 n2 n3 n4 n5
  have HCL := lhid HCa.out.lt
  have hb := Zba (Below.refl w90.heap.size w90) (.cells #[.int .i64 lots, .int .i64 st, .slice B2 8 Bc2, .slice B3 8 Bc3, .slice B4 8 Bc4, .slice B5 8 Bc5] 93)
  have hn := blk_new w90 (.cells #[.int .i64 lots, .int .i64 st, .slice B2 8 Bc2, .slice B3 8 Bc3, .slice B4 8 Bc4, .slice B5 8 Bc5] 93)
  have HZ91 := lhid (show (World.alloc w90 (.cells #[.int .i64 lots, .int .i64 st, .slice B2 8 Bc2, .slice B3 8 Bc3, .slice B4 8 Bc4, .slice B5 8 Bc5] 93)).heap.size = w90.heap.size + 1 from by simp)
  generalize hq : World.alloc w90 (.cells #[.int .i64 lots, .int .i64 st, .slice B2 8 Bc2, .slice B3 8 Bc3, .slice B4 8 Bc4, .slice B5 8 Bc5] 93) = w91 at hb hn HZ91 ⊢
  clear hq
  have XB_49 := lhid (blk_below XB_46.out hb)
  have HB_50 := lhid (below_then HB_47.out HB_47.out.size hb)
  have SR_51 := lhid (SR_48.out.next hb)
  have HT_52 := lhid (HTa.out.next hb)
  have HC_53 := lhid (HCa.out.next hb)
  clear XB_46 HB_47 SR_48 HTa HCa hb
  have SB_54 := lhid (hn)
  clear hn
  obtain ⟨sb, hsb⟩ : ∃ q, q = w90.heap.size := ⟨_, rfl⟩
  rw [← hsb] at SB_54 ⊢
  have HSBC := lhid (show c < sb by rw [hsb]; exact HCL.out)
  clear hsb HCL
  have HSS := lhid (SR_51.out.mono (ok' := fun k => k ≠ c ∧ k ≠ sb) (fun k q => by have h1 := HCN.out; have h2 := HSBC.out; have h3 := q.2; omega))
  have HFS2 := lhid (show ∀ k, F k → k < w91.heap.size from fun k q => by have h1 := HFC.out k q; have h2 := HT_52.out.lt; have h3 := HCN.out; have h4 := HC_53.out.lt; omega)
  go_loopw [11, 15] (fun b i wr => b = .bool true ∧ ∃ n : Nat, n ≤ l2.length ∧ i = .int .i64 n ∧ ∃ (G : Nat → Prop) (s2 : Int) (H2 : List Hd) (D2 D3 D4 D5 : Option Addr) (Dc2 Dc3 Dc4 Dc5 : Nat), Hid (TN t G wr c lots s2 H2) ∧ Hid (∀ k, G k → k < wr.heap.size) ∧ Hid (SV wr (fun k => k ≠ c ∧ k ≠ sb) (.agg #[.int .i64 lots, .int .i64 s2, .slice D2 8 Dc2, .slice D3 8 Dc3, .slice D4 8 Dc4, .slice D5 8 Dc5]) lots s2 H2) ∧ Hid (wr.heap[sb]? = some (.cells #[.int .i64 lots, .int .i64 s2, .slice D2 8 Dc2, .slice D3 8 Dc3, .slice D4 8 Dc4, .slice D5 8 Dc5] 93)) ∧ Hid (DI lots s2 H2) ∧ Hid (TN t F wr t lots st H) ∧ Hid (SV wr (fun k => (k ≠ t ∧ k ≠ xb) ∧ k < N) (.agg #[.int .i64 lots, .int .i64 st, .slice B2 8 Bc2, .slice B3 8 Bc3, .slice B4 8 Bc4, .slice B5 8 Bc5]) lots st H) ∧ Hid (wr.heap[xb]? = some (.cells #[.int .i64 lots, .int .i64 st, .slice B2 8 Bc2, .slice B3 8 Bc3, .slice B4 8 Bc4, .slice B5 8 Bc5] 93)) ∧ Hid (Below w.heap.size w wr)) (fun _ i _ => l2.length - (intOf i).toNat)
  case atStart => exact ⟨rfl, 0, Nat.zero_le _, rfl, F, st, H, B2, B3, B4, B5, Bc2, Bc3, Bc4, Bc5, HC_53, HFS2, HSS, SB_54, HDr, HT_52, SR_51, XB_49, HB_50⟩
  case round =>
   clear HSS HFS2 XB_49 HB_50 SR_51 HT_52 HC_53 SB_54
   obtain ⟨rfl, n, hn, rfl, G, s2, H2, D2, D3, D4, D5, Dc2, Dc3, Dc4, Dc5, HCr, FSr, SVr, SBr, HDr2, HTr, SRr, XBr, HBr⟩ := hrel
   by_cases hlt : n < l2.length
   ·
    have hll : l2.length ≤ 40 := HS4.out.1
    have hlt2 : (n : Int) < (l2.length : Int) := by omega
    have hn0 : (0 : Int) ≤ (n : Int) := by omega
    obtain ⟨L, hL⟩ : ∃ L, L = H.flatMap (·.off) := ⟨_, rfl⟩
    have HLL := lhid hL
    clear hL
    obtain ⟨n0, n1, n2, n3, n4, n5⟩ := six XBr.out
    go_wp2_with fail
    try any_goals (exfalso; omega)
    with_reducible refine (All_l SRr.out HDr.out.len HDr.out.few HLL.out).mono ?_
    rintro e w121 ⟨vo, rfl, hO, hb⟩
    have HC_55 := lhid (HCr.out.next hb)
    have FS_56 := lhid (fun k q => Nat.lt_of_lt_of_le (FSr.out k q) (hb).size)
    have SV_57 := lhid (SVr.out.next hb)
    have SB_58 := lhid (blk_below SBr.out hb)
    have HT_59 := lhid (HTr.out.next hb)
    have SR_60 := lhid (SRr.out.next hb)
    have XB_61 := lhid (blk_below XBr.out hb)
    have HB_62 := lhid (below_then HBr.out HBr.out.size hb)
    clear HCr FSr SVr SBr HTr SRr XBr HBr hb
    obtain ⟨Ao, co, rfl⟩ := Kd.R_slice hO
    clear hO n0 n1 n2 n3 n4 n5
    by_cases hl2 : L.length ≤ 2
    ·
     have hl3 : (L.length : Int) ≤ 2 := by omega
     go_upto_region 22 with (fail)
     try any_goals (exfalso; omega)
     clear hl2 hl3
     obtain ⟨ad, E, e, eA, y0, y1, y2, y3, y4, hle, hCE⟩ := at_T80 HM.out (n : Int) hn0 hlt2
     cases eA
     have HXK := lhid (show ok80 (rd_T80 l2 (n : Int)) from by rw [show rd_T80 l2 (n : Int) = l2[n] by simp [rd_T80, hlt]]; exact HOK.out.2.2.1.2 _ (List.getElem_mem hlt))
     have HXL2 := lhid (HS4.out.2 n hlt)
     obtain ⟨x, hx⟩ : ∃ x, x = rd_T80 l2 (n : Int) := ⟨_, rfl⟩
     rw [← hx] at y0 y1 y2 y3 y4 hle hCE HXK HXL2
     have HLE := lhid hle
     have HCE := lhid hCE
     simp only [Int.toNat_natCast] at y0 y1 y2 y3 y4
     clear hx hle hCE
     have hb := Zbd (Below.refl w121.heap.size w121)
     have HC_63 := lhid (HC_55.out.next hb)
     have FS_64 := lhid (fun k q => Nat.lt_of_lt_of_le (FS_56.out k q) (hb).size)
     have SV_65 := lhid (SV_57.out.next hb)
     have SB_66 := lhid (blk_below SB_58.out hb)
     have HT_67 := lhid (HT_59.out.next hb)
     have SR_68 := lhid (SR_60.out.next hb)
     have XB_69 := lhid (blk_below XB_61.out hb)
     have HB_70 := lhid (below_then HB_62.out HB_62.out.size hb)
     clear HC_55 FS_56 SV_57 SB_58 HT_59 SR_60 XB_61 HB_62 hb
     refine start_ (n := 12) (S := fun w' => w'.cell? ⟨sb, 0, none⟩ = some (.int .i64 lots) ∧ w'.cell? ⟨sb, 1, none⟩ = some (.int .i64 s2) ∧ w'.cell? ⟨sb, 2, none⟩ = some (.slice D2 8 Dc2) ∧ w'.cell? ⟨sb, 3, none⟩ = some (.slice D3 8 Dc3) ∧ w'.cell? ⟨sb, 4, none⟩ = some (.slice D4 8 Dc4) ∧ w'.cell? ⟨sb, 5, none⟩ = some (.slice D5 8 Dc5) ∧ w'.cell? (ad.add (n * 5)) = some (.int .u8 x.f0) ∧ w'.cell? ⟨(ad.add (n * 5)).block, (ad.add (n * 5)).off + 1, none⟩ = some (.int .i64 x.f1) ∧ w'.cell? ⟨(ad.add (n * 5)).block, (ad.add (n * 5)).off + 2, none⟩ = some (.slice E x.f2.length e) ∧ w'.cell? ⟨(ad.add (n * 5)).block, (ad.add (n * 5)).off + 3, none⟩ = some (.int .u64 x.f3) ∧ w'.cell? ⟨(ad.add (n * 5)).block, (ad.add (n * 5)).off + 4, none⟩ = some (.bool x.f4)) (ds := [10]) (lsb 12 0) (by kernel_rfl) rfl (by kernel_rfl) ⟨(six SB_66.out).1, (six SB_66.out).2.1, (six SB_66.out).2.2.1, (six SB_66.out).2.2.2.1, (six SB_66.out).2.2.2.2.1, (six SB_66.out).2.2.2.2.2, (pw_cell_below HB_70.out y0), (pw_cell_below HB_70.out y1), (pw_cell_below HB_70.out y2), (pw_cell_below HB_70.out y3), (pw_cell_below HB_70.out y4)⟩ (fun hHeld => ?_)
     generalize w121.drew = w122 at HC_63 FS_64 SV_65 SB_66 HT_67 SR_68 XB_69 HB_70 hHeld ⊢
     refine pu 0 (some 114) 12 1 rfl rfl (v := ?_) (a' := ?_) ?_ ?_ ?_; rotate_left; (intro w'; go_simp; with_reducible rfl); rotate_left; (simp only [Act.put, pS]; rfl)
     refine pu 2 (some 116) 12 5 rfl rfl (v := ?_) (a' := ?_) ?_ ?_ ?_; rotate_left; (intro w'; go_simp; with_reducible rfl); rotate_left; (simp only [Act.put, pS]; rfl)
     refine pu 3 (some 117) 12 13 rfl rfl (v := ?_) (a' := ?_) ?_ ?_ ?_; rotate_left; (intro w'; go_simp; with_reducible rfl); rotate_left; (simp only [Act.put, pS]; rfl)
     refine pu 4 (some 118) 12 29 rfl rfl (v := ?_) (a' := ?_) ?_ ?_ ?_; rotate_left; (intro w'; go_simp; with_reducible rfl); rotate_left; (simp only [Act.put, pS]; rfl)
     refine tk 1 (some 115) 12 31 rfl rfl hHeld (v := ?_) (a' := ?_) ?_ ?_ ?_; rotate_left; (rintro w' ⟨s0, s1, s2, s3, s4, s5, s6, s7, s8, s9, s10⟩; go_simp; with_reducible rfl); rotate_left; (simp only [Act.put, pS]; rfl)
     refine tk 5 (some 119) 12 63 rfl rfl hHeld (v := ?_) (a' := ?_) ?_ ?_ ?_; rotate_left; (rintro w' ⟨s0, s1, s2, s3, s4, s5, s6, s7, s8, s9, s10⟩; go_simp; with_reducible rfl); rotate_left; (simp only [Act.put, pS]; rfl)
     refine one_ (i := 6) (N := some 120) (lsb 12 127) rfl rfl (by kernel_rfl) (by decide) (fun K hK => ?_)
     refine goes_ Try.func44 (by kernel_rfl) rfl #[.pointer (some ⟨c, 0, none⟩), .agg #[.int .i64 lots, .int .i64 s2, .slice D2 8 Dc2, .slice D3 8 Dc3, .slice D4 8 Dc4, .slice D5 8 Dc5], .agg #[.int .u8 x.f0, .int .i64 x.f1, .slice E x.f2.length e, .int .u64 x.f3, .bool x.f4]] (by rfl) rfl rfl (by (try simp only [List.map_toArray, List.map_cons, List.map_nil]); first | done | rfl) ?_
     with_reducible refine (do_any w w122 t c G (fun k => k ≠ c ∧ k ≠ sb) lots s2 H2 (.agg #[.int .i64 lots, .int .i64 s2, .slice D2 8 Dc2, .slice D3 8 Dc3, .slice D4 8 Dc4, .slice D5 8 Dc5]) x E e HB_70.out (by have h1 := HXB.out; have h2 := HXL.out; have h3 := HCN.out; omega) HC_63.out (Nat.le_of_lt HT_67.out.lt) FS_64.out SV_65.out (fun k q => q.1) HDr2.out HCE.out HLE.out HXK.out HXL2.out).mono ?_
     rintro e w123 ⟨v', F', st', H', rfl, hT, hF, hS, hD, hCh⟩
     refine ⟨_, rfl, ?_⟩
     have HVn := lhid (hS.mono (ok' := fun k => k ≠ c ∧ k ≠ sb) (fun k q => q.elim id (fun z => ⟨by have h1 := HC_63.out.lt; omega, by have h1 := blk_lt SB_66.out; omega⟩)))
     have hS := HVn.out
     obtain ⟨C2, C3, C4, C5, Cc2, Cc3, Cc4, Cc5, rfl, hq⟩ := hS
     clear hq
     have HCn := lhid hT
     have HFn := lhid hF
     have HDn := lhid hD
     have HBn := lhid (HB_70.out.trans (hCh.below HB_70.out.size (fun k q => by have h0 : k = c := q; have h1 := HXB.out; have h2 := HXL.out; have h3 := HCN.out; omega)))
     have SBn := lhid (hCh.blk SB_66.out (fun q => by have h1 := HSBC.out; have h2 : sb = c := q; omega))
     have XBn := lhid (hCh.blk XB_69.out (fun q => by have h1 := HXL.out; have h2 : xb = c := q; have h3 := HCN.out; omega))
     have HTn := lhid (HT_67.out.far hCh (fun q => by have h1 := HTL2.out; have h2 : t = c := q; have h3 := HCN.out; omega) (fun k q e => by have h1 := HFC.out k q; have h2 : k = c := e; have h3 := HCN.out; omega))
     have SRn := lhid (SR_68.out.far hCh (fun k q e => by have h1 := q.2; have h2 : k = c := e; have h3 := HCN.out; omega))
     clear hT hF hD hCh
     clear HDr2 HC_63 FS_64 SV_65 SB_66 HT_67 SR_68 XB_69 HB_70
     refine hK.out _ _ ⟨(six SBn.out).1, (six SBn.out).2.1, (six SBn.out).2.2.1, (six SBn.out).2.2.2.1, (six SBn.out).2.2.2.2.1, (six SBn.out).2.2.2.2.2, (pw_cell_below HBn.out y0), (pw_cell_below HBn.out y1), (pw_cell_below HBn.out y2), (pw_cell_below HBn.out y3), (pw_cell_below HBn.out y4)⟩ (fun hHeld => ?_)
     clear hK K
     refine norm_ (a' := ?_) ?_ ?_
     rotate_left
     ·
      show Act.put _ (some 120) _ = _
      simp only [Act.put, pS]
      rfl
     refine pu 7 (some 113) 12 255 rfl rfl (v := ?_) (a' := ?_) ?_ ?_ ?_; rotate_left; (intro w'; go_simp; with_reducible rfl); rotate_left; (simp only [Act.put, pS]; rfl)
     refine pu 8 (some 121) 12 511 rfl rfl (v := ?_) (a' := ?_) ?_ ?_ ?_; rotate_left; (intro w'; go_simp; with_reducible rfl); rotate_left; (simp only [Act.put, pS]; rfl)
     refine pu 9 (some 122) 12 1023 rfl rfl (v := ?_) (a' := ?_) ?_ ?_ ?_; rotate_left; (intro w'; go_simp; with_reducible rfl); rotate_left; (simp only [Act.put, pS]; rfl)
     refine last_ (i := 10) (N := none) (lsb 12 2047) rfl rfl (by kernel_rfl) (by decide) (fun K hK => ?_)
     obtain ⟨r0, r1, r2, r3, r4, r5⟩ := six SBn.out
     have hfz := fun o => blk_frozen SBn.out o
     refine skip_ (w1 := ?_) (by rfl) rfl ?_ ?_
     rotate_left
     ·
      go_simp
      rfl
     clear r0 r1 r2 r3 r4 r5 hfz
     have hp := put6 SBn.out (.int .i64 lots) (.int .i64 st') (.slice C2 8 Cc2) (.slice C3 8 Cc3) (.slice C4 8 Cc4) (.slice C5 8 Cc5)
     generalize World.setCell (World.setCell (World.setCell (World.setCell (World.setCell (World.setCell (w123) ⟨sb, 0, none⟩ (.int .i64 lots)) ⟨sb, 1, none⟩ (.int .i64 st')) ⟨sb, 2, none⟩ (.slice C2 8 Cc2)) ⟨sb, 3, none⟩ (.slice C3 8 Cc3)) ⟨sb, 4, none⟩ (.slice C4 8 Cc4)) ⟨sb, 5, none⟩ (.slice C5 8 Cc5) = wx at hp ⊢
     obtain ⟨hp1, hp2⟩ := hp
     have HCx := lhid (HCn.out.far93 SBn.out hp2)
     have HTx := lhid (HTn.out.far93 SBn.out hp2)
     have FSx := lhid (fun k q => Nat.lt_of_lt_of_le (HFn.out k q) hp2.size)
     have SVx := lhid (HVn.out.far hp2 (fun k q e => q.2 e))
     have SRx := lhid (SRn.out.far hp2 (fun k q e => by have h1 := q.2; have h2 : k = sb := e; have h3 := HCN.out; have h4 := HSBC.out; omega))
     have HBx := lhid (HBn.out.trans (hp2.below HBn.out.size (fun k q => by have h0 : k = sb := q; have h1 := HXB.out; have h2 := HXL.out; have h3 := HCN.out; have h4 := HSBC.out; omega)))
     have SBx := lhid hp1
     have XBx := lhid (hp2.blk XBn.out (fun q => by have h1 := HXL.out; have h2 : xb = sb := q; have h3 := HCN.out; have h4 := HSBC.out; omega))
     clear hp1 hp2 HCn HFn HVn SBn HTn SRn XBn HBn
     refine hK.out _ _ ?_
     clear hK K
     refine pu 11 (some 11) 12 4095 rfl rfl (v := ?_) (a' := ?_) ?_ ?_ ?_; rotate_left; (intro w'; go_simp; with_reducible rfl); rotate_left; (simp only [Act.put, pS]; rfl)
     refine done_ (by kernel_rfl) ?_
     
     clear y0 y1 y2 y3 y4
     go_wp2_with fail
     go_roundw
     case rel => exact ⟨rfl, n + 1, by omega, by simp, F', st', H', C2, C3, C4, C5, Cc2, Cc3, Cc4, Cc5, HCx, FSx, SVx, SBx, HDn, HTx, SRx, XBx, HBx⟩
     case measure => simp [intOf]; omega
    ·
     have hl3 : ¬ (L.length : Int) ≤ 2 := by omega
     go_upto_region 23 with (fail)
     try any_goals (exfalso; omega)
     clear hl2 hl3
     have hb := Zbd (Below.refl w121.heap.size w121)
     have HC_71 := lhid (HC_55.out.next hb)
     have FS_72 := lhid (fun k q => Nat.lt_of_lt_of_le (FS_56.out k q) (hb).size)
     have SV_73 := lhid (SV_57.out.next hb)
     have SB_74 := lhid (blk_below SB_58.out hb)
     have HT_75 := lhid (HT_59.out.next hb)
     have SR_76 := lhid (SR_60.out.next hb)
     have XB_77 := lhid (blk_below XB_61.out hb)
     have HB_78 := lhid (below_then HB_62.out HB_62.out.size hb)
     clear HC_55 FS_56 SV_57 SB_58 HT_59 SR_60 XB_61 HB_62 hb
     refine start_ (n := 33) (S := fun w' => w'.cell? ⟨sb, 0, none⟩ = some (.int .i64 lots) ∧ w'.cell? ⟨sb, 1, none⟩ = some (.int .i64 s2) ∧ w'.cell? ⟨sb, 2, none⟩ = some (.slice D2 8 Dc2) ∧ w'.cell? ⟨sb, 3, none⟩ = some (.slice D3 8 Dc3) ∧ w'.cell? ⟨sb, 4, none⟩ = some (.slice D4 8 Dc4) ∧ w'.cell? ⟨sb, 5, none⟩ = some (.slice D5 8 Dc5) ∧ w'.cell? ⟨xb, 0, none⟩ = some (.int .i64 lots) ∧ w'.cell? ⟨xb, 1, none⟩ = some (.int .i64 st) ∧ w'.cell? ⟨xb, 2, none⟩ = some (.slice B2 8 Bc2) ∧ w'.cell? ⟨xb, 3, none⟩ = some (.slice B3 8 Bc3) ∧ w'.cell? ⟨xb, 4, none⟩ = some (.slice B4 8 Bc4) ∧ w'.cell? ⟨xb, 5, none⟩ = some (.slice B5 8 Bc5)) (ds := []) (lsb 33 0) (by kernel_rfl) rfl (by kernel_rfl) ⟨(six SB_74.out).1, (six SB_74.out).2.1, (six SB_74.out).2.2.1, (six SB_74.out).2.2.2.1, (six SB_74.out).2.2.2.2.1, (six SB_74.out).2.2.2.2.2, (six XB_77.out).1, (six XB_77.out).2.1, (six XB_77.out).2.2.1, (six XB_77.out).2.2.2.1, (six XB_77.out).2.2.2.2.1, (six XB_77.out).2.2.2.2.2⟩ (fun hHeld => ?_)
     generalize w121.drew = w122 at HC_71 FS_72 SV_73 SB_74 HT_75 SR_76 XB_77 HB_78 hHeld ⊢
     refine pu 0 (some 123) 33 1 rfl rfl (v := ?_) (a' := ?_) ?_ ?_ ?_; rotate_left; (intro w'; go_simp; with_reducible rfl); rotate_left; (simp only [Act.put, pS]; rfl)
     refine pu 1 (some 124) 33 3 rfl rfl (v := ?_) (a' := ?_) ?_ ?_ ?_; rotate_left; (intro w'; go_simp; with_reducible rfl); rotate_left; (simp only [Act.put, pS]; rfl)
     refine pu 2 (some 125) 33 7 rfl rfl (v := ?_) (a' := ?_) ?_ ?_ ?_; rotate_left; (intro w'; go_simp; with_reducible rfl); rotate_left; (simp only [Act.put, pS]; rfl)
     refine pu 4 (some 127) 33 23 rfl rfl (v := ?_) (a' := ?_) ?_ ?_ ?_; rotate_left; (intro w'; go_simp; with_reducible rfl); rotate_left; (simp only [Act.put, pS]; rfl)
     refine tk 5 (some 128) 33 55 rfl rfl hHeld (v := ?_) (a' := ?_) ?_ ?_ ?_; rotate_left; (rintro w' ⟨s0, s1, s2, s3, s4, s5, s6, s7, s8, s9, s10, s11⟩; go_simp; with_reducible rfl); rotate_left; (simp only [Act.put, pS]; rfl)
     refine one_ (i := 3) (N := some 126) (lsb 33 63) rfl rfl (by kernel_rfl) (by decide) (fun K hK => ?_)
     refine goes_ Try.func40 (by kernel_rfl) rfl #[.pointer (some ⟨c, 0, none⟩)] (by rfl) rfl rfl (by (try simp only [List.map_toArray, List.map_cons, List.map_nil]); first | done | rfl) ?_
     with_reducible refine (State_i HC_71.out HL.out.1).mono ?_
     rintro e wsame ⟨rfl, rfl⟩
     refine ⟨_, rfl, ?_⟩
     refine hK.out _ _ ⟨(six SB_74.out).1, (six SB_74.out).2.1, (six SB_74.out).2.2.1, (six SB_74.out).2.2.2.1, (six SB_74.out).2.2.2.2.1, (six SB_74.out).2.2.2.2.2, (six XB_77.out).1, (six XB_77.out).2.1, (six XB_77.out).2.2.1, (six XB_77.out).2.2.2.1, (six XB_77.out).2.2.2.2.1, (six XB_77.out).2.2.2.2.2⟩ (fun hHeld => ?_)
     clear hK K
     refine norm_ (a' := ?_) ?_ ?_
     rotate_left
     ·
      show Act.put _ (some 126) _ = _
      simp only [Act.put, pS]
      rfl
     refine pu 6 (some 129) 33 127 rfl rfl (v := ?_) (a' := ?_) ?_ ?_ ?_; rotate_left; (intro w'; go_simp; with_reducible rfl); rotate_left; (simp only [Act.put, pS]; rfl)
     refine pu 7 (some 130) 33 255 rfl rfl (v := ?_) (a' := ?_) ?_ ?_ ?_; rotate_left; (intro w'; go_simp; with_reducible rfl); rotate_left; (simp only [Act.put, pS]; rfl)
     refine pu 8 (some 131) 33 511 rfl rfl (v := ?_) (a' := ?_) ?_ ?_ ?_; rotate_left; (intro w'; go_simp; with_reducible rfl); rotate_left; (simp only [Act.put, pS]; rfl)
     refine pu 9 (some 132) 33 1023 rfl rfl (v := ?_) (a' := ?_) ?_ ?_ ?_; rotate_left; (intro w'; go_simp; with_reducible rfl); rotate_left; (simp only [Act.put, pS]; rfl)
     refine tk 11 (some 134) 33 3071 rfl rfl hHeld (v := ?_) (a' := ?_) ?_ ?_ ?_; rotate_left; (rintro w' ⟨s0, s1, s2, s3, s4, s5, s6, s7, s8, s9, s10, s11⟩; go_simp; with_reducible rfl); rotate_left; (simp only [Act.put, pS]; rfl)
     refine one_ (i := 10) (N := some 133) (lsb 33 4095) rfl rfl (by kernel_rfl) (by decide) (fun K hK => ?_)
     refine goes_ Try.func39 (by kernel_rfl) rfl #[.pointer (some ⟨c, 0, none⟩)] (by rfl) rfl rfl (by (try simp only [List.map_toArray, List.map_cons, List.map_nil]); first | done | rfl) ?_
     with_reducible refine (Missing_t t c G w122 lots s2 H2 HC_71.out).mono ?_
     rintro e w123 ⟨vm, rfl, hR, hb⟩
     refine ⟨_, rfl, ?_⟩
     have HQ1 := lhid hR
     obtain ⟨P1, p1, rfl⟩ := Kd.R_slice hR
     clear hR
     have HC_79 := lhid (HC_71.out.next hb)
     have FS_80 := lhid (fun k q => Nat.lt_of_lt_of_le (FS_72.out k q) (hb).size)
     have SV_81 := lhid (SV_73.out.next hb)
     have SB_82 := lhid (blk_below SB_74.out hb)
     have HT_83 := lhid (HT_75.out.next hb)
     have SR_84 := lhid (SR_76.out.next hb)
     have XB_85 := lhid (blk_below XB_77.out hb)
     have HB_86 := lhid (below_then HB_78.out HB_78.out.size hb)
     clear HC_71 FS_72 SV_73 SB_74 HT_75 SR_76 XB_77 HB_78 hb
     refine hK.out _ _ ⟨(six SB_82.out).1, (six SB_82.out).2.1, (six SB_82.out).2.2.1, (six SB_82.out).2.2.2.1, (six SB_82.out).2.2.2.2.1, (six SB_82.out).2.2.2.2.2, (six XB_85.out).1, (six XB_85.out).2.1, (six XB_85.out).2.2.1, (six XB_85.out).2.2.2.1, (six XB_85.out).2.2.2.2.1, (six XB_85.out).2.2.2.2.2⟩ (fun hHeld => ?_)
     clear hK K
     refine norm_ (a' := ?_) ?_ ?_
     rotate_left
     ·
      show Act.put _ (some 133) _ = _
      simp only [Act.put, pS]
      rfl
     refine one_ (i := 12) (N := some 135) (lsb 33 8191) rfl rfl (by kernel_rfl) (by decide) (fun K hK => ?_)
     refine goes_ Try.func45 (by kernel_rfl) rfl #[.agg #[.int .i64 lots, .int .i64 s2, .slice D2 8 Dc2, .slice D3 8 Dc3, .slice D4 8 Dc4, .slice D5 8 Dc5]] (by rfl) rfl rfl (by (try simp only [List.map_toArray, List.map_cons, List.map_nil]); first | done | rfl) ?_
     with_reducible refine (Missing_s SV_81.out HDr2.out.len).mono ?_
     rintro e w124 ⟨vm, rfl, hR, hb⟩
     refine ⟨_, rfl, ?_⟩
     have HU1 := lhid hR
     obtain ⟨V1, v1, rfl⟩ := Kd.R_slice hR
     clear hR
     have HC_87 := lhid (HC_79.out.next hb)
     have FS_88 := lhid (fun k q => Nat.lt_of_lt_of_le (FS_80.out k q) (hb).size)
     have SV_89 := lhid (SV_81.out.next hb)
     have SB_90 := lhid (blk_below SB_82.out hb)
     have HT_91 := lhid (HT_83.out.next hb)
     have SR_92 := lhid (SR_84.out.next hb)
     have XB_93 := lhid (blk_below XB_85.out hb)
     have HB_94 := lhid (below_then HB_86.out HB_86.out.size hb)
     have Q1_95 := lhid (Kd.R_below HQ1.out hb)
     clear HC_79 FS_80 SV_81 SB_82 HT_83 SR_84 XB_85 HB_86 HQ1 hb
     refine hK.out _ _ ⟨(six SB_90.out).1, (six SB_90.out).2.1, (six SB_90.out).2.2.1, (six SB_90.out).2.2.2.1, (six SB_90.out).2.2.2.2.1, (six SB_90.out).2.2.2.2.2, (six XB_93.out).1, (six XB_93.out).2.1, (six XB_93.out).2.2.1, (six XB_93.out).2.2.2.1, (six XB_93.out).2.2.2.2.1, (six XB_93.out).2.2.2.2.2⟩ (fun hHeld => ?_)
     clear hK K
     refine norm_ (a' := ?_) ?_ ?_
     rotate_left
     ·
      show Act.put _ (some 135) _ = _
      simp only [Act.put, pS]
      rfl
     refine one_ (i := 13) (N := some 136) (lsb 33 16383) rfl rfl (by kernel_rfl) (by decide) (fun K hK => ?_)
     refine goes_ Try.func22 (by kernel_rfl) rfl #[.slice P1 (misN H2 8).length p1, .slice V1 (misN H2 8).length v1] (by rfl) rfl rfl (by (try simp only [List.map_toArray, List.map_cons, List.map_nil]); first | done | rfl) ?_
     with_reducible refine (same_i w124 P1 V1 p1 v1 (misN H2 8) misN_few (Kd.R_reads' Q1_95.out).2.2 (Kd.R_reads' Q1_95.out).2.1 (Kd.R_reads' HU1.out).2.2 (Kd.R_reads' HU1.out).2.1).mono ?_
     rintro e w125 ⟨rfl, hb⟩
     refine ⟨_, rfl, ?_⟩
     have HC_96 := lhid (HC_87.out.next hb)
     have FS_97 := lhid (fun k q => Nat.lt_of_lt_of_le (FS_88.out k q) (hb).size)
     have SV_98 := lhid (SV_89.out.next hb)
     have SB_99 := lhid (blk_below SB_90.out hb)
     have HT_100 := lhid (HT_91.out.next hb)
     have SR_101 := lhid (SR_92.out.next hb)
     have XB_102 := lhid (blk_below XB_93.out hb)
     have HB_103 := lhid (below_then HB_94.out HB_94.out.size hb)
     have Q1_104 := lhid (Kd.R_below Q1_95.out hb)
     have U1_105 := lhid (Kd.R_below HU1.out hb)
     clear HC_87 FS_88 SV_89 SB_90 HT_91 SR_92 XB_93 HB_94 Q1_95 HU1 hb
     refine hK.out _ _ ⟨(six SB_99.out).1, (six SB_99.out).2.1, (six SB_99.out).2.2.1, (six SB_99.out).2.2.2.1, (six SB_99.out).2.2.2.2.1, (six SB_99.out).2.2.2.2.2, (six XB_102.out).1, (six XB_102.out).2.1, (six XB_102.out).2.2.1, (six XB_102.out).2.2.2.1, (six XB_102.out).2.2.2.2.1, (six XB_102.out).2.2.2.2.2⟩ (fun hHeld => ?_)
     clear hK K
     refine norm_ (a' := ?_) ?_ ?_
     rotate_left
     ·
      show Act.put _ (some 136) _ = _
      simp only [Act.put, pS]
      rfl
     refine pu 14 (some 137) 33 32767 rfl rfl (v := ?_) (a' := ?_) ?_ ?_ ?_; rotate_left; (intro w'; go_simp; with_reducible rfl); rotate_left; (simp only [Act.put, pS]; rfl)
     refine pu 15 (some 138) 33 65535 rfl rfl (v := ?_) (a' := ?_) ?_ ?_ ?_; rotate_left; (intro w'; go_simp; with_reducible rfl); rotate_left; (simp only [Act.put, pS]; rfl)
     refine pu 16 (some 139) 33 131071 rfl rfl (v := ?_) (a' := ?_) ?_ ?_ ?_; rotate_left; (intro w'; go_simp; with_reducible rfl); rotate_left; (simp only [Act.put, pS]; rfl)
     refine pu 18 (some 141) 33 393215 rfl rfl (v := ?_) (a' := ?_) ?_ ?_ ?_; rotate_left; (intro w'; go_simp; with_reducible rfl); rotate_left; (simp only [Act.put, pS]; rfl)
     refine tk 19 (some 142) 33 917503 rfl rfl hHeld (v := ?_) (a' := ?_) ?_ ?_ ?_; rotate_left; (rintro w' ⟨s0, s1, s2, s3, s4, s5, s6, s7, s8, s9, s10, s11⟩; go_simp; with_reducible rfl); rotate_left; (simp only [Act.put, pS]; rfl)
     refine one_ (i := 17) (N := some 140) (lsb 33 1048575) rfl rfl (by kernel_rfl) (by decide) (fun K hK => ?_)
     refine goes_ Try.func40 (by kernel_rfl) rfl #[.pointer (some ⟨t, 0, none⟩)] (by rfl) rfl rfl (by (try simp only [List.map_toArray, List.map_cons, List.map_nil]); first | done | rfl) ?_
     with_reducible refine (State_i HT_100.out HL.out.1).mono ?_
     rintro e wsame ⟨rfl, rfl⟩
     refine ⟨_, rfl, ?_⟩
     refine hK.out _ _ ⟨(six SB_99.out).1, (six SB_99.out).2.1, (six SB_99.out).2.2.1, (six SB_99.out).2.2.2.1, (six SB_99.out).2.2.2.2.1, (six SB_99.out).2.2.2.2.2, (six XB_102.out).1, (six XB_102.out).2.1, (six XB_102.out).2.2.1, (six XB_102.out).2.2.2.1, (six XB_102.out).2.2.2.2.1, (six XB_102.out).2.2.2.2.2⟩ (fun hHeld => ?_)
     clear hK K
     refine norm_ (a' := ?_) ?_ ?_
     rotate_left
     ·
      show Act.put _ (some 140) _ = _
      simp only [Act.put, pS]
      rfl
     refine pu 20 (some 143) 33 2097151 rfl rfl (v := ?_) (a' := ?_) ?_ ?_ ?_; rotate_left; (intro w'; go_simp; with_reducible rfl); rotate_left; (simp only [Act.put, pS]; rfl)
     refine pu 21 (some 144) 33 4194303 rfl rfl (v := ?_) (a' := ?_) ?_ ?_ ?_; rotate_left; (intro w'; go_simp; with_reducible rfl); rotate_left; (simp only [Act.put, pS]; rfl)
     refine pu 22 (some 145) 33 8388607 rfl rfl (v := ?_) (a' := ?_) ?_ ?_ ?_; rotate_left; (intro w'; go_simp; with_reducible rfl); rotate_left; (simp only [Act.put, pS]; rfl)
     refine pu 23 (some 146) 33 16777215 rfl rfl (v := ?_) (a' := ?_) ?_ ?_ ?_; rotate_left; (intro w'; go_simp; with_reducible rfl); rotate_left; (simp only [Act.put, pS]; rfl)
     refine tk 25 (some 148) 33 50331647 rfl rfl hHeld (v := ?_) (a' := ?_) ?_ ?_ ?_; rotate_left; (rintro w' ⟨s0, s1, s2, s3, s4, s5, s6, s7, s8, s9, s10, s11⟩; go_simp; with_reducible rfl); rotate_left; (simp only [Act.put, pS]; rfl)
     refine one_ (i := 24) (N := some 147) (lsb 33 67108863) rfl rfl (by kernel_rfl) (by decide) (fun K hK => ?_)
     refine goes_ Try.func39 (by kernel_rfl) rfl #[.pointer (some ⟨t, 0, none⟩)] (by rfl) rfl rfl (by (try simp only [List.map_toArray, List.map_cons, List.map_nil]); first | done | rfl) ?_
     with_reducible refine (Missing_t t t F w125 lots st H HT_100.out).mono ?_
     rintro e w126 ⟨vm, rfl, hR, hb⟩
     refine ⟨_, rfl, ?_⟩
     have HQ2 := lhid hR
     obtain ⟨P2, p2, rfl⟩ := Kd.R_slice hR
     clear hR
     have HC_106 := lhid (HC_96.out.next hb)
     have FS_107 := lhid (fun k q => Nat.lt_of_lt_of_le (FS_97.out k q) (hb).size)
     have SV_108 := lhid (SV_98.out.next hb)
     have SB_109 := lhid (blk_below SB_99.out hb)
     have HT_110 := lhid (HT_100.out.next hb)
     have SR_111 := lhid (SR_101.out.next hb)
     have XB_112 := lhid (blk_below XB_102.out hb)
     have HB_113 := lhid (below_then HB_103.out HB_103.out.size hb)
     have Q1_114 := lhid (Kd.R_below Q1_104.out hb)
     have U1_115 := lhid (Kd.R_below U1_105.out hb)
     clear HC_96 FS_97 SV_98 SB_99 HT_100 SR_101 XB_102 HB_103 Q1_104 U1_105 hb
     refine hK.out _ _ ⟨(six SB_109.out).1, (six SB_109.out).2.1, (six SB_109.out).2.2.1, (six SB_109.out).2.2.2.1, (six SB_109.out).2.2.2.2.1, (six SB_109.out).2.2.2.2.2, (six XB_112.out).1, (six XB_112.out).2.1, (six XB_112.out).2.2.1, (six XB_112.out).2.2.2.1, (six XB_112.out).2.2.2.2.1, (six XB_112.out).2.2.2.2.2⟩ (fun hHeld => ?_)
     clear hK K
     refine norm_ (a' := ?_) ?_ ?_
     rotate_left
     ·
      show Act.put _ (some 147) _ = _
      simp only [Act.put, pS]
      rfl
     refine one_ (i := 26) (N := some 149) (lsb 33 134217727) rfl rfl (by kernel_rfl) (by decide) (fun K hK => ?_)
     refine goes_ Try.func45 (by kernel_rfl) rfl #[.agg #[.int .i64 lots, .int .i64 st, .slice B2 8 Bc2, .slice B3 8 Bc3, .slice B4 8 Bc4, .slice B5 8 Bc5]] (by rfl) rfl rfl (by (try simp only [List.map_toArray, List.map_cons, List.map_nil]); first | done | rfl) ?_
     with_reducible refine (Missing_s SR_111.out HDr.out.len).mono ?_
     rintro e w127 ⟨vm, rfl, hR, hb⟩
     refine ⟨_, rfl, ?_⟩
     have HU2 := lhid hR
     obtain ⟨V2, v2, rfl⟩ := Kd.R_slice hR
     clear hR
     have HC_116 := lhid (HC_106.out.next hb)
     have FS_117 := lhid (fun k q => Nat.lt_of_lt_of_le (FS_107.out k q) (hb).size)
     have SV_118 := lhid (SV_108.out.next hb)
     have SB_119 := lhid (blk_below SB_109.out hb)
     have HT_120 := lhid (HT_110.out.next hb)
     have SR_121 := lhid (SR_111.out.next hb)
     have XB_122 := lhid (blk_below XB_112.out hb)
     have HB_123 := lhid (below_then HB_113.out HB_113.out.size hb)
     have Q1_124 := lhid (Kd.R_below Q1_114.out hb)
     have U1_125 := lhid (Kd.R_below U1_115.out hb)
     have Q2_126 := lhid (Kd.R_below HQ2.out hb)
     clear HC_106 FS_107 SV_108 SB_109 HT_110 SR_111 XB_112 HB_113 Q1_114 U1_115 HQ2 hb
     refine hK.out _ _ ⟨(six SB_119.out).1, (six SB_119.out).2.1, (six SB_119.out).2.2.1, (six SB_119.out).2.2.2.1, (six SB_119.out).2.2.2.2.1, (six SB_119.out).2.2.2.2.2, (six XB_122.out).1, (six XB_122.out).2.1, (six XB_122.out).2.2.1, (six XB_122.out).2.2.2.1, (six XB_122.out).2.2.2.2.1, (six XB_122.out).2.2.2.2.2⟩ (fun hHeld => ?_)
     clear hK K
     refine norm_ (a' := ?_) ?_ ?_
     rotate_left
     ·
      show Act.put _ (some 149) _ = _
      simp only [Act.put, pS]
      rfl
     refine one_ (i := 27) (N := some 150) (lsb 33 268435455) rfl rfl (by kernel_rfl) (by decide) (fun K hK => ?_)
     refine goes_ Try.func22 (by kernel_rfl) rfl #[.slice P2 (misN H 8).length p2, .slice V2 (misN H 8).length v2] (by rfl) rfl rfl (by (try simp only [List.map_toArray, List.map_cons, List.map_nil]); first | done | rfl) ?_
     with_reducible refine (same_i w127 P2 V2 p2 v2 (misN H 8) misN_few (Kd.R_reads' Q2_126.out).2.2 (Kd.R_reads' Q2_126.out).2.1 (Kd.R_reads' HU2.out).2.2 (Kd.R_reads' HU2.out).2.1).mono ?_
     rintro e w128 ⟨rfl, hb⟩
     refine ⟨_, rfl, ?_⟩
     have HC_127 := lhid (HC_116.out.next hb)
     have FS_128 := lhid (fun k q => Nat.lt_of_lt_of_le (FS_117.out k q) (hb).size)
     have SV_129 := lhid (SV_118.out.next hb)
     have SB_130 := lhid (blk_below SB_119.out hb)
     have HT_131 := lhid (HT_120.out.next hb)
     have SR_132 := lhid (SR_121.out.next hb)
     have XB_133 := lhid (blk_below XB_122.out hb)
     have HB_134 := lhid (below_then HB_123.out HB_123.out.size hb)
     have Q1_135 := lhid (Kd.R_below Q1_124.out hb)
     have U1_136 := lhid (Kd.R_below U1_125.out hb)
     have Q2_137 := lhid (Kd.R_below Q2_126.out hb)
     have U2_138 := lhid (Kd.R_below HU2.out hb)
     clear HC_116 FS_117 SV_118 SB_119 HT_120 SR_121 XB_122 HB_123 Q1_124 U1_125 Q2_126 HU2 hb
     refine hK.out _ _ ⟨(six SB_130.out).1, (six SB_130.out).2.1, (six SB_130.out).2.2.1, (six SB_130.out).2.2.2.1, (six SB_130.out).2.2.2.2.1, (six SB_130.out).2.2.2.2.2, (six XB_133.out).1, (six XB_133.out).2.1, (six XB_133.out).2.2.1, (six XB_133.out).2.2.2.1, (six XB_133.out).2.2.2.2.1, (six XB_133.out).2.2.2.2.2⟩ (fun hHeld => ?_)
     clear hK K
     refine norm_ (a' := ?_) ?_ ?_
     rotate_left
     ·
      show Act.put _ (some 150) _ = _
      simp only [Act.put, pS]
      rfl
     refine pu 28 (some 151) 33 536870911 rfl rfl (v := ?_) (a' := ?_) ?_ ?_ ?_; rotate_left; (intro w'; go_simp; with_reducible rfl); rotate_left; (simp only [Act.put, pS]; rfl)
     refine pu 29 (some 152) 33 1073741823 rfl rfl (v := ?_) (a' := ?_) ?_ ?_ ?_; rotate_left; (intro w'; go_simp; with_reducible rfl); rotate_left; (simp only [Act.put, pS]; rfl)
     refine one_ (i := 30) (N := some 153) (lsb 33 2147483647) rfl rfl (by kernel_rfl) (by decide) (fun K hK => ?_)
     refine goes_ Try.func16 (by kernel_rfl) rfl #[] (by rfl) rfl rfl (by (try simp only [List.map_toArray, List.map_cons, List.map_nil]); first | done | rfl) ?_
     with_reducible refine (alive_calls w128).mono ?_
     rintro e w129 ⟨rfl, hb⟩
     refine ⟨_, rfl, ?_⟩
     have HC_139 := lhid (HC_127.out.next hb)
     have FS_140 := lhid (fun k q => Nat.lt_of_lt_of_le (FS_128.out k q) (hb).size)
     have SV_141 := lhid (SV_129.out.next hb)
     have SB_142 := lhid (blk_below SB_130.out hb)
     have HT_143 := lhid (HT_131.out.next hb)
     have SR_144 := lhid (SR_132.out.next hb)
     have XB_145 := lhid (blk_below XB_133.out hb)
     have HB_146 := lhid (below_then HB_134.out HB_134.out.size hb)
     have Q1_147 := lhid (Kd.R_below Q1_135.out hb)
     have U1_148 := lhid (Kd.R_below U1_136.out hb)
     have Q2_149 := lhid (Kd.R_below Q2_137.out hb)
     have U2_150 := lhid (Kd.R_below U2_138.out hb)
     clear HC_127 FS_128 SV_129 SB_130 HT_131 SR_132 XB_133 HB_134 Q1_135 U1_136 Q2_137 U2_138 hb
     refine hK.out _ _ ⟨(six SB_142.out).1, (six SB_142.out).2.1, (six SB_142.out).2.2.1, (six SB_142.out).2.2.2.1, (six SB_142.out).2.2.2.2.1, (six SB_142.out).2.2.2.2.2, (six XB_145.out).1, (six XB_145.out).2.1, (six XB_145.out).2.2.1, (six XB_145.out).2.2.2.1, (six XB_145.out).2.2.2.2.1, (six XB_145.out).2.2.2.2.2⟩ (fun hHeld => ?_)
     clear hK K
     refine norm_ (a' := ?_) ?_ ?_
     rotate_left
     ·
      show Act.put _ (some 153) _ = _
      simp only [Act.put, pS]
      rfl
     refine pu 31 (some 154) 33 4294967295 rfl rfl (v := ?_) (a' := ?_) ?_ ?_ ?_; rotate_left; (intro w'; go_simp; with_reducible rfl); rotate_left; (simp only [Act.put, pS]; rfl)
     refine pu 32 (some 6) 33 8589934591 rfl rfl (v := ?_) (a' := ?_) ?_ ?_ ?_; rotate_left; (intro w'; go_simp; with_reducible rfl); rotate_left; (simp only [Act.put, pS]; rfl)
     refine done_ (by kernel_rfl) ?_
     
     go_wp2_with fail
     go_ret
     exact ⟨rfl, HB_146.out⟩
   ·
    have hne : n = l2.length := by omega
    subst hne
    clear hlt hn
    go_upto_region 23 with (fail)
    try any_goals (exfalso; omega)
    have hb := Zbd (Below.refl wr.heap.size wr)
    have HC_151 := lhid (HCr.out.next hb)
    have FS_152 := lhid (fun k q => Nat.lt_of_lt_of_le (FSr.out k q) (hb).size)
    have SV_153 := lhid (SVr.out.next hb)
    have SB_154 := lhid (blk_below SBr.out hb)
    have HT_155 := lhid (HTr.out.next hb)
    have SR_156 := lhid (SRr.out.next hb)
    have XB_157 := lhid (blk_below XBr.out hb)
    have HB_158 := lhid (below_then HBr.out HBr.out.size hb)
    clear HCr FSr SVr SBr HTr SRr XBr HBr hb
    refine start_ (n := 33) (S := fun w' => w'.cell? ⟨sb, 0, none⟩ = some (.int .i64 lots) ∧ w'.cell? ⟨sb, 1, none⟩ = some (.int .i64 s2) ∧ w'.cell? ⟨sb, 2, none⟩ = some (.slice D2 8 Dc2) ∧ w'.cell? ⟨sb, 3, none⟩ = some (.slice D3 8 Dc3) ∧ w'.cell? ⟨sb, 4, none⟩ = some (.slice D4 8 Dc4) ∧ w'.cell? ⟨sb, 5, none⟩ = some (.slice D5 8 Dc5) ∧ w'.cell? ⟨xb, 0, none⟩ = some (.int .i64 lots) ∧ w'.cell? ⟨xb, 1, none⟩ = some (.int .i64 st) ∧ w'.cell? ⟨xb, 2, none⟩ = some (.slice B2 8 Bc2) ∧ w'.cell? ⟨xb, 3, none⟩ = some (.slice B3 8 Bc3) ∧ w'.cell? ⟨xb, 4, none⟩ = some (.slice B4 8 Bc4) ∧ w'.cell? ⟨xb, 5, none⟩ = some (.slice B5 8 Bc5)) (ds := []) (lsb 33 0) (by kernel_rfl) rfl (by kernel_rfl) ⟨(six SB_154.out).1, (six SB_154.out).2.1, (six SB_154.out).2.2.1, (six SB_154.out).2.2.2.1, (six SB_154.out).2.2.2.2.1, (six SB_154.out).2.2.2.2.2, (six XB_157.out).1, (six XB_157.out).2.1, (six XB_157.out).2.2.1, (six XB_157.out).2.2.2.1, (six XB_157.out).2.2.2.2.1, (six XB_157.out).2.2.2.2.2⟩ (fun hHeld => ?_)
    generalize wr.drew = w121 at HC_151 FS_152 SV_153 SB_154 HT_155 SR_156 XB_157 HB_158 hHeld ⊢
    refine pu 0 (some 123) 33 1 rfl rfl (v := ?_) (a' := ?_) ?_ ?_ ?_; rotate_left; (intro w'; go_simp; with_reducible rfl); rotate_left; (simp only [Act.put, pS]; rfl)
    refine pu 1 (some 124) 33 3 rfl rfl (v := ?_) (a' := ?_) ?_ ?_ ?_; rotate_left; (intro w'; go_simp; with_reducible rfl); rotate_left; (simp only [Act.put, pS]; rfl)
    refine pu 2 (some 125) 33 7 rfl rfl (v := ?_) (a' := ?_) ?_ ?_ ?_; rotate_left; (intro w'; go_simp; with_reducible rfl); rotate_left; (simp only [Act.put, pS]; rfl)
    refine pu 4 (some 127) 33 23 rfl rfl (v := ?_) (a' := ?_) ?_ ?_ ?_; rotate_left; (intro w'; go_simp; with_reducible rfl); rotate_left; (simp only [Act.put, pS]; rfl)
    refine tk 5 (some 128) 33 55 rfl rfl hHeld (v := ?_) (a' := ?_) ?_ ?_ ?_; rotate_left; (rintro w' ⟨s0, s1, s2, s3, s4, s5, s6, s7, s8, s9, s10, s11⟩; go_simp; with_reducible rfl); rotate_left; (simp only [Act.put, pS]; rfl)
    refine one_ (i := 3) (N := some 126) (lsb 33 63) rfl rfl (by kernel_rfl) (by decide) (fun K hK => ?_)
    refine goes_ Try.func40 (by kernel_rfl) rfl #[.pointer (some ⟨c, 0, none⟩)] (by rfl) rfl rfl (by (try simp only [List.map_toArray, List.map_cons, List.map_nil]); first | done | rfl) ?_
    with_reducible refine (State_i HC_151.out HL.out.1).mono ?_
    rintro e wsame ⟨rfl, rfl⟩
    refine ⟨_, rfl, ?_⟩
    refine hK.out _ _ ⟨(six SB_154.out).1, (six SB_154.out).2.1, (six SB_154.out).2.2.1, (six SB_154.out).2.2.2.1, (six SB_154.out).2.2.2.2.1, (six SB_154.out).2.2.2.2.2, (six XB_157.out).1, (six XB_157.out).2.1, (six XB_157.out).2.2.1, (six XB_157.out).2.2.2.1, (six XB_157.out).2.2.2.2.1, (six XB_157.out).2.2.2.2.2⟩ (fun hHeld => ?_)
    clear hK K
    refine norm_ (a' := ?_) ?_ ?_
    rotate_left
    ·
     show Act.put _ (some 126) _ = _
     simp only [Act.put, pS]
     rfl
    refine pu 6 (some 129) 33 127 rfl rfl (v := ?_) (a' := ?_) ?_ ?_ ?_; rotate_left; (intro w'; go_simp; with_reducible rfl); rotate_left; (simp only [Act.put, pS]; rfl)
    refine pu 7 (some 130) 33 255 rfl rfl (v := ?_) (a' := ?_) ?_ ?_ ?_; rotate_left; (intro w'; go_simp; with_reducible rfl); rotate_left; (simp only [Act.put, pS]; rfl)
    refine pu 8 (some 131) 33 511 rfl rfl (v := ?_) (a' := ?_) ?_ ?_ ?_; rotate_left; (intro w'; go_simp; with_reducible rfl); rotate_left; (simp only [Act.put, pS]; rfl)
    refine pu 9 (some 132) 33 1023 rfl rfl (v := ?_) (a' := ?_) ?_ ?_ ?_; rotate_left; (intro w'; go_simp; with_reducible rfl); rotate_left; (simp only [Act.put, pS]; rfl)
    refine tk 11 (some 134) 33 3071 rfl rfl hHeld (v := ?_) (a' := ?_) ?_ ?_ ?_; rotate_left; (rintro w' ⟨s0, s1, s2, s3, s4, s5, s6, s7, s8, s9, s10, s11⟩; go_simp; with_reducible rfl); rotate_left; (simp only [Act.put, pS]; rfl)
    refine one_ (i := 10) (N := some 133) (lsb 33 4095) rfl rfl (by kernel_rfl) (by decide) (fun K hK => ?_)
    refine goes_ Try.func39 (by kernel_rfl) rfl #[.pointer (some ⟨c, 0, none⟩)] (by rfl) rfl rfl (by (try simp only [List.map_toArray, List.map_cons, List.map_nil]); first | done | rfl) ?_
    with_reducible refine (Missing_t t c G w121 lots s2 H2 HC_151.out).mono ?_
    rintro e w122 ⟨vm, rfl, hR, hb⟩
    refine ⟨_, rfl, ?_⟩
    have HQ1 := lhid hR
    obtain ⟨P1, p1, rfl⟩ := Kd.R_slice hR
    clear hR
    have HC_159 := lhid (HC_151.out.next hb)
    have FS_160 := lhid (fun k q => Nat.lt_of_lt_of_le (FS_152.out k q) (hb).size)
    have SV_161 := lhid (SV_153.out.next hb)
    have SB_162 := lhid (blk_below SB_154.out hb)
    have HT_163 := lhid (HT_155.out.next hb)
    have SR_164 := lhid (SR_156.out.next hb)
    have XB_165 := lhid (blk_below XB_157.out hb)
    have HB_166 := lhid (below_then HB_158.out HB_158.out.size hb)
    clear HC_151 FS_152 SV_153 SB_154 HT_155 SR_156 XB_157 HB_158 hb
    refine hK.out _ _ ⟨(six SB_162.out).1, (six SB_162.out).2.1, (six SB_162.out).2.2.1, (six SB_162.out).2.2.2.1, (six SB_162.out).2.2.2.2.1, (six SB_162.out).2.2.2.2.2, (six XB_165.out).1, (six XB_165.out).2.1, (six XB_165.out).2.2.1, (six XB_165.out).2.2.2.1, (six XB_165.out).2.2.2.2.1, (six XB_165.out).2.2.2.2.2⟩ (fun hHeld => ?_)
    clear hK K
    refine norm_ (a' := ?_) ?_ ?_
    rotate_left
    ·
     show Act.put _ (some 133) _ = _
     simp only [Act.put, pS]
     rfl
    refine one_ (i := 12) (N := some 135) (lsb 33 8191) rfl rfl (by kernel_rfl) (by decide) (fun K hK => ?_)
    refine goes_ Try.func45 (by kernel_rfl) rfl #[.agg #[.int .i64 lots, .int .i64 s2, .slice D2 8 Dc2, .slice D3 8 Dc3, .slice D4 8 Dc4, .slice D5 8 Dc5]] (by rfl) rfl rfl (by (try simp only [List.map_toArray, List.map_cons, List.map_nil]); first | done | rfl) ?_
    with_reducible refine (Missing_s SV_161.out HDr2.out.len).mono ?_
    rintro e w123 ⟨vm, rfl, hR, hb⟩
    refine ⟨_, rfl, ?_⟩
    have HU1 := lhid hR
    obtain ⟨V1, v1, rfl⟩ := Kd.R_slice hR
    clear hR
    have HC_167 := lhid (HC_159.out.next hb)
    have FS_168 := lhid (fun k q => Nat.lt_of_lt_of_le (FS_160.out k q) (hb).size)
    have SV_169 := lhid (SV_161.out.next hb)
    have SB_170 := lhid (blk_below SB_162.out hb)
    have HT_171 := lhid (HT_163.out.next hb)
    have SR_172 := lhid (SR_164.out.next hb)
    have XB_173 := lhid (blk_below XB_165.out hb)
    have HB_174 := lhid (below_then HB_166.out HB_166.out.size hb)
    have Q1_175 := lhid (Kd.R_below HQ1.out hb)
    clear HC_159 FS_160 SV_161 SB_162 HT_163 SR_164 XB_165 HB_166 HQ1 hb
    refine hK.out _ _ ⟨(six SB_170.out).1, (six SB_170.out).2.1, (six SB_170.out).2.2.1, (six SB_170.out).2.2.2.1, (six SB_170.out).2.2.2.2.1, (six SB_170.out).2.2.2.2.2, (six XB_173.out).1, (six XB_173.out).2.1, (six XB_173.out).2.2.1, (six XB_173.out).2.2.2.1, (six XB_173.out).2.2.2.2.1, (six XB_173.out).2.2.2.2.2⟩ (fun hHeld => ?_)
    clear hK K
    refine norm_ (a' := ?_) ?_ ?_
    rotate_left
    ·
     show Act.put _ (some 135) _ = _
     simp only [Act.put, pS]
     rfl
    refine one_ (i := 13) (N := some 136) (lsb 33 16383) rfl rfl (by kernel_rfl) (by decide) (fun K hK => ?_)
    refine goes_ Try.func22 (by kernel_rfl) rfl #[.slice P1 (misN H2 8).length p1, .slice V1 (misN H2 8).length v1] (by rfl) rfl rfl (by (try simp only [List.map_toArray, List.map_cons, List.map_nil]); first | done | rfl) ?_
    with_reducible refine (same_i w123 P1 V1 p1 v1 (misN H2 8) misN_few (Kd.R_reads' Q1_175.out).2.2 (Kd.R_reads' Q1_175.out).2.1 (Kd.R_reads' HU1.out).2.2 (Kd.R_reads' HU1.out).2.1).mono ?_
    rintro e w124 ⟨rfl, hb⟩
    refine ⟨_, rfl, ?_⟩
    have HC_176 := lhid (HC_167.out.next hb)
    have FS_177 := lhid (fun k q => Nat.lt_of_lt_of_le (FS_168.out k q) (hb).size)
    have SV_178 := lhid (SV_169.out.next hb)
    have SB_179 := lhid (blk_below SB_170.out hb)
    have HT_180 := lhid (HT_171.out.next hb)
    have SR_181 := lhid (SR_172.out.next hb)
    have XB_182 := lhid (blk_below XB_173.out hb)
    have HB_183 := lhid (below_then HB_174.out HB_174.out.size hb)
    have Q1_184 := lhid (Kd.R_below Q1_175.out hb)
    have U1_185 := lhid (Kd.R_below HU1.out hb)
    clear HC_167 FS_168 SV_169 SB_170 HT_171 SR_172 XB_173 HB_174 Q1_175 HU1 hb
    refine hK.out _ _ ⟨(six SB_179.out).1, (six SB_179.out).2.1, (six SB_179.out).2.2.1, (six SB_179.out).2.2.2.1, (six SB_179.out).2.2.2.2.1, (six SB_179.out).2.2.2.2.2, (six XB_182.out).1, (six XB_182.out).2.1, (six XB_182.out).2.2.1, (six XB_182.out).2.2.2.1, (six XB_182.out).2.2.2.2.1, (six XB_182.out).2.2.2.2.2⟩ (fun hHeld => ?_)
    clear hK K
    refine norm_ (a' := ?_) ?_ ?_
    rotate_left
    ·
     show Act.put _ (some 136) _ = _
     simp only [Act.put, pS]
     rfl
    refine pu 14 (some 137) 33 32767 rfl rfl (v := ?_) (a' := ?_) ?_ ?_ ?_; rotate_left; (intro w'; go_simp; with_reducible rfl); rotate_left; (simp only [Act.put, pS]; rfl)
    refine pu 15 (some 138) 33 65535 rfl rfl (v := ?_) (a' := ?_) ?_ ?_ ?_; rotate_left; (intro w'; go_simp; with_reducible rfl); rotate_left; (simp only [Act.put, pS]; rfl)
    refine pu 16 (some 139) 33 131071 rfl rfl (v := ?_) (a' := ?_) ?_ ?_ ?_; rotate_left; (intro w'; go_simp; with_reducible rfl); rotate_left; (simp only [Act.put, pS]; rfl)
    refine pu 18 (some 141) 33 393215 rfl rfl (v := ?_) (a' := ?_) ?_ ?_ ?_; rotate_left; (intro w'; go_simp; with_reducible rfl); rotate_left; (simp only [Act.put, pS]; rfl)
    refine tk 19 (some 142) 33 917503 rfl rfl hHeld (v := ?_) (a' := ?_) ?_ ?_ ?_; rotate_left; (rintro w' ⟨s0, s1, s2, s3, s4, s5, s6, s7, s8, s9, s10, s11⟩; go_simp; with_reducible rfl); rotate_left; (simp only [Act.put, pS]; rfl)
    refine one_ (i := 17) (N := some 140) (lsb 33 1048575) rfl rfl (by kernel_rfl) (by decide) (fun K hK => ?_)
    refine goes_ Try.func40 (by kernel_rfl) rfl #[.pointer (some ⟨t, 0, none⟩)] (by rfl) rfl rfl (by (try simp only [List.map_toArray, List.map_cons, List.map_nil]); first | done | rfl) ?_
    with_reducible refine (State_i HT_180.out HL.out.1).mono ?_
    rintro e wsame ⟨rfl, rfl⟩
    refine ⟨_, rfl, ?_⟩
    refine hK.out _ _ ⟨(six SB_179.out).1, (six SB_179.out).2.1, (six SB_179.out).2.2.1, (six SB_179.out).2.2.2.1, (six SB_179.out).2.2.2.2.1, (six SB_179.out).2.2.2.2.2, (six XB_182.out).1, (six XB_182.out).2.1, (six XB_182.out).2.2.1, (six XB_182.out).2.2.2.1, (six XB_182.out).2.2.2.2.1, (six XB_182.out).2.2.2.2.2⟩ (fun hHeld => ?_)
    clear hK K
    refine norm_ (a' := ?_) ?_ ?_
    rotate_left
    ·
     show Act.put _ (some 140) _ = _
     simp only [Act.put, pS]
     rfl
    refine pu 20 (some 143) 33 2097151 rfl rfl (v := ?_) (a' := ?_) ?_ ?_ ?_; rotate_left; (intro w'; go_simp; with_reducible rfl); rotate_left; (simp only [Act.put, pS]; rfl)
    refine pu 21 (some 144) 33 4194303 rfl rfl (v := ?_) (a' := ?_) ?_ ?_ ?_; rotate_left; (intro w'; go_simp; with_reducible rfl); rotate_left; (simp only [Act.put, pS]; rfl)
    refine pu 22 (some 145) 33 8388607 rfl rfl (v := ?_) (a' := ?_) ?_ ?_ ?_; rotate_left; (intro w'; go_simp; with_reducible rfl); rotate_left; (simp only [Act.put, pS]; rfl)
    refine pu 23 (some 146) 33 16777215 rfl rfl (v := ?_) (a' := ?_) ?_ ?_ ?_; rotate_left; (intro w'; go_simp; with_reducible rfl); rotate_left; (simp only [Act.put, pS]; rfl)
    refine tk 25 (some 148) 33 50331647 rfl rfl hHeld (v := ?_) (a' := ?_) ?_ ?_ ?_; rotate_left; (rintro w' ⟨s0, s1, s2, s3, s4, s5, s6, s7, s8, s9, s10, s11⟩; go_simp; with_reducible rfl); rotate_left; (simp only [Act.put, pS]; rfl)
    refine one_ (i := 24) (N := some 147) (lsb 33 67108863) rfl rfl (by kernel_rfl) (by decide) (fun K hK => ?_)
    refine goes_ Try.func39 (by kernel_rfl) rfl #[.pointer (some ⟨t, 0, none⟩)] (by rfl) rfl rfl (by (try simp only [List.map_toArray, List.map_cons, List.map_nil]); first | done | rfl) ?_
    with_reducible refine (Missing_t t t F w124 lots st H HT_180.out).mono ?_
    rintro e w125 ⟨vm, rfl, hR, hb⟩
    refine ⟨_, rfl, ?_⟩
    have HQ2 := lhid hR
    obtain ⟨P2, p2, rfl⟩ := Kd.R_slice hR
    clear hR
    have HC_186 := lhid (HC_176.out.next hb)
    have FS_187 := lhid (fun k q => Nat.lt_of_lt_of_le (FS_177.out k q) (hb).size)
    have SV_188 := lhid (SV_178.out.next hb)
    have SB_189 := lhid (blk_below SB_179.out hb)
    have HT_190 := lhid (HT_180.out.next hb)
    have SR_191 := lhid (SR_181.out.next hb)
    have XB_192 := lhid (blk_below XB_182.out hb)
    have HB_193 := lhid (below_then HB_183.out HB_183.out.size hb)
    have Q1_194 := lhid (Kd.R_below Q1_184.out hb)
    have U1_195 := lhid (Kd.R_below U1_185.out hb)
    clear HC_176 FS_177 SV_178 SB_179 HT_180 SR_181 XB_182 HB_183 Q1_184 U1_185 hb
    refine hK.out _ _ ⟨(six SB_189.out).1, (six SB_189.out).2.1, (six SB_189.out).2.2.1, (six SB_189.out).2.2.2.1, (six SB_189.out).2.2.2.2.1, (six SB_189.out).2.2.2.2.2, (six XB_192.out).1, (six XB_192.out).2.1, (six XB_192.out).2.2.1, (six XB_192.out).2.2.2.1, (six XB_192.out).2.2.2.2.1, (six XB_192.out).2.2.2.2.2⟩ (fun hHeld => ?_)
    clear hK K
    refine norm_ (a' := ?_) ?_ ?_
    rotate_left
    ·
     show Act.put _ (some 147) _ = _
     simp only [Act.put, pS]
     rfl
    refine one_ (i := 26) (N := some 149) (lsb 33 134217727) rfl rfl (by kernel_rfl) (by decide) (fun K hK => ?_)
    refine goes_ Try.func45 (by kernel_rfl) rfl #[.agg #[.int .i64 lots, .int .i64 st, .slice B2 8 Bc2, .slice B3 8 Bc3, .slice B4 8 Bc4, .slice B5 8 Bc5]] (by rfl) rfl rfl (by (try simp only [List.map_toArray, List.map_cons, List.map_nil]); first | done | rfl) ?_
    with_reducible refine (Missing_s SR_191.out HDr.out.len).mono ?_
    rintro e w126 ⟨vm, rfl, hR, hb⟩
    refine ⟨_, rfl, ?_⟩
    have HU2 := lhid hR
    obtain ⟨V2, v2, rfl⟩ := Kd.R_slice hR
    clear hR
    have HC_196 := lhid (HC_186.out.next hb)
    have FS_197 := lhid (fun k q => Nat.lt_of_lt_of_le (FS_187.out k q) (hb).size)
    have SV_198 := lhid (SV_188.out.next hb)
    have SB_199 := lhid (blk_below SB_189.out hb)
    have HT_200 := lhid (HT_190.out.next hb)
    have SR_201 := lhid (SR_191.out.next hb)
    have XB_202 := lhid (blk_below XB_192.out hb)
    have HB_203 := lhid (below_then HB_193.out HB_193.out.size hb)
    have Q1_204 := lhid (Kd.R_below Q1_194.out hb)
    have U1_205 := lhid (Kd.R_below U1_195.out hb)
    have Q2_206 := lhid (Kd.R_below HQ2.out hb)
    clear HC_186 FS_187 SV_188 SB_189 HT_190 SR_191 XB_192 HB_193 Q1_194 U1_195 HQ2 hb
    refine hK.out _ _ ⟨(six SB_199.out).1, (six SB_199.out).2.1, (six SB_199.out).2.2.1, (six SB_199.out).2.2.2.1, (six SB_199.out).2.2.2.2.1, (six SB_199.out).2.2.2.2.2, (six XB_202.out).1, (six XB_202.out).2.1, (six XB_202.out).2.2.1, (six XB_202.out).2.2.2.1, (six XB_202.out).2.2.2.2.1, (six XB_202.out).2.2.2.2.2⟩ (fun hHeld => ?_)
    clear hK K
    refine norm_ (a' := ?_) ?_ ?_
    rotate_left
    ·
     show Act.put _ (some 149) _ = _
     simp only [Act.put, pS]
     rfl
    refine one_ (i := 27) (N := some 150) (lsb 33 268435455) rfl rfl (by kernel_rfl) (by decide) (fun K hK => ?_)
    refine goes_ Try.func22 (by kernel_rfl) rfl #[.slice P2 (misN H 8).length p2, .slice V2 (misN H 8).length v2] (by rfl) rfl rfl (by (try simp only [List.map_toArray, List.map_cons, List.map_nil]); first | done | rfl) ?_
    with_reducible refine (same_i w126 P2 V2 p2 v2 (misN H 8) misN_few (Kd.R_reads' Q2_206.out).2.2 (Kd.R_reads' Q2_206.out).2.1 (Kd.R_reads' HU2.out).2.2 (Kd.R_reads' HU2.out).2.1).mono ?_
    rintro e w127 ⟨rfl, hb⟩
    refine ⟨_, rfl, ?_⟩
    have HC_207 := lhid (HC_196.out.next hb)
    have FS_208 := lhid (fun k q => Nat.lt_of_lt_of_le (FS_197.out k q) (hb).size)
    have SV_209 := lhid (SV_198.out.next hb)
    have SB_210 := lhid (blk_below SB_199.out hb)
    have HT_211 := lhid (HT_200.out.next hb)
    have SR_212 := lhid (SR_201.out.next hb)
    have XB_213 := lhid (blk_below XB_202.out hb)
    have HB_214 := lhid (below_then HB_203.out HB_203.out.size hb)
    have Q1_215 := lhid (Kd.R_below Q1_204.out hb)
    have U1_216 := lhid (Kd.R_below U1_205.out hb)
    have Q2_217 := lhid (Kd.R_below Q2_206.out hb)
    have U2_218 := lhid (Kd.R_below HU2.out hb)
    clear HC_196 FS_197 SV_198 SB_199 HT_200 SR_201 XB_202 HB_203 Q1_204 U1_205 Q2_206 HU2 hb
    refine hK.out _ _ ⟨(six SB_210.out).1, (six SB_210.out).2.1, (six SB_210.out).2.2.1, (six SB_210.out).2.2.2.1, (six SB_210.out).2.2.2.2.1, (six SB_210.out).2.2.2.2.2, (six XB_213.out).1, (six XB_213.out).2.1, (six XB_213.out).2.2.1, (six XB_213.out).2.2.2.1, (six XB_213.out).2.2.2.2.1, (six XB_213.out).2.2.2.2.2⟩ (fun hHeld => ?_)
    clear hK K
    refine norm_ (a' := ?_) ?_ ?_
    rotate_left
    ·
     show Act.put _ (some 150) _ = _
     simp only [Act.put, pS]
     rfl
    refine pu 28 (some 151) 33 536870911 rfl rfl (v := ?_) (a' := ?_) ?_ ?_ ?_; rotate_left; (intro w'; go_simp; with_reducible rfl); rotate_left; (simp only [Act.put, pS]; rfl)
    refine pu 29 (some 152) 33 1073741823 rfl rfl (v := ?_) (a' := ?_) ?_ ?_ ?_; rotate_left; (intro w'; go_simp; with_reducible rfl); rotate_left; (simp only [Act.put, pS]; rfl)
    refine one_ (i := 30) (N := some 153) (lsb 33 2147483647) rfl rfl (by kernel_rfl) (by decide) (fun K hK => ?_)
    refine goes_ Try.func16 (by kernel_rfl) rfl #[] (by rfl) rfl rfl (by (try simp only [List.map_toArray, List.map_cons, List.map_nil]); first | done | rfl) ?_
    with_reducible refine (alive_calls w127).mono ?_
    rintro e w128 ⟨rfl, hb⟩
    refine ⟨_, rfl, ?_⟩
    have HC_219 := lhid (HC_207.out.next hb)
    have FS_220 := lhid (fun k q => Nat.lt_of_lt_of_le (FS_208.out k q) (hb).size)
    have SV_221 := lhid (SV_209.out.next hb)
    have SB_222 := lhid (blk_below SB_210.out hb)
    have HT_223 := lhid (HT_211.out.next hb)
    have SR_224 := lhid (SR_212.out.next hb)
    have XB_225 := lhid (blk_below XB_213.out hb)
    have HB_226 := lhid (below_then HB_214.out HB_214.out.size hb)
    have Q1_227 := lhid (Kd.R_below Q1_215.out hb)
    have U1_228 := lhid (Kd.R_below U1_216.out hb)
    have Q2_229 := lhid (Kd.R_below Q2_217.out hb)
    have U2_230 := lhid (Kd.R_below U2_218.out hb)
    clear HC_207 FS_208 SV_209 SB_210 HT_211 SR_212 XB_213 HB_214 Q1_215 U1_216 Q2_217 U2_218 hb
    refine hK.out _ _ ⟨(six SB_222.out).1, (six SB_222.out).2.1, (six SB_222.out).2.2.1, (six SB_222.out).2.2.2.1, (six SB_222.out).2.2.2.2.1, (six SB_222.out).2.2.2.2.2, (six XB_225.out).1, (six XB_225.out).2.1, (six XB_225.out).2.2.1, (six XB_225.out).2.2.2.1, (six XB_225.out).2.2.2.2.1, (six XB_225.out).2.2.2.2.2⟩ (fun hHeld => ?_)
    clear hK K
    refine norm_ (a' := ?_) ?_ ?_
    rotate_left
    ·
     show Act.put _ (some 153) _ = _
     simp only [Act.put, pS]
     rfl
    refine pu 31 (some 154) 33 4294967295 rfl rfl (v := ?_) (a' := ?_) ?_ ?_ ?_; rotate_left; (intro w'; go_simp; with_reducible rfl); rotate_left; (simp only [Act.put, pS]; rfl)
    refine pu 32 (some 6) 33 8589934591 rfl rfl (v := ?_) (a' := ?_) ?_ ?_ ?_; rotate_left; (intro w'; go_simp; with_reducible rfl); rotate_left; (simp only [Act.put, pS]; rfl)
    refine done_ (by kernel_rfl) ?_
    
    go_wp2_with fail
    go_ret
    exact ⟨rfl, HB_226.out⟩
theorem tenderPlays_pure : kimberlitelaw05_TenderPlays.Pure2 := fun a0 l1 l2 h0 h1 h2 => ⟨0, h0, h1, h2, trivial⟩
end Go.Proofs.Ythfdjccdelbeeaa.PT
end
