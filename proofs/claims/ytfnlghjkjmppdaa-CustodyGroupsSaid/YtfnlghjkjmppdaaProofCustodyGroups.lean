/- CustodyGroups: Could is monotone in the group. The law's function walked by hand. -/
import Derived.Test.YtfnlghjkjmppdaaPCxPureCustodyGroups
import Derived.Test.YtfnlghjkjmppdaaCGp
import Derived.Test.YtfnlghjkjmppdaaPCx2
import Derived.Test.YtfnlghjkjmppdaaPCx20
namespace Go.Proofs.Ytfnlghjkjmppdaa.PC
open Go.RowKit Go.Proofs.YtfnlghjkjmppdaaW.PrintWords Go.Proofs.YtfnlghjkjmppdaaW.PrintLast Go.Proofs.YtfnlghjkjmppdaaW.PrintMore Go.Proofs.Ytfnlghjkjmppdaa.Opn
set_option linter.unusedVariables false
set_option linter.unusedSimpArgs false
set_option maxHeartbeats 12800000 in
set_option maxRecDepth 100000 in
theorem kimberlitelaw06_CustodyGroups.calls (k : Nat) (A0 : Option Addr) (c0 : Nat) (l0 : List (S37)) (a1 a2 a3 : Int) (w : World) (hr0 : Kd.C k37 w A0 l0.length l0) (hc0 : l0.length ≤ c0) (h : kimberlitelaw06_CustodyGroups.ok l0 a1 a2 a3) : Calls Try.prog 5 #[.slice A0 l0.length c0, .int .i64 a1, .int .i64 a2, .int .i64 a3] w fun e w' => e = .returned (.bool true) ∧ Below w.heap.size w w' := by
  have HR0 := lhid hr0
  have HC0 := lhid hc0
  have HK0 := lhid (show ∀ x ∈ l0, 0 ≤ x.f0 ∧ x.f0 < 256 from fun x hx => wf_u8 (h.1.2 x hx).1)
  clear hr0 hc0 h
  go_enter Try.func5, Try.ntmps5
  have HB_1 := lhid (Below.refl w.heap.size w)
  by_cases hfl0 : (l0.length : Int) ≤ 40
  rotate_left
  · go_wp2_with fail
    with_reducible refine (kimberlitelaw06_few.calls A0 c0 l0 false w (Kd.C_below HR0.out HB_1.out) HC0.out (by unfold kimberlitelaw06_few.f; exact congrArg some (decide_eq_false (by omega)))).mono ?_
    rintro e w1 ⟨rfl, nd, hq⟩
    have hb := pw_below_drewN (Below.refl w.heap.size w) nd
    rw [← hq] at hb
    clear hq
    have HB_2 := lhid (below_then HB_1.out HB_1.out.size hb)
    clear HB_1 hb
    go_wp2_with fail
    with_reducible refine (alive_calls w1).mono ?_
    rintro e w902 ⟨rfl, hb⟩
    have HB_3 := lhid (below_then HB_2.out HB_2.out.size hb)
    clear HB_2 hb
    go_wp2_with fail
    go_ret
    exact ⟨rfl, HB_3.out⟩
  go_wp2_with fail
  with_reducible refine (kimberlitelaw06_few.calls A0 c0 l0 true w (Kd.C_below HR0.out HB_1.out) HC0.out (by unfold kimberlitelaw06_few.f; exact congrArg some (decide_eq_true (by omega)))).mono ?_
  rintro e w1 ⟨rfl, nd, hq⟩
  have hb := pw_below_drewN (Below.refl w.heap.size w) nd
  rw [← hq] at hb
  clear hq
  have HB_4 := lhid (below_then HB_1.out HB_1.out.size hb)
  clear HB_1 hb
  have hf : l0.length ≤ 40 := by omega
  clear hfl0
  by_cases p0 : a1 < 0
  · have d0 : decide (a1 < 0) = true := decide_eq_true p0
    go_wp2_with fail
    with_reducible refine (alive_calls w1).mono ?_
    rintro e w902 ⟨rfl, hb⟩
    have HB_5 := lhid (below_then HB_4.out HB_4.out.size hb)
    clear HB_4 hb
    go_wp2_with fail
    go_ret
    exact ⟨rfl, HB_5.out⟩
  have d0 : decide (a1 < 0) = false := decide_eq_false p0
  by_cases p1 : a1 > 65535
  · have d1 : decide (a1 > 65535) = true := decide_eq_true p1
    go_wp2_with fail
    with_reducible refine (alive_calls w1).mono ?_
    rintro e w902 ⟨rfl, hb⟩
    have HB_6 := lhid (below_then HB_4.out HB_4.out.size hb)
    clear HB_4 hb
    go_wp2_with fail
    go_ret
    exact ⟨rfl, HB_6.out⟩
  have d1 : decide (a1 > 65535) = false := decide_eq_false p1
  by_cases p2 : a2 < 0
  · have d2 : decide (a2 < 0) = true := decide_eq_true p2
    go_wp2_with fail
    with_reducible refine (alive_calls w1).mono ?_
    rintro e w902 ⟨rfl, hb⟩
    have HB_7 := lhid (below_then HB_4.out HB_4.out.size hb)
    clear HB_4 hb
    go_wp2_with fail
    go_ret
    exact ⟨rfl, HB_7.out⟩
  have d2 : decide (a2 < 0) = false := decide_eq_false p2
  by_cases p3 : a2 > 65535
  · have d3 : decide (a2 > 65535) = true := decide_eq_true p3
    go_wp2_with fail
    with_reducible refine (alive_calls w1).mono ?_
    rintro e w902 ⟨rfl, hb⟩
    have HB_8 := lhid (below_then HB_4.out HB_4.out.size hb)
    clear HB_4 hb
    go_wp2_with fail
    go_ret
    exact ⟨rfl, HB_8.out⟩
  have d3 : decide (a2 > 65535) = false := decide_eq_false p3
  have hs1 : Sm a1 := ⟨by omega, by omega⟩
  have hs2 : Sm a2 := ⟨by omega, by omega⟩
  have HS1 := lhid hs1
  have HS2 := lhid hs2
  have HSO := lhid (sm_or hs1 hs2)
  clear hs1 hs2
  go_upto_region 3 with (fail)
  clear d0 d1 d2 d3 p0 p1 p2 p3
  go_wp2_with fail
  with_reducible refine (book_calls w1 A0 c0 l0 (Kd.C_below HR0.out HB_4.out) HC0.out hf HK0.out).mono ?_
  rintro e w5 ⟨g, rfl, hs⟩
  have HB0K := HB_4
  have HIR := lhid (run_inv (s := s0) nil_inv l0)
  obtain ⟨⟨F, hk⟩, hb, hz⟩ := hs
  obtain ⟨⟨day, G, E⟩, hst⟩ : ∃ s : St, s = runS s0 l0 := ⟨_, rfl⟩
  rw [← hst] at hk HIR
  clear hst hz
  have HI := lhid (show Inv G from HIR.out)
  have HBK := lhid (show BK w1.heap.size F w5 g day G E from hk)
  clear hk HIR
  have HBB := lhid hb
  have HB_9 := lhid (below_then HB_4.out HB_4.out.size hb)
  clear HB_4 hb
  obtain ⟨orp, horp⟩ : ∃ q, q = bits .or .i64 a1 a2 := ⟨_, rfl⟩
  have HOP := lhid horp
  rw [← horp] at HSO
  clear horp
  go_wp2_with fail
  with_reducible refine (could_ok w1.heap.size g F w5 day G E a1 HBK.out HI.out (sm_lo HS1.out) (sm_hi HS1.out)).mono ?_
  rintro e w7 ⟨rfl, hb⟩
  have HB_10 := lhid (below_then HB_9.out HB_9.out.size hb)
  have HBB_11 := lhid (below_then HBB.out HBB.out.size hb)
  have HBK_12 := lhid (HBK.out.next hb)
  clear HB_9 HBB HBK hb
  go_upto_region 5 with (fail)
  go_wp2_with fail
  rw [← HOP.out]
  with_reducible refine (could_ok w1.heap.size g F w7 day G E orp HBK_12.out HI.out (sm_lo HSO.out) (sm_hi HSO.out)).mono ?_
  rintro e w8 ⟨rfl, hb⟩
  have HB_13 := lhid (below_then HB_10.out HB_10.out.size hb)
  have HBB_14 := lhid (below_then HBB_11.out HBB_11.out.size hb)
  have HBK_15 := lhid (HBK_12.out.next hb)
  clear HB_10 HBB_11 HBK_12 hb
  obtain ⟨x, hx⟩ : ∃ q, q = couldS day G a1 := ⟨_, rfl⟩
  obtain ⟨y, hy⟩ : ∃ q, q = couldS day G orp := ⟨_, rfl⟩
  have e1 : (bits .and .i64 x y != x) = false := bne_eq_false_iff_eq.mpr (by rw [hx, hy, HOP.out]; exact could_within HI.out HS1.out HS2.out)
  rw [← hx, ← hy]
  have HX := lhid hx
  clear hx hy
  go_upto_region 8 with (fail)
  clear e1
  cases hin : inB2 a1 a3
  · go_wp2_with fail
    with_reducible refine (kimberlitelaw06_in.calls a1 a3 false w8 (by rw [in_f HS1.out, hin])).mono ?_
    rintro e w9 ⟨rfl, nd, hq⟩
    have hb := pw_below_drewN (Below.refl w8.heap.size w8) nd
    rw [← hq] at hb
    clear hq
    have HB_16 := lhid (below_then HB_13.out HB_13.out.size hb)
    have HBB_17 := lhid (below_then HBB_14.out HBB_14.out.size hb)
    have HBK_18 := lhid (HBK_15.out.next hb)
    clear HB_13 HBB_14 HBK_15 hb
    go_wp2_with fail
    with_reducible refine (day_calls w1.heap.size g F w9 day G E HBK_18.out).mono ?_
    rintro e w' ⟨rfl, rfl⟩
    go_wp2_with fail
    with_reducible refine (Grant_calls w1.heap.size g F w9 day G E a3 65535 3 day (-1) HBK_18.out).mono ?_
    rintro e w20 ⟨he, hg⟩
    obtain ⟨q1, q2, -, -, rfl⟩ := tup_any he
    have hs20 := Has.got (w0 := w1) (base := w1.heap.size) HBK_18.out HBB_17.out (Nat.le_refl _) hg
    obtain ⟨⟨F2, hk2⟩, hb2, -⟩ := hs20
    have HBK2 := lhid hk2
    have HB2 := lhid (below_then HB0K.out HB0K.out.size hb2)
    clear he hg hk2 hb2
    have HI2 := lhid (show Inv (if grantC G a3 65535 3 day (-1) = 0 then rootG G a3 65535 3 day (-1) else G) from by
      by_cases c : grantC G a3 65535 3 day (-1) = 0
      · rw [if_pos c]; exact inv_root HI.out c
      · rw [if_neg c]; exact HI.out)
    have HCE := lhid (could_root (day := day) HI.out (v := 65535) (r := 3) (u := day) (s := -1) HS1.out (h_ := a3) (fun q => by unfold inB2 at hin; rw [decide_eq_true q.1, decide_eq_true q.2.1, q.2.2] at hin; cases hin))
    obtain ⟨G2, hG2⟩ : ∃ q, q = (if grantC G a3 65535 3 day (-1) = 0 then rootG G a3 65535 3 day (-1) else G) := ⟨_, rfl⟩
    rw [← hG2] at HBK2 HI2 HCE
    clear hG2
    have hzz : (couldS day G2 a1 == x) = true := beq_iff_eq.mpr (by rw [HCE.out, HX.out])
    go_wp2_with fail
    with_reducible refine (could_ok w1.heap.size g F2 w20 day G2 E a1 HBK2.out HI2.out (sm_lo HS1.out) (sm_hi HS1.out)).mono ?_
    rintro e w31 ⟨rfl, hb⟩
    have HB_19 := lhid (below_then HB2.out HB2.out.size hb)
    have HBK_20 := lhid (HBK2.out.next hb)
    clear HB2 HBK2 hb
    go_wp2_with fail
    with_reducible refine (alive_calls w31).mono ?_
    rintro e w932 ⟨rfl, hb⟩
    have HB_21 := lhid (below_then HB_19.out HB_19.out.size hb)
    have HBK_22 := lhid (HBK_20.out.next hb)
    clear HB_19 HBK_20 hb
    go_wp2_with fail
    go_ret
    exact ⟨rfl, HB_21.out⟩
  · go_wp2_with fail
    with_reducible refine (kimberlitelaw06_in.calls a1 a3 true w8 (by rw [in_f HS1.out, hin])).mono ?_
    rintro e w9 ⟨rfl, nd, hq⟩
    have hb := pw_below_drewN (Below.refl w8.heap.size w8) nd
    rw [← hq] at hb
    clear hq
    have HB_23 := lhid (below_then HB_13.out HB_13.out.size hb)
    have HBB_24 := lhid (below_then HBB_14.out HBB_14.out.size hb)
    have HBK_25 := lhid (HBK_15.out.next hb)
    clear HB_13 HBB_14 HBK_15 hb
    go_wp2_with fail
    with_reducible refine (alive_calls w9).mono ?_
    rintro e w910 ⟨rfl, hb⟩
    have HB_26 := lhid (below_then HB_23.out HB_23.out.size hb)
    have HBB_27 := lhid (below_then HBB_24.out HBB_24.out.size hb)
    have HBK_28 := lhid (HBK_25.out.next hb)
    clear HB_23 HBB_24 HBK_25 hb
    go_wp2_with fail
    go_ret
    exact ⟨rfl, HB_26.out⟩
theorem custodyGroups_pure : kimberlitelaw06_CustodyGroups.Pure2 := fun _ _ _ _ h0 h1 h2 h3 => ⟨0, h0, h1, h2, h3, trivial⟩
end Go.Proofs.Ytfnlghjkjmppdaa.PC
