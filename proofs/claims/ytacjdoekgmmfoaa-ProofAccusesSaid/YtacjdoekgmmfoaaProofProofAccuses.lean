/- ProofAccuses: Accuse answers as the specification does. The law's function walked by hand. -/
import Derived.Test.YtacjdoekgmmfoaaPLxPureProofAccuses
import Derived.Test.YtacjdoekgmmfoaaLAc
import Derived.Test.YtacjdoekgmmfoaaPLx7
namespace Go.Proofs.Ytacjdoekgmmfoaa.PL
open Go.RowKit Go.Proofs.YtacjdoekgmmfoaaW.PrintWords Go.Proofs.YtacjdoekgmmfoaaW.PrintLast Go.Proofs.YtacjdoekgmmfoaaW.PrintMore Go.Proofs.Ytacjdoekgmmfoaa.Opn
set_option linter.unusedVariables false
set_option linter.unusedSimpArgs false
set_option maxHeartbeats 12800000 in
set_option maxRecDepth 100000 in
theorem kimberlitelaw07_ProofAccuses.calls (k : Nat) (a0 a1 : Int) (A2_0 : Option Addr) (c2_0 : Nat) (l2_0 : List Int) (A2_1 : Option Addr) (c2_1 : Nat) (l2_1 : List S54) (A3_0 : Option Addr) (c3_0 : Nat) (l3_0 : List Int) (A3_1 : Option Addr) (c3_1 : Nat) (l3_1 : List S54) (w : World)
    (hr2_0 : Kd.C (Kd.int .u8) w A2_0 l2_0.length l2_0) (hc2_0 : l2_0.length ≤ c2_0) (hr2_1 : Kd.C k54 w A2_1 l2_1.length l2_1) (hc2_1 : l2_1.length ≤ c2_1) (hr3_0 : Kd.C (Kd.int .u8) w A3_0 l3_0.length l3_0) (hc3_0 : l3_0.length ≤ c3_0) (hr3_1 : Kd.C k54 w A3_1 l3_1.length l3_1) (hc3_1 : l3_1.length ≤ c3_1) (h : kimberlitelaw07_ProofAccuses.ok a0 a1 l2_0 l2_1 l3_0 l3_1) :
    Calls Try.prog 3 #[.int .i64 a0, .int .i64 a1, .agg #[.slice A2_0 l2_0.length c2_0, .slice A2_1 l2_1.length c2_1], .agg #[.slice A3_0 l3_0.length c3_0, .slice A3_1 l3_1.length c3_1]] w fun e w' => e = .returned (.bool true) ∧ Below w.heap.size w w' := by
  have HR2_0 := lhid hr2_0
  have HC2_0 := lhid hc2_0
  have HR2_1 := lhid hr2_1
  have HC2_1 := lhid hc2_1
  have HR3_0 := lhid hr3_0
  have HC3_0 := lhid hc3_0
  have HR3_1 := lhid hr3_1
  have HC3_1 := lhid hc3_1
  have HOK := lhid h
  clear h hr2_0 hc2_0 hr2_1 hc2_1 hr3_0 hc3_0 hr3_1 hc3_1
  have hu25 := Try.underlying25
  have hu28 := Try.underlying28
  go_enter Try.func3, Try.ntmps3
  have HB_13 := lhid (Below.refl w.heap.size w)
  by_cases hsz : (l2_0.length ≤ 400 ∧ l3_0.length ≤ 400) ∧ l2_1.length ≤ 100 ∧ l3_1.length ≤ 100
  · obtain ⟨⟨hz1, hz2⟩, hz3, hz4⟩ := hsz
    have HZ1 := lhid hz1
    have HZ2 := lhid hz2
    have HZ3 := lhid hz3
    have HZ4 := lhid hz4
    obtain ⟨_, _, ⟨⟨_, hb1⟩, ⟨_, hs1⟩⟩, ⟨⟨_, hb2⟩, ⟨_, hs2⟩⟩, _⟩ := HOK.out
    have ho1 : ∀ s ∈ l2_1, okH s.f0 := fun s q => wf_u64 (hs1 s q).1
    have ho2 : ∀ s ∈ l3_1, okH s.f0 := fun s q => wf_u64 (hs2 s q).1
    have hB1 : byteL l2_0 := fun x q => wf_u8' (hb1 x q)
    have hB2 : byteL l3_0 := fun x q => wf_u8' (hb2 x q)
    obtain ⟨k1, hk1⟩ := Ev.rounds (ev_Accuse a0 a1 l2_0 l2_1 l3_0 l3_1 hB1 hB2 (by omega) (by omega) ho1 ho2)
    obtain ⟨k2, hk2⟩ := Ev.rounds (ev_rAccuse a0 a1 l2_0 l2_1 l3_0 l3_1 hB1 hB2 (by omega) (by omega) ho1 ho2)
    generalize accS a0 a1 l2_0 l2_1 l3_0 l3_1 = r at hk1 hk2
    obtain ⟨r1, r2, r3⟩ := r
    have HK1 := lhid hk1
    have HK2 := lhid hk2
    clear hk1 hk2 hb1 hb2 hs1 hs2 ho1 ho2 hB1 hB2 HOK
    go_wp2_with fail
    have hb := below_alloc (Below.refl w.heap.size w) (.cells #[.slice A2_0 l2_0.length c2_0, .slice A2_1 l2_1.length c2_1] 25)
    have hn := blk_new w (.cells #[.slice A2_0 l2_0.length c2_0, .slice A2_1 l2_1.length c2_1] 25)
    have HZ1 := lhid (show (World.alloc w (.cells #[.slice A2_0 l2_0.length c2_0, .slice A2_1 l2_1.length c2_1] 25)).heap.size = w.heap.size + 1 from by simp)
    generalize hq : World.alloc w (.cells #[.slice A2_0 l2_0.length c2_0, .slice A2_1 l2_1.length c2_1] 25) = w1 at hb hn HZ1 ⊢
    clear hq
    have HR2_0_38 := lhid (Kd.C_below HR2_0.out hb)
    have HR2_1_39 := lhid (Kd.C_below HR2_1.out hb)
    have HR3_0_40 := lhid (Kd.C_below HR3_0.out hb)
    have HR3_1_41 := lhid (Kd.C_below HR3_1.out hb)
    have HB_42 := lhid (below_then HB_13.out HB_13.out.size hb)
    clear HR2_0 HR2_1 HR3_0 HR3_1 HB_13 hb
    have HN1 := lhid hn
    clear hn
    have hb := below_alloc (Below.refl w1.heap.size w1) (.cells #[.slice A3_0 l3_0.length c3_0, .slice A3_1 l3_1.length c3_1] 25)
    have hn := blk_new w1 (.cells #[.slice A3_0 l3_0.length c3_0, .slice A3_1 l3_1.length c3_1] 25)
    have HZ2 := lhid (show (World.alloc w1 (.cells #[.slice A3_0 l3_0.length c3_0, .slice A3_1 l3_1.length c3_1] 25)).heap.size = w1.heap.size + 1 from by simp)
    generalize hq : World.alloc w1 (.cells #[.slice A3_0 l3_0.length c3_0, .slice A3_1 l3_1.length c3_1] 25) = w2 at hb hn HZ2 ⊢
    clear hq
    have HR2_0_51 := lhid (Kd.C_below HR2_0_38.out hb)
    have HR2_1_52 := lhid (Kd.C_below HR2_1_39.out hb)
    have HR3_0_53 := lhid (Kd.C_below HR3_0_40.out hb)
    have HR3_1_54 := lhid (Kd.C_below HR3_1_41.out hb)
    have HB_55 := lhid (below_then HB_42.out HB_42.out.size hb)
    have HN1_56 := lhid (blk_below HN1.out hb)
    clear HR2_0_38 HR2_1_39 HR3_0_40 HR3_1_41 HB_42 HN1 hb
    rw [HZ1.out] at hn
    have HN2 := lhid hn
    clear hn
    with_reducible refine (proof_Accuse.calls k1 a0 a1 A2_0 c2_0 l2_0 A2_1 c2_1 l2_1 A3_0 c3_0 l3_0 A3_1 c3_1 l3_1 r1 r2 r3 w2 HR2_0_51.out HC2_0.out HR2_1_52.out HC2_1.out HR3_0_53.out HC3_0.out HR3_1_54.out HC3_1.out HK1.out).mono ?_
    rintro e w3 ⟨v0, v1, rfl, hX, hY, hb⟩
    have HX_63 := lhid (Kd.R_lower hX HB_55.out.size)
    clear hX
    have HY_65 := lhid (Kd.R_lower hY HB_55.out.size)
    clear hY
    have HR2_0_67 := lhid (Kd.C_below HR2_0_51.out hb)
    have HR2_1_68 := lhid (Kd.C_below HR2_1_52.out hb)
    have HR3_0_69 := lhid (Kd.C_below HR3_0_53.out hb)
    have HR3_1_70 := lhid (Kd.C_below HR3_1_54.out hb)
    have HB_71 := lhid (below_then HB_55.out HB_55.out.size hb)
    have HN1_72 := lhid (blk_below HN1_56.out hb)
    have HN2_73 := lhid (blk_below HN2.out hb)
    clear HR2_0_51 HR2_1_52 HR3_0_53 HR3_1_54 HB_55 HN1_56 HN2 hb
    obtain ⟨B0, e0, rfl⟩ := Kd.R_slice HX_63.out
    obtain ⟨B1, e1, rfl⟩ := Kd.R_slice HY_65.out
    go_upto_region 4 with (fail)
    have hb := below_alloc (Below.refl w3.heap.size w3) (.cells #[.slice B0 r1.length e0, .slice B1 r2.length e1] 28)
    have hn := blk_new w3 (.cells #[.slice B0 r1.length e0, .slice B1 r2.length e1] 28)
    have HZ4 := lhid (show (World.alloc w3 (.cells #[.slice B0 r1.length e0, .slice B1 r2.length e1] 28)).heap.size = w3.heap.size + 1 from by simp)
    generalize hq : World.alloc w3 (.cells #[.slice B0 r1.length e0, .slice B1 r2.length e1] 28) = w4 at hb hn HZ4 ⊢
    clear hq
    have HR2_0_83 := lhid (Kd.C_below HR2_0_67.out hb)
    have HR2_1_84 := lhid (Kd.C_below HR2_1_68.out hb)
    have HR3_0_85 := lhid (Kd.C_below HR3_0_69.out hb)
    have HR3_1_86 := lhid (Kd.C_below HR3_1_70.out hb)
    have HB_87 := lhid (below_then HB_71.out HB_71.out.size hb)
    have HN1_88 := lhid (blk_below HN1_72.out hb)
    have HN2_89 := lhid (blk_below HN2_73.out hb)
    have HX_90 := lhid (Kd.R_below HX_63.out hb)
    have HY_91 := lhid (Kd.R_below HY_65.out hb)
    clear HR2_0_67 HR2_1_68 HR3_0_69 HR3_1_70 HB_71 HN1_72 HN2_73 HX_63 HY_65 hb
    have HN3 := lhid hn
    clear hn
    have hc10 := blk_cell HN1_88.out 0
    have hc11 := blk_cell HN1_88.out 1
    simp only [List.getElem?_toArray, List.getElem?_cons_zero, List.getElem?_cons_succ] at hc10 hc11
    have hc20 := blk_cell HN2_89.out 0
    have hc21 := blk_cell HN2_89.out 1
    simp only [List.getElem?_toArray, List.getElem?_cons_zero, List.getElem?_cons_succ] at hc20 hc21
    go_wp2_with fail
    with_reducible refine (kimberliteref07_Accuse.calls k2 a0 a1 A2_0 c2_0 l2_0 A2_1 c2_1 l2_1 A3_0 c3_0 l3_0 A3_1 c3_1 l3_1 r1 r2 r3 w4 HR2_0_83.out HC2_0.out HR2_1_84.out HC2_1.out HR3_0_85.out HC3_0.out HR3_1_86.out HC3_1.out HK2.out).mono ?_
    rintro e w5 ⟨v2, v3, rfl, hV, hU, hb⟩
    have HR2_0_104 := lhid (Kd.C_below HR2_0_83.out hb)
    have HR2_1_105 := lhid (Kd.C_below HR2_1_84.out hb)
    have HR3_0_106 := lhid (Kd.C_below HR3_0_85.out hb)
    have HR3_1_107 := lhid (Kd.C_below HR3_1_86.out hb)
    have HB_108 := lhid (below_then HB_87.out HB_87.out.size hb)
    have HN1_109 := lhid (blk_below HN1_88.out hb)
    have HN2_110 := lhid (blk_below HN2_89.out hb)
    have HX_111 := lhid (Kd.R_below HX_90.out hb)
    have HY_112 := lhid (Kd.R_below HY_91.out hb)
    have HN3_113 := lhid (blk_below HN3.out hb)
    clear HR2_0_83 HR2_1_84 HR3_0_85 HR3_1_86 HB_87 HN1_88 HN2_89 HX_90 HY_91 HN3 hb
    clear hc10 hc11 hc20 hc21
    obtain ⟨B2, e2, rfl, hV1, hV2⟩ := hV
    obtain ⟨B3, e3, rfl, hU1, hU2⟩ := hU
    have HV2 := lhid (Kd.F_now hV2)
    have HU2 := lhid (Kd.F_now hU2)
    clear hV1 hV2 hU1 hU2
    go_upto_region 5 with (fail)
    have hb := below_alloc (Below.refl w5.heap.size w5) (.cells #[.slice B2 r1.length e2, .slice B3 r2.length e3] 28)
    have hn := blk_new w5 (.cells #[.slice B2 r1.length e2, .slice B3 r2.length e3] 28)
    have HZ6 := lhid (show (World.alloc w5 (.cells #[.slice B2 r1.length e2, .slice B3 r2.length e3] 28)).heap.size = w5.heap.size + 1 from by simp)
    generalize hq : World.alloc w5 (.cells #[.slice B2 r1.length e2, .slice B3 r2.length e3] 28) = w6 at hb hn HZ6 ⊢
    clear hq
    have HR2_0_127 := lhid (Kd.C_below HR2_0_104.out hb)
    have HR2_1_128 := lhid (Kd.C_below HR2_1_105.out hb)
    have HR3_0_129 := lhid (Kd.C_below HR3_0_106.out hb)
    have HR3_1_130 := lhid (Kd.C_below HR3_1_107.out hb)
    have HB_131 := lhid (below_then HB_108.out HB_108.out.size hb)
    have HN1_132 := lhid (blk_below HN1_109.out hb)
    have HN2_133 := lhid (blk_below HN2_110.out hb)
    have HX_134 := lhid (Kd.R_below HX_111.out hb)
    have HY_135 := lhid (Kd.R_below HY_112.out hb)
    have HN3_136 := lhid (blk_below HN3_113.out hb)
    have HV_137 := lhid (Kd.C_below HV2.out hb)
    have HU_138 := lhid (Kd.C_below HU2.out hb)
    clear HR2_0_104 HR2_1_105 HR3_0_106 HR3_1_107 HB_108 HN1_109 HN2_110 HX_111 HY_112 HN3_113 HV2 HU2 hb
    have HN4 := lhid hn
    clear hn
    have hc30 := blk_cell HN3_136.out 0
    have hc31 := blk_cell HN3_136.out 1
    simp only [List.getElem?_toArray, List.getElem?_cons_zero, List.getElem?_cons_succ] at hc30 hc31
    have hc40 := blk_cell HN4.out 0
    have hc41 := blk_cell HN4.out 1
    simp only [List.getElem?_toArray, List.getElem?_cons_zero, List.getElem?_cons_succ] at hc40 hc41
    have hs1 := own_string (P := Try.prog) Try.underlying22 Try.underlying5 Try.underlying9 (Kd.own_of_R HX_134.out)
    have hs2 := own_string (P := Try.prog) Try.underlying22 Try.underlying5 Try.underlying9 (Kd.own_of_R HY_135.out)
    have hs3 := Kd.C_string (P := Try.prog) (A := B2) (c := e2) Try.underlying22 Try.underlying5 Try.underlying9 HV_137.out
    have hs4 := Kd.C_string (P := Try.prog) (A := B3) (c := e3) Try.underlying22 Try.underlying5 Try.underlying9 HU_138.out
    go_wp2_with fail
    with_reducible refine (kimberlitelaw07_alive.calls 0 true _ rfl).mono ?_
    rintro e w7 ⟨rfl, hb⟩
    have HR2_0_155 := lhid (Kd.C_below HR2_0_127.out hb)
    have HR2_1_156 := lhid (Kd.C_below HR2_1_128.out hb)
    have HR3_0_157 := lhid (Kd.C_below HR3_0_129.out hb)
    have HR3_1_158 := lhid (Kd.C_below HR3_1_130.out hb)
    have HB_159 := lhid (below_then HB_131.out HB_131.out.size hb)
    have HN1_160 := lhid (blk_below HN1_132.out hb)
    have HN2_161 := lhid (blk_below HN2_133.out hb)
    have HX_162 := lhid (Kd.R_below HX_134.out hb)
    have HY_163 := lhid (Kd.R_below HY_135.out hb)
    have HN3_164 := lhid (blk_below HN3_136.out hb)
    have HV_165 := lhid (Kd.C_below HV_137.out hb)
    have HU_166 := lhid (Kd.C_below HU_138.out hb)
    have HN4_167 := lhid (blk_below HN4.out hb)
    clear HR2_0_127 HR2_1_128 HR3_0_129 HR3_1_130 HB_131 HN1_132 HN2_133 HX_134 HY_135 HN3_136 HV_137 HU_138 HN4 hb
    go_wp2_with fail
    go_ret
    exact ⟨rfl, HB_159.out⟩
  · have h4 : (((400 : Int) < l2_0.length ∨ (400 : Int) < l3_0.length) ∨ (100 : Int) < l2_1.length) ∨ (100 : Int) < l3_1.length := by omega
    clear hsz
    go_wp2_with fail
    all_goals ((with_reducible refine (kimberlitelaw07_alive.calls 0 true _ rfl).mono ?_); rintro e w3 ⟨rfl, hb⟩; go_wp2_with fail; go_ret; exact ⟨rfl, below_then (below_alloc (below_alloc (Below.refl _ _) _) _) (below_alloc (below_alloc (Below.refl _ _) _) _).size hb⟩)
theorem proofAccuses_pure : kimberlitelaw07_ProofAccuses.Pure2 := fun _ _ _ _ _ _ h0 h1 h2 h3 => ⟨0, h0, h1, h2, h3, trivial⟩
end Go.Proofs.Ytacjdoekgmmfoaa.PL
