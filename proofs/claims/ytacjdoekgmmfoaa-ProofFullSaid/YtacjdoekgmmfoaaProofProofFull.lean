/- ProofFull: the log accepts exactly the maximum number of entries, and all of them can be proven. The law's function walked by hand. -/
import Derived.Test.YtacjdoekgmmfoaaPLxPureProofFull
import Derived.Test.YtacjdoekgmmfoaaLFu
namespace Go.Proofs.Ytacjdoekgmmfoaa.PL
open Go.RowKit Go.Proofs.YtacjdoekgmmfoaaW.PrintWords Go.Proofs.YtacjdoekgmmfoaaW.PrintLast Go.Proofs.YtacjdoekgmmfoaaW.PrintMore Go.Proofs.Ytacjdoekgmmfoaa.Opn
set_option linter.unusedVariables false
set_option linter.unusedSimpArgs false
theorem wf_u16 {n : Int} (h : (Lit.int .u16 n).wf = true) : 0 ≤ n ∧ n < 65536 := by
  have : 0 ≤ n ∧ n ≤ 65535 := by simpa [Lit.wf, IntKind.min, IntKind.max, IntKind.signed, IntKind.bits] using h
  omega
set_option maxHeartbeats 12800000 in
set_option maxRecDepth 100000 in
theorem kimberlitelaw07_ProofFull.calls (k : Nat) (a0 a1 : Int) (w : World) (h : kimberlitelaw07_ProofFull.ok a0 a1) :
    Calls Try.prog 14 #[.int .u16 a0, .int .u16 a1] w fun e w' => e = .returned (.bool true) ∧ Below w.heap.size w w' := by
  obtain ⟨h0, h1⟩ := wf_u16 h.1
  obtain ⟨h2, h3⟩ := wf_u16 h.2.1
  clear h
  go_enter Try.func14, Try.ntmps14
  go_wp2_with fail
  with_reducible refine (new_calls _).mono ?_
  rintro e w1 ⟨rfl, hG, hb⟩
  have HG0 := lhid (show LG w.heap.size w1 w.heap.size (fullE 0) (fullL 0) from hG)
  have HB0 := lhid hb
  clear hG hb
  go_wp2_with fail
  go_loopw [6] (fun v wr => ∃ i : Nat, i ≤ 4096 ∧ v = .int .i64 i ∧ Hid (LG w.heap.size wr w.heap.size (fullE i) (fullL i)) ∧ Hid (Below w.heap.size w wr)) (fun v _ => 4096 - (intOf v).toNat)
  case atStart => exact ⟨0, Nat.zero_le _, rfl, HG0, HB0⟩
  case round =>
    obtain ⟨i, hi, rfl, HGr_14, HBr_14⟩ := hrel
    clear HG0 HB0
    by_cases hlt : i < 4096
    · have hil : (i : Int) < 4096 := by omega
      go_wp2_with fail
      with_reducible refine (add2_calls w.heap.size wr w.heap.size i _ _ HGr_14.out hlt (fullX_eq i hlt)).mono ?_
      rintro e w9 ⟨rfl, hG, hb⟩
      have HG9 := lhid hG
      have HB9 := lhid (HBr_14.out.trans hb)
      clear hG hb
      go_wp2_with fail
      go_roundw
      case rel =>
        exact ⟨i + 1, by omega, by go_num, HG9, HB9⟩
      case measure => simp [intOf]; omega
    obtain rfl : i = 4096 := by omega
    have HE := lhid (fullE_len 4096)
    have HLL := lhid (fullL_len 4096)
    have HO := lhid (fullL_ok 4096)
    have HGz := lhid (show ∀ j, j < 4096 → (fullL 4096)[j]? = some (leafS (fullX j)) from fun j hj => fullL_get 4096 j hj)
    have HX := lhid (show ∀ j, j < 4096 → (wayS (fullL 4096) j).length = 12 from fun j hj => way_two 12 (fullL 4096) j (by rw [fullL_len]) (by rw [fullL_len]; exact hj))
    obtain ⟨es, hes⟩ : ∃ x, x = fullE 4096 := ⟨_, rfl⟩
    obtain ⟨ls, hls⟩ : ∃ x, x = fullL 4096 := ⟨_, rfl⟩
    rw [← hes, ← hls] at HGr_14
    rw [← hes] at HE
    rw [← hls] at HLL HO
    simp only [← hls] at HGz HX
    clear hes hls hi hlt
    go_wp2_with fail
    with_reducible refine (add_full w.heap.size _ w.heap.size es ls none 0 0 HGr_14.out (by omega) (by rw [HE.out]; exact Nat.le_refl _)).mono ?_
    rintro e w' ⟨rfl, rfl⟩
    go_wp2_with fail
    obtain ⟨n, hn⟩ : ∃ n : Nat, (n : Int) = a0 % 4096 := ⟨(a0 % 4096).toNat, by omega⟩
    obtain ⟨m, hm⟩ : ∃ m : Int, m = 1 + a1 % 4096 := ⟨_, rfl⟩
    have hn1 : n < 4096 := by omega
    have hm1 : 1 ≤ m := by omega
    have hm2 : m ≤ 4096 := by omega
    rw [← hn]
    try rw [← hm]
    clear hn hm h0 h1 h2 h3
    have HL2 := lhid (show ls.take ((4096 : Int)).toNat = ls from take_less_all HLL.out)
    obtain ⟨ki, hki⟩ := Ev.rounds (ev_proof_include _ ls n (Nat.le_refl _) (by rw [HLL.out]; omega) (by rw [HLL.out]; exact hn1) HO.out)
    have HKI := lhid hki
    clear hki
    with_reducible refine (include_calls ki w.heap.size _ w.heap.size es ls (n : Int) 4096 (wayS ls n) HGr_14.out (by omega) (by rw [HLL.out]; omega) (by omega) (by omega) (by rw [HL2.out]; exact HKI.out)).mono ?_
    rintro e w1 ⟨vs, rfl, hS, hb⟩
    have HS_60 := lhid (Kd.R_lower hS HBr_14.out.size)
    clear hS
    have HG_62 := lhid (HGr_14.out.next hb)
    have HB_63 := lhid (below_then HBr_14.out HBr_14.out.size hb)
    clear HGr_14 HBr_14 hb
    obtain ⟨As, cs, rfl⟩ := Kd.R_slice HS_60.out
    obtain ⟨kt, hkt⟩ := Ev.rounds (ev_rootL ls (by rw [HLL.out]; exact Nat.le_refl _) HO.out)
    have HKT := lhid hkt
    clear hkt
    go_wp2_with fail
    have hb := below_alloc (Below.refl w1.heap.size w1) (.cells #[.int .u8 ((n : Int) % 256), .int .u8 ((n : Int) / 256)] 5)
    have hn := blk_new w1 (.cells #[.int .u8 ((n : Int) % 256), .int .u8 ((n : Int) / 256)] 5)
    generalize hq : World.alloc w1 (.cells #[.int .u8 ((n : Int) % 256), .int .u8 ((n : Int) / 256)] 5) = w2 at hb hn ⊢
    clear hq
    have HG_74 := lhid (HG_62.out.next hb)
    have HB_75 := lhid (below_then HB_63.out HB_63.out.size hb)
    have HS_76 := lhid (Kd.R_below HS_60.out hb)
    clear HG_62 HB_63 HS_60 hb
    have HLT := lhid (lit2_C w2 w1.heap.size _ _ (0, 0) hn)
    rw [fullX_eq n hn1] at HLT
    clear hn
    with_reducible refine (root_calls kt w.heap.size _ w.heap.size es ls (top ls) HG_74.out HKT.out).mono ?_
    rintro e w3 ⟨rfl, hb⟩
    have HG_83 := lhid (HG_74.out.next hb)
    have HB_84 := lhid (below_then HB_75.out HB_75.out.size hb)
    have HS_85 := lhid (Kd.R_below HS_76.out hb)
    have HLT_86 := lhid (Kd.C_below HLT.out hb)
    clear HG_74 HB_75 HS_76 HLT hb
    obtain ⟨k4, hk4⟩ := Ev.rounds (incl_val ls (by rw [HLL.out]; exact Nat.le_refl _) HO.out (fullX n) (by simp [fullX]) n (by rw [HLL.out]; exact hn1) (by have q := HGz.out n hn1; rw [List.getElem?_eq_getElem (by rw [HLL.out]; exact hn1)] at q; exact (Option.some.inj q).symm))
    rw [HLL.out] at hk4
    have HK4 := lhid (show proof_Included.f k4 (fullX n) (n : Int) 4096 (top ls) (wayS ls n) = some (true, 0) from hk4)
    clear hk4
    obtain ⟨_, hcx, hCX⟩ := Kd.R_reads' HS_85.out
    have HCS := lhid hCX
    have HHS := lhid hcx
    clear hCX hcx
    have hI := proof_Included.calls k4 _ 2 (fullX n) (n : Int) 4096 (top ls) As cs _ true 0 w3 HLT_86.out (Nat.le_refl _) HCS.out HHS.out HK4.out
    rw [show (fullX n).length = 2 from rfl, HX.out n hn1] at hI
    have HI := lhid hI
    have hwl := HX.out n hn1
    clear hI
    go_wp2_with fail
    with_reducible refine (HI.out).mono ?_
    rintro e w4 ⟨rfl, hb⟩
    have HG_104 := lhid (HG_83.out.next hb)
    have HB_105 := lhid (below_then HB_84.out HB_84.out.size hb)
    have HS_106 := lhid (Kd.R_below HS_85.out hb)
    have HLT_107 := lhid (Kd.C_below HLT_86.out hb)
    clear HG_83 HB_84 HS_85 HLT_86 hb
    clear HI
    clear HCS HHS HK4
    obtain ⟨kx, hkx⟩ := Ev.rounds (ev_extL ls (by rw [HLL.out]; exact Nat.le_refl _) HO.out (m : Int) (by omega) (by rw [HLL.out]; omega))
    have HKX := lhid hkx
    clear hkx
    go_wp2_with fail
    with_reducible refine (extend_calls kx w.heap.size _ w.heap.size es ls (m : Int) 4096 (extS ls (m : Int).toNat true) HG_104.out (by omega) (by omega) (by rw [HLL.out]; omega) (by rw [HL2.out]; exact HKX.out)).mono ?_
    rintro e w5 ⟨vx, rfl, hx, hb⟩
    have HXT_117 := lhid (Kd.R_lower hx HB_105.out.size)
    clear hx
    have HG_119 := lhid (HG_104.out.next hb)
    have HB_120 := lhid (below_then HB_105.out HB_105.out.size hb)
    have HS_121 := lhid (Kd.R_below HS_106.out hb)
    have HLT_122 := lhid (Kd.C_below HLT_107.out hb)
    clear HG_104 HB_105 HS_106 HLT_107 hb
    obtain ⟨Ax, cx, rfl⟩ := Kd.R_slice HXT_117.out
    obtain ⟨ko, hko⟩ := Ev.rounds (ev_rootL (ls.take (m : Int).toNat) (by rw [List.length_take, HLL.out]; omega) (fun x hx => HO.out x (List.mem_of_mem_take hx)))
    have HKO := lhid hko
    clear hko
    go_wp2_with fail
    with_reducible refine (rootAt_calls ko w.heap.size _ w.heap.size es ls (m : Int) (top (ls.take (m : Int).toNat)) HG_119.out (by omega) (by rw [HLL.out]; omega) HKO.out).mono ?_
    rintro e w6 ⟨rfl, hb⟩
    have HG_131 := lhid (HG_119.out.next hb)
    have HB_132 := lhid (below_then HB_120.out HB_120.out.size hb)
    have HS_133 := lhid (Kd.R_below HS_121.out hb)
    have HLT_134 := lhid (Kd.C_below HLT_122.out hb)
    have HXT_135 := lhid (Kd.R_below HXT_117.out hb)
    clear HG_119 HB_120 HS_121 HLT_122 HXT_117 hb
    go_wp2_with fail
    with_reducible refine (root_calls kt w.heap.size _ w.heap.size es ls (top ls) HG_131.out HKT.out).mono ?_
    rintro e w7 ⟨rfl, hb⟩
    have HG_140 := lhid (HG_131.out.next hb)
    have HB_141 := lhid (below_then HB_132.out HB_132.out.size hb)
    have HS_142 := lhid (Kd.R_below HS_133.out hb)
    have HLT_143 := lhid (Kd.C_below HLT_134.out hb)
    have HXT_144 := lhid (Kd.R_below HXT_135.out hb)
    clear HG_131 HB_132 HS_133 HLT_134 HXT_135 hb
    obtain ⟨k5, hk5⟩ := Ev.rounds (ext_val ls (by rw [HLL.out]; exact Nat.le_refl _) HO.out (m : Int) (by omega) (by rw [HLL.out]; omega) (top ls) [])
    rw [List.append_nil, List.isEmpty_nil, beq_self_eq_true, Bool.and_self, HLL.out] at hk5
    have HK5 := lhid (show proof_Extended.f k5 (m : Int) 4096 (top (ls.take (m : Int).toNat)) (top ls) (extS ls (m : Int).toNat true) = some (true, 0) from hk5)
    clear hk5
    obtain ⟨_, hcx, hCX⟩ := Kd.R_reads' HXT_144.out
    have HCX := lhid hCX
    have HHX := lhid hcx
    clear hCX hcx
    go_wp2_with fail
    with_reducible refine (proof_Extended.calls k5 (m : Int) 4096 _ (top ls) Ax cx _ true 0 _ HCX.out HHX.out HK5.out).mono ?_
    rintro e w8 ⟨rfl, hb⟩
    have HG_157 := lhid (HG_140.out.next hb)
    have HB_158 := lhid (below_then HB_141.out HB_141.out.size hb)
    have HS_159 := lhid (Kd.R_below HS_142.out hb)
    have HLT_160 := lhid (Kd.C_below HLT_143.out hb)
    have HXT_161 := lhid (Kd.R_below HXT_144.out hb)
    clear HG_140 HB_141 HS_142 HLT_143 HXT_144 hb
    have hel : es.length = 4096 := HE.out
    go_wp2_with fail
    with_reducible refine (len_calls w.heap.size _ w.heap.size es ls HG_157.out).mono ?_
    rintro e w' ⟨rfl, rfl⟩
    go_wp2_with fail
    with_reducible refine (kimberlitelaw07_alive.calls 0 true _ rfl).mono ?_
    rintro e w9 ⟨rfl, hb⟩
    have HG_170 := lhid (HG_157.out.next hb)
    have HB_171 := lhid (below_then HB_158.out HB_158.out.size hb)
    have HS_172 := lhid (Kd.R_below HS_159.out hb)
    have HLT_173 := lhid (Kd.C_below HLT_160.out hb)
    have HXT_174 := lhid (Kd.R_below HXT_161.out hb)
    clear HG_157 HB_158 HS_159 HLT_160 HXT_161 hb
    go_wp2_with fail
    go_ret
    exact ⟨rfl, HB_171.out⟩
theorem proofFull_pure : kimberlitelaw07_ProofFull.Pure2 := fun _ _ h0 h1 => ⟨0, h0, h1, trivial⟩
end Go.Proofs.Ytacjdoekgmmfoaa.PL
