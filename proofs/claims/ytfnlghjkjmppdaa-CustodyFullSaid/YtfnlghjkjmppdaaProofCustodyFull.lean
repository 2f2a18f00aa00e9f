/- CustodyFull: the book accepts exactly the maximum number of grants. The law's function walked by hand. -/
import Derived.Test.YtfnlghjkjmppdaaPCxPureCustodyFull
import Derived.Test.YtfnlghjkjmppdaaCLw
namespace Go.Proofs.Ytfnlghjkjmppdaa.PC
open Go.RowKit Go.Proofs.YtfnlghjkjmppdaaW.PrintWords Go.Proofs.YtfnlghjkjmppdaaW.PrintLast Go.Proofs.YtfnlghjkjmppdaaW.PrintMore Go.Proofs.Ytfnlghjkjmppdaa.Opn
set_option linter.unusedVariables false
set_option linter.unusedSimpArgs false
theorem wf_u8 {n : Int} (h : (Lit.int .u8 n).wf = true) : 0 ≤ n ∧ n < 256 := by
  have : 0 ≤ n ∧ n ≤ 255 := by simpa [Lit.wf, IntKind.min, IntKind.max, IntKind.signed, IntKind.bits] using h
  omega
def fullG (u : Int) : Nat → List S39
  | 0 => []
  | n + 1 => rootG (fullG u n) (((n : Int) + 1) % 16) 1 3 5 (1 + u)
theorem fullG_len (u : Int) : ∀ n, (fullG u n).length = n
  | 0 => rfl
  | n + 1 => by show (rootG (fullG u n) _ 1 3 5 (1 + u)).length = n + 1; unfold rootG; rw [List.length_append, fullG_len u n]; rfl
theorem full_c {u : Int} (h0 : 0 ≤ u) (h1 : u < 256) {n : Nat} (hn : n < 128) : grantC (fullG u n) (((n : Int) + 1) % 16) 1 3 5 (1 + u) = 0 := by
  unfold grantC
  rw [if_pos (mayB_iff.2 ⟨by omega, by omega, by omega, by omega, by omega, by omega, by omega, by omega, Or.inr ⟨by omega, by omega⟩⟩), fullG_len, if_neg (by omega)]
theorem full_inv {u : Int} (h0 : 0 ≤ u) (h1 : u < 256) : ∀ n : Nat, n ≤ 128 → Inv (fullG u n)
  | 0, _ => nil_inv
  | n + 1, h => inv_root (full_inv h0 h1 n (by omega)) (full_c h0 h1 (by omega))
theorem full_tree {u : Int} (h0 : 0 ≤ u) (h1 : u < 256) : Tree (fullG u 128) := (full_inv h0 h1 128 (by omega)).1
theorem full_gr (u : Int) : ∀ n : Nat, gr (fullG u (n + 1)) 1 = ⟨1, 0, 1, 1, 1, 3, 5, 1 + u, false⟩
  | 0 => rfl
  | n + 1 => by
    have h := full_gr u n
    show gr (rootG (fullG u (n + 1)) _ 1 3 5 (1 + u)) 1 = _
    unfold rootG
    rw [gr_app_old _ _ 1 (by omega) (by rw [fullG_len]; omega)]; exact h
theorem full_gr1 (u : Int) : gr (fullG u 128) 1 = ⟨1, 0, 1, 1, 1, 3, 5, 1 + u, false⟩ := full_gr u 127
theorem full_up {u : Int} (h0 : 0 ≤ u) (h1 : u < 256) : up (fullG u 128) 1 = [1] := up_root (full_inv h0 h1 128 (by omega)).1 (by omega) (by rw [fullG_len]; omega) (by rw [full_gr1])
theorem full_g8 (u : Int) : grantC (fullG u 128) 0 1 1 5 1 = 8 := by
  unfold grantC; rw [fullG_len]; decide
theorem full_p8 {u : Int} (h0 : 0 ≤ u) (h1 : u < 256) : passC 0 (fullG u 128) 1 1 2 1 1 5 1 = 8 := by
  have hr : rightB 0 (fullG u 128) 1 1 1 1 5 1 = true := by
    unfold rightB stB revB
    rw [full_up h0 h1]
    simp only [List.any_cons, List.any_nil]
    rw [full_gr1]
    simp only
    rw [show decide ((1 : Int) ≤ 1 + u) = true from decide_eq_true (by omega)]
    simp only [Bool.and_true, Bool.or_true]
    rw [show bits .and .i64 3 2 = 2 by decide +kernel, show bits .andNot .i64 1 1 = 0 by decide +kernel, show bits .andNot .i64 1 3 = 0 by decide +kernel]
    simp
  unfold passC
  rw [fullG_len, show ((1 : Int)).toNat = 1 from rfl, hr]; decide
theorem full_p12 (u : Int) : passC 0 (fullG u 128) 1 2 2 1 1 5 1 = 12 := by
  have hr : rightB 0 (fullG u 128) 1 2 1 1 5 1 = false := by
    unfold rightB
    rw [full_gr1]
    simp only
    rw [show ((2 : Int) == 1) = false from rfl]; simp only [Bool.false_and]
  unfold passC
  rw [fullG_len, show ((1 : Int)).toNat = 1 from rfl, hr]; decide
set_option maxHeartbeats 3200000 in
set_option maxRecDepth 100000 in
theorem kimberlitelaw06_CustodyFull.calls (k : Nat) (a0 : Int) (w : World) (h : kimberlitelaw06_CustodyFull.ok a0) : Calls Try.prog 3 #[.int .u8 a0] w fun e w' => e = .returned (.bool true) ∧ Below w.heap.size w w' := by
  obtain ⟨hu0, hu1⟩ := wf_u8 h.1
  clear h
  have HU := lhid (And.intro hu0 hu1)
  go_enter Try.func3, Try.ntmps3
  go_wp2_with fail
  with_reducible refine (new_has w).mono ?_
  rintro e w1 ⟨g, rfl, h1⟩
  have HS0 := lhid (show Has w.heap.size w w1 g ⟨0, fullG a0 0, []⟩ from h1)
  clear h1
  go_upto_region 5 with (fail)
  go_loopw [4] (fun t wr => ∃ i : Nat, i ≤ 128 ∧ t = .int .i64 ((i : Int) + 1) ∧ Hid (Has w.heap.size w wr g ⟨0, fullG a0 i, []⟩)) (fun t _ => 130 - (intOf t).toNat)
  case atStart => exact ⟨0, by omega, rfl, HS0⟩
  case round =>
    obtain ⟨i, hi, rfl, HSr⟩ := hrel
    clear HS0
    obtain ⟨⟨F, hk⟩, hb, hz⟩ := HSr.out
    have HK := lhid (And.intro hk (And.intro hb hz))
    clear hk hb hz
    by_cases hlt : i < 128
    · have hd : decide ((i : Int) + 1 ≤ 128) = true := decide_eq_true (by omega)
      have htm : ((i : Int) + 1).tmod 16 = ((i : Int) + 1) % 16 := Int.tmod_eq_emod_of_nonneg (by omega)
      go_wp2_with fail
      with_reducible refine (Grant_calls w.heap.size g F wr 0 (fullG a0 i) [] (((i : Int) + 1) % 16) 1 3 5 (1 + a0) HK.out.1).mono ?_
      rintro e w3 ⟨rfl, hg⟩
      rw [full_c HU.out.1 HU.out.2 hlt, if_pos rfl] at hg
      rw [full_c HU.out.1 HU.out.2 hlt, if_pos rfl, fullG_len]
      have HS3 := lhid (show Has w.heap.size w w3 g ⟨0, fullG a0 (i + 1), []⟩ from Has.got HK.out.1 HK.out.2.1 HK.out.2.2 hg)
      clear hg
      go_wp2_with fail
      go_roundw
      case rel => exact ⟨i + 1, by omega, by simp, HS3⟩
      case measure => simp [intOf]; omega
    · have hie : i = 128 := by omega
      subst hie
      have hd : decide (((128 : Nat) : Int) + 1 ≤ 128) = false := rfl
      simp only [show ((128 : Nat) : Int) + 1 = 129 from rfl] at hd ⊢
      go_upto_region 10 with (fail)
      go_wp2_with fail
      with_reducible refine (Grant_calls w.heap.size g F wr 0 (fullG a0 128) [] 0 1 1 5 1 HK.out.1).mono ?_
      rintro e w3 ⟨rfl, hg⟩
      rw [full_g8, if_neg (by decide)] at hg
      rw [full_g8, if_neg (by decide)]
      have HS3 := lhid (Has.got HK.out.1 HK.out.2.1 HK.out.2.2 hg)
      clear hg HSr HK
      obtain ⟨⟨F3, hk⟩, hb, hz⟩ := HS3.out
      have HK := lhid (And.intro hk (And.intro hb hz))
      clear hk hb hz
      go_wp2_with fail
      with_reducible refine (Pass_calls w.heap.size g F3 w3 0 (fullG a0 128) [] 1 1 2 1 1 5 1 HK.out.1 (full_tree HU.out.1 HU.out.2)).mono ?_
      rintro e w4 ⟨rfl, hg⟩
      rw [full_p8 HU.out.1 HU.out.2, if_neg (by decide)] at hg
      rw [full_p8 HU.out.1 HU.out.2, if_neg (by decide)]
      have HS4 := lhid (Has.got HK.out.1 HK.out.2.1 HK.out.2.2 hg)
      clear hg HS3 HK
      obtain ⟨⟨F4, hk⟩, hb, hz⟩ := HS4.out
      have HK := lhid (And.intro hk (And.intro hb hz))
      clear hk hb hz
      go_wp2_with fail
      with_reducible refine (Pass_calls w.heap.size g F4 w4 0 (fullG a0 128) [] 1 2 2 1 1 5 1 HK.out.1 (full_tree HU.out.1 HU.out.2)).mono ?_
      rintro e w5 ⟨rfl, hg⟩
      rw [full_p12, if_neg (by decide)] at hg
      rw [full_p12, if_neg (by decide)]
      have HS5 := lhid (Has.got HK.out.1 HK.out.2.1 HK.out.2.2 hg)
      clear hg HS4 HK
      go_wp2_with fail
      with_reducible refine (alive_calls w5).mono ?_
      rintro e w6 ⟨rfl, hb⟩
      have HS6 := lhid (HS5.out.next hb)
      clear hb HS5
      go_wp2_with fail
      go_ret
      exact ⟨rfl, HS6.out.2.1⟩
theorem custodyFull_pure : kimberlitelaw06_CustodyFull.Pure2 := fun _ h0 => ⟨0, h0, trivial⟩
end Go.Proofs.Ytfnlghjkjmppdaa.PC
