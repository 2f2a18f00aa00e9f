-- printed by wip/gprint.py of this repo out of the translation and the texts under wip/
import Derived.Test.YthfdjccdelbeeaaPTx0
namespace Go.Proofs.Ythfdjccdelbeeaa.PT
open Go.RowKit Go.Proofs.YthfdjccdelbeeaaW.PrintWords Go.Proofs.YthfdjccdelbeeaaW.PrintLast Go.Proofs.YthfdjccdelbeeaaW.PrintMore
attribute [local go_sem] max2_int min2_int max_two min_two max_three min_three max_four min_four   -- for this text's walks alone
set_option linter.unusedVariables false
set_option linter.unusedSimpArgs false

-- GIVEN 23 rounds=0 making=1 info=
theorem hidm {p : Prop} (h : p) : Hid p := h
theorem rot_mask : bits BinOp.and IntKind.u64 (IntKind.u64.wrap (-8)) 63 = 56 := by decide
/-- Two numbers whose bits do not meet: 'or' is the sum. -/
theorem or_apart (n : Int) (h0 : 0 ≤ n) (h1 : n < 18446744073709551616) : bits .or .u64 (IntKind.u64.wrap (n * 72057594037927936)) (n / 256) = n / 256 + n % 256 * 72057594037927936 := by
  obtain ⟨m, rfl⟩ := Int.eq_ofNat_of_zero_le h0
  have e1 : IntKind.u64.wrap ((m : Int) * 72057594037927936) = (((m % 256) * 72057594037927936 : Nat) : Int) := by
    rw [IntKind.wrap_u64]; omega
  have e2 : (m : Int) / 256 = ((m / 256 : Nat) : Int) := by omega
  rw [e1, e2, u64_or_nat _ _ (by omega) (by omega)]
  have e3 : (m % 256) * 72057594037927936 ||| m / 256 = (m % 256) * 72057594037927936 + m / 256 := by
    have := Nat.shiftLeft_add_eq_or_of_lt (b := m / 256) (i := 56) (by omega) (m % 256)
    rw [Nat.shiftLeft_eq] at this
    exact this.symm
  rw [e3]; omega
set_option maxHeartbeats 400000 in
theorem rot_calls (n : Int) (w : World) (h0 : 0 ≤ n) (h1 : n < 18446744073709551616) :
    Calls Try.prog 69 #[.int .u64 n, .int .i64 (-8)] w fun e w' => e = .returned (.int .u64 (n / 256 + n % 256 * 72057594037927936)) ∧ w = w' := by
  have e := or_apart n h0 h1
  have E := hidm e
  clear e h1
  have rm := rot_mask
  go_enter Try.func69, Try.ntmps69
  go_wp2
  go_ret
  exact ⟨by rw [E.out]; rfl, rfl⟩
/-- One number's eight bytes, the lowest first. -/
def sealMix : Nat → Int → Int → Int
  | 0, h, _ => h
  | k + 1, h, n => sealMix k (IntKind.u64.wrap (bits .xor .u64 h (n % 256) * 1099511628211)) (n / 256)
theorem rot_lit (c t A B : Int) : (c + t * (A * B)) % B = c % B := by
  rw [← Int.mul_assoc]; exact Int.add_mul_emod_self_right _ _ _
theorem rot_low (k : Nat) (hk : k < 8) (m n : Int) (h : m % 2 ^ (64 - 8 * k) = n) : (m / 256 + m % 256 * 72057594037927936) % 2 ^ (64 - 8 * (k + 1)) = n / 256 := by
  subst h
  match k, hk with
  | 0, _ => rw [show (72057594037927936 : Int) = 1 * 2 ^ (64 - 8 * (0 + 1)) from rfl, rot_lit]; simp; omega
  | 1, _ => rw [show (72057594037927936 : Int) = 256 * 2 ^ (64 - 8 * (1 + 1)) from rfl, rot_lit]; simp; omega
  | 2, _ => rw [show (72057594037927936 : Int) = 65536 * 2 ^ (64 - 8 * (2 + 1)) from rfl, rot_lit]; simp; omega
  | 3, _ => rw [show (72057594037927936 : Int) = 16777216 * 2 ^ (64 - 8 * (3 + 1)) from rfl, rot_lit]; simp; omega
  | 4, _ => rw [show (72057594037927936 : Int) = 4294967296 * 2 ^ (64 - 8 * (4 + 1)) from rfl, rot_lit]; simp; omega
  | 5, _ => rw [show (72057594037927936 : Int) = 1099511627776 * 2 ^ (64 - 8 * (5 + 1)) from rfl, rot_lit]; simp; omega
  | 6, _ => rw [show (72057594037927936 : Int) = 281474976710656 * 2 ^ (64 - 8 * (6 + 1)) from rfl, rot_lit]; simp; omega
  | 7, _ => rw [show (72057594037927936 : Int) = 72057594037927936 * 2 ^ (64 - 8 * (7 + 1)) from rfl, rot_lit]; simp; omega
theorem rot_byte (k : Nat) (hk : k < 8) (m n : Int) (h : m % 2 ^ (64 - 8 * k) = n) : m % 256 = n % 256 := by
  subst h
  match k, hk with
  | 0, _ | 1, _ | 2, _ | 3, _ | 4, _ | 5, _ | 6, _ | 7, _ => simp
theorem World.grownBy_set (w : World) (g : Nat) (v : Value) : w.grownBy (w.setCell ⟨g, 0, none⟩ v) (some g) :=
  ⟨rfl, rfl, rfl, by simp [World.setCell], fun k _ hne => Below.heap_setCell _ _ _ _ (fun e => hne (by rw [e]))⟩
set_option maxHeartbeats 400000 in
theorem number_calls (g : Nat) (h n : Int) (w : World) (h0 : 0 ≤ n) (h1 : n < 18446744073709551616) (hb : w.heap[g]? = some (.cells #[.int .u64 h] 108 (0, 0))) :
    Calls Try.prog 51 #[.pointer (some ⟨g, 0, none⟩), .int .u64 n] w fun e w' => e = .returned (.tuple #[]) ∧ w'.heap[g]? = some (.cells #[.int .u64 (sealMix 8 h n)] 108 (0, 0)) ∧ w.grownBy w' (some g) := by
  have HBK := hidm hb
  clear hb
  go_enter Try.func51, Try.ntmps51
  go_wp2
  go_loopw [1, 4] (fun v i wr => ∃ k : Nat, ∃ m a : Int, k ≤ 8 ∧ i = .int .i64 k ∧ v = .int .u64 m ∧ 0 ≤ m ∧ m < 18446744073709551616 ∧ Hid (wr.heap[g]? = some (.cells #[.int .u64 a] 108 (0, 0))) ∧ Hid (w.grownBy wr (some g)) ∧ Hid (∃ q, m % 2 ^ (64 - 8 * k) = q ∧ sealMix (8 - k) a q = sealMix 8 h n)) (fun _ i _ => 8 - (intOf i).toNat)
  case atStart => exact ⟨0, n, h, by omega, rfl, rfl, h0, h1, HBK, hidm (World.grownBy.refl _ _), hidm ⟨n, by simp; omega, rfl⟩⟩
  case round =>
    obtain ⟨k, m, a, hk, rfl, rfl, hm0, hm1, HB, HG, HQ⟩ := hrel
    have hca := blk_cell HB.out 0
    have hfa := blk_frozen HB.out 0
    simp only [List.getElem?_toArray, List.getElem?_cons_zero] at hca
    by_cases hlt : k < 8
    · have hba : Hid (bits .and .u64 m 255 = m % 256) := hidm (by
        obtain ⟨q, rfl⟩ := Int.eq_ofNat_of_zero_le hm0
        rw [show (255 : Int) = ((255 : Nat) : Int) from rfl, u64_and_nat q 255 (by omega) (by decide)]
        rw [show (255 : Nat) = 2 ^ 8 - 1 from rfl, Nat.and_two_pow_sub_one_eq_mod]; rfl)
      go_wp2_with (first | (go_at_call 69; refine (rot_calls _ _ hm0 hm1).mono ?_; rintro e w' ⟨rfl, rfl⟩))
      go_roundw
      case rel =>
        refine ⟨k + 1, _, IntKind.u64.wrap (bits .xor .u64 a (bits .and .u64 m 255) * 1099511628211), by omega, by go_num, rfl, by omega, by omega, hidm (blk_put HB.out 0 _ rfl), hidm (HG.out.trans (World.grownBy_set _ _ _)), ?_⟩
        obtain ⟨q, hq, hs⟩ := HQ.out
        refine hidm ⟨q / 256, rot_low k hlt m q hq, ?_⟩
        rw [← hs, hba.out, rot_byte k hlt m q hq, show 8 - k = (8 - (k + 1)) + 1 from by omega]
        rfl
      case measure => simp [intOf]; omega
    · obtain rfl : k = 8 := by omega
      go_wp2
      go_end0
      obtain ⟨q, hq, hs⟩ := HQ.out
      exact ⟨rfl, by rw [HB.out, ← hs]; rfl, HG.out⟩
/-! ### tender_Seal: function 23 -/
def sealOne (h : Int) (o : S50) : Int := sealMix 8 (sealMix 8 (sealMix 8 h (IntKind.u64.wrap o.f0)) (IntKind.u64.wrap o.f1)) (IntKind.u64.wrap o.f2)
def sealAll (l : List S50) (a : Int) : Int := l.foldl sealOne (sealMix 8 14695981039346656037 a)
def tender_Seal.f (l0 : List (S50)) (a1 : Int) : Option Int := if 0 ≤ a1 ∧ a1 < 18446744073709551616 then some (sealAll l0 a1) else none
theorem u64_range (x : Int) : 0 ≤ IntKind.u64.wrap x ∧ IntKind.u64.wrap x < 18446744073709551616 := by rw [IntKind.wrap_u64]; omega
set_option maxHeartbeats 1600000 in
set_option maxRecDepth 100000 in
theorem tender_Seal.calls (A0 : Option Addr) (c0 : Nat) (l0 : List (S50)) (a1 : Int) (r : Int) (w : World) (hr0 : Kd.C k50 w A0 l0.length l0) (hc0 : l0.length ≤ c0) (h : tender_Seal.f l0 a1 = some r) :
    Calls Try.prog 23 #[.slice A0 l0.length c0, .int .u64 a1] w fun e w' => e = .returned (.int .u64 r) ∧ Below w.heap.size w w' := by
  unfold tender_Seal.f at h
  split at h
  · rename_i hr
    obtain ⟨h0, h1⟩ := hr
    injection h with h
    have HR := hidm h
    clear h
    have HC := hidm hc0
    have HX := hidm hr0
    clear hc0 hr0
    have hmf : ∀ (fn : Fn) (first cap : Array Value) (w : World), (Instr.makeFunc fn first cap).run Try.prog w = .ok (.func fn first cap) w := fun _ _ _ _ => rfl
    go_enter Try.func23, Try.ntmps23
    go_wp2_with fail
    refine (number_calls w.heap.size _ a1 _ h0 h1 (blk_new _ _)).mono ?_
    rintro e w1 ⟨rfl, hc1, hg1⟩
    have hz1 : w.heap.size < w1.heap.size := by have := hg1.size; simp at this; omega
    have hb1 : Below w.heap.size w w1 := ((Below.refl _ _).alloc (Nat.le_refl _) _).grown hg1 (by simp) (fun k hk => by injection hk with hk; omega)
    have HC1 := hidm hc1
    have HB1 := hidm hb1
    clear hg1 hb1 hc1
    go_wp2_with fail
    go_loopw [15] (fun i wr => ∃ k : Nat, k ≤ l0.length ∧ i = .int .i64 k ∧ Hid (wr.heap[w.heap.size]? = some (.cells #[.int .u64 ((l0.take k).foldl sealOne (sealMix 8 14695981039346656037 a1))] 108 (0, 0))) ∧ w.heap.size < wr.heap.size ∧ Hid (Below w.heap.size w wr)) (fun i _ => l0.length - (intOf i).toNat)
    case atStart => exact ⟨0, Nat.zero_le _, rfl, HC1, hz1, HB1⟩
    case round =>
      obtain ⟨k, hk, rfl, HCK, hzk, HB⟩ := hrel
      have hlen : l0.length ≤ 9223372036854775807 := HX.out.2.1
      by_cases hlt : k < l0.length
      · obtain ⟨ad, e0, hx0, hx1, hx2⟩ := at_T50 (Kd.C_below HX.out HB.out) (k : Int) (by omega) (by omega)
        cases e0
        generalize hoo : rd_T50 l0 (k : Int) = o at hx0 hx1 hx2
        have HO := hidm hoo
        clear hoo
        simp only [Int.toNat_natCast] at hx0 hx1 hx2
        obtain ⟨u00, u01⟩ := u64_range o.f0
        obtain ⟨u10, u11⟩ := u64_range o.f1
        obtain ⟨u20, u21⟩ := u64_range o.f2
        go_wp2_with fail
        refine (number_calls w.heap.size _ _ _ u00 u01 (blk_alloc HCK.out _)).mono ?_
        rintro e w2 ⟨rfl, hc2, hg2⟩
        have hz2 : wr.heap.size < w2.heap.size := by have := hg2.size; simp at this; omega
        have ho2 := blk_grown (blk_new wr _) hg2 (by intro e; injection e with e; omega)
        have HB2 := hidm (HB.out.trans ((Below.refl w.heap.size wr).alloc (by omega) _ |>.grown hg2 (by simp; omega) (fun k hk => by injection hk with hk; omega)))
        have HC2 := hidm hc2
        have HO2 := hidm ho2
        have ho21 := blk_cell ho2 1
        have ho22 := blk_cell ho2 2
        simp only [List.getElem?_toArray, List.getElem?_cons_zero, List.getElem?_cons_succ] at ho21 ho22
        clear hc2 hg2 ho2 hx0 hx1 hx2
        go_wp2_with fail
        refine (number_calls w.heap.size _ _ _ u10 u11 HC2.out).mono ?_
        rintro e w3 ⟨rfl, hc3, hg3⟩
        have hz3 : wr.heap.size < w3.heap.size := by have := hg3.size; omega
        have ho3 := blk_grown HO2.out hg3 (by intro e; injection e with e; omega)
        have HB3 := hidm (HB2.out.grown hg3 (by omega) (fun k hk => by injection hk with hk; omega))
        have HC3 := hidm hc3
        have ho32 := blk_cell ho3 2
        simp only [List.getElem?_toArray, List.getElem?_cons_zero, List.getElem?_cons_succ] at ho32
        clear hc3 hg3 ho3 HO2 HC2 HB2 ho21 ho22
        go_wp2_with fail
        refine (number_calls w.heap.size _ _ _ u20 u21 HC3.out).mono ?_
        rintro e w4 ⟨rfl, hc4, hg4⟩
        have hz4 : w.heap.size < w4.heap.size := by have := hg4.size; omega
        have HB4 := hidm (HB3.out.grown hg4 (by omega) (fun k hk => by injection hk with hk; omega))
        have HC4 := hidm hc4
        clear hc4 hg4 HC3 HB3 ho32
        go_wp2_with fail
        go_roundw
        case rel =>
          refine ⟨k + 1, by omega, by go_num, hidm ?_, hz4, HB4⟩
          rw [HC4.out, List.take_add_one, List.foldl_append]
          have hget : l0[k]? = some o := by rw [← HO.out]; simp [rd_T50, List.getElem?_eq_getElem hlt]
          rw [hget]; rfl
        case measure => simp [intOf]; omega
      · obtain rfl : k = l0.length := by omega
        have hcf := blk_cell HCK.out 0
        simp only [List.getElem?_toArray, List.getElem?_cons_zero] at hcf
        go_wp2_with fail
        go_ret
        exact ⟨by rw [← HR.out]; simp [sealAll], HB.out⟩
  · simp at h

end Go.Proofs.Ythfdjccdelbeeaa.PT
