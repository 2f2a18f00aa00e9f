/-
  The texts that the theorem in YthfdjccdelbeeaaZRowPl rests on, merged (part 7); only what it reaches.
-/
import Derived.Laws.BitsAllLaws
import Derived.Test.YthfdjccdelbeeaaZPl2
import Derived.Test.YthfdjccdelbeeaaZPl3
import Derived.Test.YthfdjccdelbeeaaZPl4
import Derived.Test.YthfdjccdelbeeaaZPl5
section
namespace Go.Proofs.Ythfdjccdelbeeaa.PT
open Go.RowKit Go.Proofs.YthfdjccdelbeeaaW.PrintWords Go.Proofs.YthfdjccdelbeeaaW.PrintLast Go.Proofs.YthfdjccdelbeeaaW.PrintMore Go.Proofs.Ythfdjccdelbeeaa.TPl
set_option linter.unusedVariables false
theorem w64 (i : Nat) (h : i < 4611686018427387904) : wrap64 ((i : Int) + 1) = ((i + 1 : Nat) : Int) := by unfold wrap64; omega
theorem wf_u64 {n : Int} (h : (Lit.int .u64 n).wf = true) : 0 ≤ n ∧ n < 18446744073709551616 := by
 have : 0 ≤ n ∧ n ≤ 18446744073709551615 := by simpa [Lit.wf, IntKind.min, IntKind.max, IntKind.signed, IntKind.bits] using h
 omega
theorem wf_u8 {n : Int} (h : (Lit.int .u8 n).wf = true) : 0 ≤ n ∧ n ≤ 255 := by simpa [Lit.wf, IntKind.min, IntKind.max, IntKind.signed, IntKind.bits] using h
theorem Ev.here {α : Type} {g : Nat → Option α} {r : α} (h : ∀ k, g (k + 1) = some r) : Ev g r := Ev.step h (Ev.now r)
theorem bits63 (a b : Nat) (ha : a < 9223372036854775808) (hb : b < 9223372036854775808) : bits .and .i64 (a : Int) (b : Int) = ((a &&& b : Nat) : Int) ∧ bits .or .i64 (a : Int) (b : Int) = ((a ||| b : Nat) : Int) :=
 bits_nat .i64 63 (by decide) (fun n h0 h1 => by rw [IntKind.wrap_i64]; omega) a b ha hb
theorem shl_lots (a : Int) (h0 : 0 ≤ a) (h1 : a ≤ 12) : shl .i64 1 a = ((2 ^ a.toNat : Nat) : Int) := by
 obtain ⟨n, rfl⟩ := Int.eq_ofNat_of_zero_le h0
 have hn : n ≤ 12 := by omega
 match n, hn with
 | 0, _ | 1, _ | 2, _ | 3, _ | 4, _ | 5, _ | 6, _ | 7, _ | 8, _ | 9, _ | 10, _ | 11, _ | 12, _ => decide
 | n + 13, h => omega
def good (lots : Int) (o : S50) : Bool := decide (0 ≤ o.f0 ∧ o.f0 ≤ 7 ∧ 1 ≤ o.f1 ∧ o.f1 < ((2 ^ lots.toNat : Nat) : Int) ∧ 1 ≤ o.f2 ∧ o.f2 ≤ 1073741824)
theorem valid_good (lots : Int) (o : S50) (h0 : 1 ≤ lots) (h1 : lots ≤ 12) : tender_valid.f o.f0 o.f1 o.f2 lots = some (good lots o) := by
 unfold tender_valid.f good
 rw [shl_lots lots (by omega) h1]
 generalize ((2 ^ lots.toNat : Nat) : Int) = M
 by_cases c1 : o.f0 ≥ 0 <;> by_cases c2 : o.f0 ≤ 7 <;> by_cases c3 : o.f1 ≥ 1 <;> by_cases c4 : o.f1 < M <;> by_cases c5 : o.f2 ≥ 1 <;> by_cases c6 : o.f2 ≤ 1073741824 <;>
  simp [c1, c2, c3, c4, c5, c6, show 0 ≤ lots by omega] <;> omega
theorem Good_good (lots : Int) (o : S50) (h0 : 1 ≤ lots) (h1 : lots ≤ 12) : kimberliteref05_Good.f lots o.f0 o.f1 o.f2 = some (good lots o) := by
 unfold kimberliteref05_Good.f good
 rw [shl_lots lots (by omega) h1]
 generalize ((2 ^ lots.toNat : Nat) : Int) = M
 by_cases c1 : o.f0 ≥ 0 <;> by_cases c2 : o.f0 ≤ 7 <;> by_cases c3 : o.f1 ≥ 1 <;> by_cases c4 : o.f1 < M <;> by_cases c5 : o.f2 ≥ 1 <;> by_cases c6 : o.f2 ≤ 1073741824 <;>
  simp [c1, c2, c3, c4, c5, c6, show 0 ≤ lots by omega] <;> omega
theorem rd_get (l : List S50) (i : Nat) (h : i < l.length) : rd_T50 l (i : Int) = l[i] := by simp [rd_T50, h]
def errS (lots : Int) (l : List S50) : Int := if lots < 1 ∨ 12 < lots then 2 else if 16 < l.length then 3 else if l.all (good lots) = true then 0 else 2
theorem ev_checked_l (lots : Int) (l : List S50) (h0 : 1 ≤ lots) (h1 : lots ≤ 12) (hl : l.length ≤ 16) : ∀ (d i : Nat), i + d = l.length → Ev (fun k => tender_checked.l0 k lots l (l.length : Int) (i : Int)) (if (l.drop i).all (good lots) = true then 0 else 2)
 | 0, i, h => Ev.here fun k => by
   simp only [tender_checked.l0]
   rw [if_neg (by omega), List.drop_of_length_le (by omega)]; rfl
 | d + 1, i, h => by
   have hi : i < l.length := by omega
   have ih := ev_checked_l lots l h0 h1 hl d (i + 1) (by omega)
   rw [List.drop_eq_getElem_cons hi, List.all_cons]
   have hst : ∀ k, tender_checked.l0 (k + 1) lots l (l.length : Int) (i : Int) = if good lots l[i] = true then tender_checked.l0 k lots l (l.length : Int) ((i + 1 : Nat) : Int) else some 2 := fun k => by
    simp only [tender_checked.l0]
    rw [if_pos (by omega), if_pos (by omega), if_pos (by omega), rd_get l i hi, valid_good lots _ h0 h1, w64 i (by omega)]; rfl
   cases hg : good lots l[i] with
   | true =>
    refine Ev.step (fun k => by rw [hst k, hg, if_pos rfl]) ?_
    simpa using ih
   | false => exact Ev.here fun k => by rw [hst k, hg]; rfl
theorem ev_checked (lots : Int) (l : List S50) : Ev (fun k => tender_checked.f k lots l) (errS lots l) := by
 unfold errS
 by_cases c : lots < 1 ∨ 12 < lots
 ·
  rw [if_pos c]
  refine Ev.here fun k => ?_
  simp only [tender_checked.f]
  by_cases c1 : lots < 1
  ·
   rw [if_pos c1]; simp [tender_checked.j0]
  ·
   rw [if_neg c1, decide_eq_true (by omega)]; simp [tender_checked.j0]
 ·
  rw [if_neg c]
  have hf : ∀ k, tender_checked.f (k + 1) lots l = if (l.length : Int) > 16 then some 3 else tender_checked.l0 k lots l (l.length : Int) ((0 : Nat) : Int) := fun k => by
   simp only [tender_checked.f]
   rw [if_neg (by omega), decide_eq_false (by omega)]
   simp [tender_checked.j0]
  by_cases c2 : 16 < l.length
  ·
   rw [if_pos c2]; exact Ev.here fun k => by rw [hf k, if_pos (by omega)]
  ·
   rw [if_neg c2]
   refine Ev.step (fun k => by rw [hf k, if_neg (by omega)]) ?_
   simpa using ev_checked_l lots l (by omega) (by omega) (by omega) l.length 0 (by omega)
structure Vld (lots : Int) (l : List S50) : Prop where
 lo : 1 ≤ lots
 hi : lots ≤ 12
 len : l.length ≤ 16
 all : ∀ o ∈ l, 0 ≤ o.f0 ∧ o.f0 ≤ 7 ∧ 1 ≤ o.f1 ∧ o.f1 < ((2 ^ lots.toNat : Nat) : Int) ∧ 1 ≤ o.f2 ∧ o.f2 ≤ 1073741824
theorem errS_zero {lots : Int} {l : List S50} : errS lots l = 0 ↔ Vld lots l := by
 unfold errS
 constructor
 ·
  intro h
  split at h
  ·
   omega
  ·
   split at h
   ·
    omega
   ·
    split at h
    ·
     rename_i h1 h2 h3
     exact ⟨by omega, by omega, by omega, fun o ho => by have := List.all_eq_true.1 h3 o ho; simpa [good] using this⟩
    ·
     omega
 ·
  rintro ⟨h0, h1, h2, h3⟩
  rw [if_neg (by omega), if_neg (by omega), if_pos (List.all_eq_true.2 fun o ho => by simpa [good] using h3 o ho)]
theorem Vld.bv {lots : Int} {l : List S50} (h : Vld lots l) : bValid l := by
 refine ⟨h.len, fun o ho => ?_⟩
 obtain ⟨a, b, c, d, e, f⟩ := h.all o ho
 have : 2 ^ lots.toNat ≤ 2 ^ 12 := Nat.pow_le_pow_right (by decide) (by have := h.hi; omega)
 exact ⟨a, b, c, by omega, e, f⟩
def toOf (o : S50) : Of := ⟨o.f0.toNat, o.f1.toNat, o.f2.toNat⟩
theorem bSum_tot : ∀ (l : List S50), (∀ o ∈ l, 1 ≤ o.f2) → bSum l = ((tot (l.map toOf) : Nat) : Int)
 | [], _ => rfl
 | o :: os, h => by
  have := h o List.mem_cons_self
  simp only [bSum, List.map_cons, tot, toOf, bSum_tot os (fun x hx => h x (List.mem_cons_of_mem _ hx))]
  omega
theorem pow8 (b : Nat) (h : b ≤ 7) : wrap64 (2 ^ b) = ((2 ^ b : Nat) : Int) := by
 match b, h with
 | 0, _ | 1, _ | 2, _ | 3, _ | 4, _ | 5, _ | 6, _ | 7, _ => simp [wrap64]
 | b + 8, h => omega
theorem and_pow_zero (B b : Nat) : B &&& 2 ^ b = 0 ↔ B.testBit b = false := by
 constructor
 ·
  intro h
  have := congrArg (fun x => x.testBit b) h
  simpa [Nat.testBit_and, Nat.testBit_two_pow_self] using this
 ·
  intro h
  apply Nat.eq_of_testBit_eq
  intro i
  rw [Nat.testBit_and, Nat.zero_testBit, Nat.testBit_two_pow]
  by_cases e : b = i
  ·
   subst e; simp [h]
  ·
   simp [e]
theorem bOk_nok (wo : Int) (L B : Nat) (o : S50) (hL : L < 4096) (hB : B < 256) (h : 0 ≤ o.f0 ∧ o.f0 ≤ 7 ∧ 1 ≤ o.f1 ∧ o.f1 < 4096 ∧ 1 ≤ o.f2 ∧ o.f2 ≤ 1073741824) :
  (bOk wo L B o ↔ nok wo L B (toOf o)) ∧ bits .or .i64 (L : Int) o.f1 = ((L ||| (toOf o).l : Nat) : Int) ∧ bits .or .i64 (B : Int) (wrap64 (2 ^ o.f0.toNat)) = ((B ||| 2 ^ (toOf o).b : Nat) : Int) ∧ (L ||| (toOf o).l) < 4096 ∧ (B ||| 2 ^ (toOf o).b) < 256 := by
 obtain ⟨h1, h2, h3, h4, h5, h6⟩ := h
 have e1 : o.f1 = ((o.f1.toNat : Nat) : Int) := by omega
 have hb : o.f0.toNat ≤ 7 := by omega
 have hp : 2 ^ o.f0.toNat ≤ 2 ^ 7 := Nat.pow_le_pow_right (by decide) hb
 have hl : o.f1.toNat < 4096 := by omega
 refine ⟨?_, ?_, ?_, ?_, ?_⟩
 ·
  unfold bOk nok toOf
  rw [pow8 _ hb, e1, (bits63 L o.f1.toNat (by omega) (by omega)).1, (bits63 B (2 ^ o.f0.toNat) (by omega) (by omega)).1]
  simp only [Int.natCast_eq_zero, Int.toNat_natCast, and_pow_zero]
  have : (o.f0.toNat : Int) = o.f0 := by omega
  rw [this]
 ·
  conv => lhs; rw [e1]
  rw [(bits63 L o.f1.toNat (by omega) (by omega)).2]; rfl
 ·
  rw [pow8 _ hb, (bits63 B (2 ^ o.f0.toNat) (by omega) (by omega)).2]; rfl
 ·
  exact Nat.or_lt_two_pow (n := 12) hL hl
 ·
  exact Nat.or_lt_two_pow (n := 8) hB (by show 2 ^ o.f0.toNat < _; omega)
theorem bGo_nGo (wo : Int) : ∀ (os : List S50) (i : Int) (L B : Nat) (sum : Nat) (now : List Int) (tw : List Int × Int), (∀ o ∈ os, 0 ≤ o.f0 ∧ o.f0 ≤ 7 ∧ 1 ≤ o.f1 ∧ o.f1 < 4096 ∧ 1 ≤ o.f2 ∧ o.f2 ≤ 1073741824) → L < 4096 → B < 256 →
  bGo wo os i L B sum now tw = nGo wo (os.map toOf) i L B sum now tw
 | [], i, L, B, sum, now, tw, _, _, _ => rfl
 | o :: os, i, L, B, sum, now, tw, h, hL, hB => by
  have ho := h o List.mem_cons_self
  have hos := fun x hx => h x (List.mem_cons_of_mem o hx)
  obtain ⟨k1, k2, k3, k4, k5⟩ := bOk_nok wo L B o hL hB ho
  have hs : (sum : Int) + bSum (o :: os) = ((sum + tot ((o :: os).map toOf) : Nat) : Int) := by
   rw [bSum_tot (o :: os) (fun x hx => (h x hx).2.2.2.2.1)]; omega
  have hp : (sum : Int) + o.f2 = ((sum + (toOf o).p : Nat) : Int) := by show _ = ((sum + o.f2.toNat : Nat) : Int); omega
  rw [bGo, hs, k2, k3, hp, bGo_nGo wo os _ _ _ _ _ _ hos k4 k5]
  simp only [List.map_cons]
  rw [nGo, bGo_nGo wo os _ _ _ _ _ _ hos hL hB]
  simp only [k1]
theorem best_spec (l : List S50) (wo : Int) (h : bValid l) : ∃ s, IsBest wo (l.map toOf) 0 0 s ∧ tender_best.f l wo = some (idx 0 s, ((val (l.map toOf) s : Nat) : Int)) := by
 obtain ⟨s, hs, e⟩ := nGo_best wo (l.map toOf) 0 0
 refine ⟨s, hs, ?_⟩
 unfold tender_best.f
 rw [if_pos h]
 have e1 := bGo_nGo wo l 0 0 0 0 [] ([], -1) h.2 (by decide) (by decide)
 simp only [Int.ofNat_zero] at e1
 have e2 := e 0 0 [] ([], -1)
 rw [if_neg (by dsimp only; omega)] at e2
 rw [e1, e2]; simp
theorem ev_alive : Ev (fun k => kimberlitelaw05_alive.f k) true := Ev.of (fun k => kimberlitelaw05_alive.mono k) (k := 20) (by kernel_rfl)
end Go.Proofs.Ythfdjccdelbeeaa.PT
end
section
namespace Go.Proofs.Ythfdjccdelbeeaa.PT
open Go.RowKit Go.Proofs.YthfdjccdelbeeaaW.PrintWords Go.Proofs.YthfdjccdelbeeaaW.PrintLast Go.Proofs.YthfdjccdelbeeaaW.PrintMore
set_option linter.unusedVariables false
set_option linter.unusedSimpArgs false
def lsb (n m : Nat) : Array Bool := ((List.range n).map m.testBit).toArray
def badO (lots who : Int) (o : S50) : Bool := !good lots o || (o.f0 != who)
def FV (tb pb : Nat) : Value := .func (.func 56) #[] #[.pointer (some ⟨tb, 0, none⟩), .pointer (some ⟨pb, 0, none⟩)]
theorem three {W : World} {b : Nat} {v0 v1 v2 : Value} {ty : Nat} (h : W.heap[b]? = some (.cells #[v0, v1, v2] ty)) : W.cell? ⟨b, 0, none⟩ = some v0 ∧ W.cell? ⟨b, 1, none⟩ = some v1 ∧ W.cell? ⟨b, 2, none⟩ = some v2 :=
 ⟨by rw [blk_cell h 0]; rfl, by rw [blk_cell h 1]; rfl, by rw [blk_cell h 2]; rfl⟩
set_option maxHeartbeats 12800000 in
set_option maxRecDepth 100000 in
theorem cl56_calls (w : World) (tb pb t : Nat) (lots who : Int) (o : S50) (hl0 : 1 ≤ lots) (hl1 : lots ≤ 12) (ht : w.cell? ⟨tb, 0, none⟩ = some (.pointer (some ⟨t, 0, none⟩))) (hp : w.cell? ⟨pb, 0, none⟩ = some (.int .i64 who)) (h0 : w.cell? ⟨t, 0, none⟩ = some (.int .i64 lots)) : Calls Try.prog 56 #[.agg #[.int .i64 o.f0, .int .i64 o.f1, .int .i64 o.f2], .pointer (some ⟨tb, 0, none⟩), .pointer (some ⟨pb, 0, none⟩)] w fun e w' => e = .returned (.bool (badO lots who o)) ∧ Below w.heap.size w w' := by
 have hu85 := Try.underlying85
 have hu50 := Try.underlying50
 have HT := lhid ht
 have HP := lhid hp
 have HL := lhid h0
 clear ht hp h0
 go_enter Try.func56, Try.ntmps56
 have HB_1 := lhid (Below.refl w.heap.size w)
 go_upto_region 1 with (fail)
 have hb := Zba (Below.refl w.heap.size w) (.cells #[.int .i64 o.f0, .int .i64 o.f1, .int .i64 o.f2] 50)
 have hn := blk_new w (.cells #[.int .i64 o.f0, .int .i64 o.f1, .int .i64 o.f2] 50)
 have HZ1 := lhid (show (World.alloc w (.cells #[.int .i64 o.f0, .int .i64 o.f1, .int .i64 o.f2] 50)).heap.size = w.heap.size + 1 from by simp)
 generalize hq : World.alloc w (.cells #[.int .i64 o.f0, .int .i64 o.f1, .int .i64 o.f2] 50) = w1 at hb hn HZ1 ⊢
 clear hq
 have HB_2 := lhid (below_then HB_1.out HB_1.out.size hb)
 have T_3 := lhid (pw_cell_below hb HT.out)
 have P_4 := lhid (pw_cell_below hb HP.out)
 have L_5 := lhid (pw_cell_below hb HL.out)
 clear HB_1 HT HP HL hb
 have XB_6 := lhid (hn)
 clear hn
 obtain ⟨xb, hxb⟩ : ∃ q, q = w.heap.size := ⟨_, rfl⟩
 rw [← hxb] at XB_6 ⊢
 clear hxb
 have HV := lhid (valid_good lots o hl0 hl1)
 cases hg : good lots o
 ·
  rw [hg] at HV
  have hgc := tender_valid.calls o.f0 o.f1 o.f2 lots false
  have hb := Zbd (Below.refl w1.heap.size w1)
  have HB_7 := lhid (below_then HB_2.out HB_2.out.size hb)
  have T_8 := lhid (pw_cell_below hb T_3.out)
  have P_9 := lhid (pw_cell_below hb P_4.out)
  have L_10 := lhid (pw_cell_below hb L_5.out)
  have XB_11 := lhid (blk_below XB_6.out hb)
  clear HB_2 T_3 P_4 L_5 XB_6 hb
  refine start_ (n := 14) (S := fun w' => w'.cell? ⟨xb, 0, none⟩ = some (.int .i64 o.f0) ∧ w'.cell? ⟨xb, 1, none⟩ = some (.int .i64 o.f1) ∧ w'.cell? ⟨xb, 2, none⟩ = some (.int .i64 o.f2) ∧ w'.cell? ⟨tb, 0, none⟩ = some (.pointer (some ⟨t, 0, none⟩)) ∧ w'.cell? ⟨t, 0, none⟩ = some (.int .i64 lots) ∧ w'.cell? ⟨pb, 0, none⟩ = some (.int .i64 who)) (ds := []) (lsb 14 0) (by kernel_rfl) rfl (by kernel_rfl) ⟨(three XB_11.out).1, (three XB_11.out).2.1, (three XB_11.out).2.2, T_8.out, L_10.out, P_9.out⟩ (fun hHeld => ?_)
  generalize w1.drew = w2 at HB_7 T_8 P_9 L_10 XB_11 hHeld ⊢
  refine take_ (i := 0) (N := some 5) (v := ?_) (a' := ?_) (lsb 14 1) rfl rfl (by as_aux_lemma => kernel_rfl) (fun _ _ _ h => h) (Or.inl ⟨by rfl, ?_⟩) hHeld ?_ ?_; rotate_left; (rintro w' ⟨s0, s1, s2, s3, s4, s5⟩; go_simp; with_reducible rfl); rotate_left; (simp only [Act.put, pSq]; rfl)
  refine take_ (i := 1) (N := some 6) (v := ?_) (a' := ?_) (lsb 14 3) rfl rfl (by as_aux_lemma => kernel_rfl) (fun _ _ _ h => h) (Or.inl ⟨by rfl, ?_⟩) hHeld ?_ ?_; rotate_left; (rintro w' ⟨s0, s1, s2, s3, s4, s5⟩; go_simp; with_reducible rfl); rotate_left; (simp only [Act.put, pSq]; rfl)
  refine pure_ (i := 2) (N := some 7) (v := ?_) (a' := ?_) (lsb 14 7) rfl rfl (by as_aux_lemma => kernel_rfl) (fun _ _ _ h => h) (Or.inl ⟨by rfl, ?_⟩) ?_ ?_; rotate_left; (intro w'; go_simp; with_reducible rfl); rotate_left; (simp only [Act.put, pSq]; rfl)
  refine pure_ (i := 3) (N := some 8) (v := ?_) (a' := ?_) (lsb 14 15) rfl rfl (by as_aux_lemma => kernel_rfl) (fun _ _ _ h => h) (Or.inl ⟨by rfl, ?_⟩) ?_ ?_; rotate_left; (intro w'; go_simp; with_reducible rfl); rotate_left; (simp only [Act.put, pSq]; rfl)
  refine take_ (i := 4) (N := some 9) (v := ?_) (a' := ?_) (lsb 14 31) rfl rfl (by as_aux_lemma => kernel_rfl) (fun _ _ _ h => h) (Or.inl ⟨by rfl, ?_⟩) hHeld ?_ ?_; rotate_left; (rintro w' ⟨s0, s1, s2, s3, s4, s5⟩; go_simp; with_reducible rfl); rotate_left; (simp only [Act.put, pSq]; rfl)
  refine one_ (i := 5) (N := some 10) (lsb 14 63) rfl rfl (by kernel_rfl) (by decide) (fun K hK => ?_)
  refine goes_ Try.func57 (by kernel_rfl) rfl #[.agg #[.int .i64 o.f0, .int .i64 o.f1, .int .i64 o.f2], .int .i64 lots] (by rfl) rfl rfl (by (try simp only [List.map_toArray, List.map_cons, List.map_nil]); first | done | rfl) ?_
  with_reducible refine (hgc _ HV.out).mono ?_
  rintro e w3 ⟨rfl, hb⟩
  refine ⟨_, rfl, ?_⟩
  have HB_12 := lhid (below_then HB_7.out HB_7.out.size hb)
  have T_13 := lhid (pw_cell_below hb T_8.out)
  have P_14 := lhid (pw_cell_below hb P_9.out)
  have L_15 := lhid (pw_cell_below hb L_10.out)
  have XB_16 := lhid (blk_below XB_11.out hb)
  clear HB_7 T_8 P_9 L_10 XB_11 hb
  refine hK.out _ _ ⟨(three XB_16.out).1, (three XB_16.out).2.1, (three XB_16.out).2.2, T_13.out, L_15.out, P_14.out⟩ (fun hHeld => ?_)
  clear hK K
  refine norm_ (a' := ?_) ?_ ?_
  rotate_left
  ·
   show Act.put _ (some 10) _ = _
   simp only [Act.put, pSq]
   rfl
  refine pure_ (i := 6) (N := some 11) (v := ?_) (a' := ?_) (lsb 14 127) rfl rfl (by as_aux_lemma => kernel_rfl) (fun _ _ _ h => h) (Or.inl ⟨by rfl, ?_⟩) ?_ ?_; rotate_left; (intro w'; go_simp; with_reducible rfl); rotate_left; (simp only [Act.put, pSq]; rfl)
  refine pure_ (i := 7) (N := some 12) (v := ?_) (a' := ?_) (lsb 14 255) rfl rfl (by as_aux_lemma => kernel_rfl) (fun _ _ _ h => h) (Or.inl ⟨by rfl, ?_⟩) ?_ ?_; rotate_left; (intro w'; go_simp; with_reducible rfl); rotate_left; (simp only [Act.put, pSq]; rfl)
  refine pure_ (i := 8) (N := some 13) (v := undef) (a' := ?_) (lsb 14 511) rfl rfl (by as_aux_lemma => kernel_rfl) (fun _ _ _ h => h) (Or.inr ⟨by rfl, rfl⟩) ?_ ?_; rotate_left; (simp only [Act.put, pSq]; rfl)
  refine pure_ (i := 9) (N := some 14) (v := undef) (a' := ?_) (lsb 14 1023) rfl rfl (by as_aux_lemma => kernel_rfl) (fun _ _ _ h => h) (Or.inr ⟨by rfl, rfl⟩) ?_ ?_; rotate_left; (simp only [Act.put, pSq]; rfl)
  refine pure_ (i := 10) (N := some 15) (v := undef) (a' := ?_) (lsb 14 2047) rfl rfl (by as_aux_lemma => kernel_rfl) (fun _ _ _ h => h) (Or.inr ⟨by rfl, rfl⟩) ?_ ?_; rotate_left; (simp only [Act.put, pSq]; rfl)
  refine pure_ (i := 11) (N := some 16) (v := undef) (a' := ?_) (lsb 14 4095) rfl rfl (by as_aux_lemma => kernel_rfl) (fun _ _ _ h => h) (Or.inr ⟨by rfl, rfl⟩) ?_ ?_; rotate_left; (simp only [Act.put, pSq]; rfl)
  refine pure_ (i := 12) (N := some 17) (v := ?_) (a' := ?_) (lsb 14 8191) rfl rfl (by as_aux_lemma => kernel_rfl) (fun _ _ _ h => h) (Or.inl ⟨by rfl, ?_⟩) ?_ ?_; rotate_left; (intro w'; go_simp; with_reducible rfl); rotate_left; (simp only [Act.put, pSq]; rfl)
  refine pure_ (i := 13) (N := some 4) (v := ?_) (a' := ?_) (lsb 14 16383) rfl rfl (by as_aux_lemma => kernel_rfl) (fun _ _ _ h => h) (Or.inl ⟨by rfl, ?_⟩) ?_ ?_; rotate_left; (intro w'; go_simp; with_reducible rfl); rotate_left; (simp only [Act.put, pSq]; rfl)
  refine done_ (by kernel_rfl) ?_
  
  go_wp2_with fail
  try any_goals (exfalso; omega)
  go_ret
  exact ⟨by unfold badO; rw [hg]; first | rfl | (simp; done), HB_12.out⟩
 ·
  rw [hg] at HV
  have hgc := tender_valid.calls o.f0 o.f1 o.f2 lots true
  have hb := Zbd (Below.refl w1.heap.size w1)
  have HB_17 := lhid (below_then HB_2.out HB_2.out.size hb)
  have T_18 := lhid (pw_cell_below hb T_3.out)
  have P_19 := lhid (pw_cell_below hb P_4.out)
  have L_20 := lhid (pw_cell_below hb L_5.out)
  have XB_21 := lhid (blk_below XB_6.out hb)
  clear HB_2 T_3 P_4 L_5 XB_6 hb
  refine start_ (n := 14) (S := fun w' => w'.cell? ⟨xb, 0, none⟩ = some (.int .i64 o.f0) ∧ w'.cell? ⟨xb, 1, none⟩ = some (.int .i64 o.f1) ∧ w'.cell? ⟨xb, 2, none⟩ = some (.int .i64 o.f2) ∧ w'.cell? ⟨tb, 0, none⟩ = some (.pointer (some ⟨t, 0, none⟩)) ∧ w'.cell? ⟨t, 0, none⟩ = some (.int .i64 lots) ∧ w'.cell? ⟨pb, 0, none⟩ = some (.int .i64 who)) (ds := []) (lsb 14 0) (by kernel_rfl) rfl (by kernel_rfl) ⟨(three XB_21.out).1, (three XB_21.out).2.1, (three XB_21.out).2.2, T_18.out, L_20.out, P_19.out⟩ (fun hHeld => ?_)
  generalize w1.drew = w2 at HB_17 T_18 P_19 L_20 XB_21 hHeld ⊢
  refine take_ (i := 0) (N := some 5) (v := ?_) (a' := ?_) (lsb 14 1) rfl rfl (by as_aux_lemma => kernel_rfl) (fun _ _ _ h => h) (Or.inl ⟨by rfl, ?_⟩) hHeld ?_ ?_; rotate_left; (rintro w' ⟨s0, s1, s2, s3, s4, s5⟩; go_simp; with_reducible rfl); rotate_left; (simp only [Act.put, pSq]; rfl)
  refine take_ (i := 1) (N := some 6) (v := ?_) (a' := ?_) (lsb 14 3) rfl rfl (by as_aux_lemma => kernel_rfl) (fun _ _ _ h => h) (Or.inl ⟨by rfl, ?_⟩) hHeld ?_ ?_; rotate_left; (rintro w' ⟨s0, s1, s2, s3, s4, s5⟩; go_simp; with_reducible rfl); rotate_left; (simp only [Act.put, pSq]; rfl)
  refine pure_ (i := 2) (N := some 7) (v := ?_) (a' := ?_) (lsb 14 7) rfl rfl (by as_aux_lemma => kernel_rfl) (fun _ _ _ h => h) (Or.inl ⟨by rfl, ?_⟩) ?_ ?_; rotate_left; (intro w'; go_simp; with_reducible rfl); rotate_left; (simp only [Act.put, pSq]; rfl)
  refine pure_ (i := 3) (N := some 8) (v := ?_) (a' := ?_) (lsb 14 15) rfl rfl (by as_aux_lemma => kernel_rfl) (fun _ _ _ h => h) (Or.inl ⟨by rfl, ?_⟩) ?_ ?_; rotate_left; (intro w'; go_simp; with_reducible rfl); rotate_left; (simp only [Act.put, pSq]; rfl)
  refine take_ (i := 4) (N := some 9) (v := ?_) (a' := ?_) (lsb 14 31) rfl rfl (by as_aux_lemma => kernel_rfl) (fun _ _ _ h => h) (Or.inl ⟨by rfl, ?_⟩) hHeld ?_ ?_; rotate_left; (rintro w' ⟨s0, s1, s2, s3, s4, s5⟩; go_simp; with_reducible rfl); rotate_left; (simp only [Act.put, pSq]; rfl)
  refine one_ (i := 5) (N := some 10) (lsb 14 63) rfl rfl (by kernel_rfl) (by decide) (fun K hK => ?_)
  refine goes_ Try.func57 (by kernel_rfl) rfl #[.agg #[.int .i64 o.f0, .int .i64 o.f1, .int .i64 o.f2], .int .i64 lots] (by rfl) rfl rfl (by (try simp only [List.map_toArray, List.map_cons, List.map_nil]); first | done | rfl) ?_
  with_reducible refine (hgc _ HV.out).mono ?_
  rintro e w3 ⟨rfl, hb⟩
  refine ⟨_, rfl, ?_⟩
  have HB_22 := lhid (below_then HB_17.out HB_17.out.size hb)
  have T_23 := lhid (pw_cell_below hb T_18.out)
  have P_24 := lhid (pw_cell_below hb P_19.out)
  have L_25 := lhid (pw_cell_below hb L_20.out)
  have XB_26 := lhid (blk_below XB_21.out hb)
  clear HB_17 T_18 P_19 L_20 XB_21 hb
  refine hK.out _ _ ⟨(three XB_26.out).1, (three XB_26.out).2.1, (three XB_26.out).2.2, T_23.out, L_25.out, P_24.out⟩ (fun hHeld => ?_)
  clear hK K
  refine norm_ (a' := ?_) ?_ ?_
  rotate_left
  ·
   show Act.put _ (some 10) _ = _
   simp only [Act.put, pSq]
   rfl
  refine pure_ (i := 6) (N := some 11) (v := ?_) (a' := ?_) (lsb 14 127) rfl rfl (by as_aux_lemma => kernel_rfl) (fun _ _ _ h => h) (Or.inl ⟨by rfl, ?_⟩) ?_ ?_; rotate_left; (intro w'; go_simp; with_reducible rfl); rotate_left; (simp only [Act.put, pSq]; rfl)
  refine pure_ (i := 7) (N := some 12) (v := ?_) (a' := ?_) (lsb 14 255) rfl rfl (by as_aux_lemma => kernel_rfl) (fun _ _ _ h => h) (Or.inl ⟨by rfl, ?_⟩) ?_ ?_; rotate_left; (intro w'; go_simp; with_reducible rfl); rotate_left; (simp only [Act.put, pSq]; rfl)
  refine pure_ (i := 8) (N := some 13) (v := ?_) (a' := ?_) (lsb 14 511) rfl rfl (by as_aux_lemma => kernel_rfl) (fun _ _ _ h => h) (Or.inl ⟨by rfl, ?_⟩) ?_ ?_; rotate_left; (intro w'; go_simp; with_reducible rfl); rotate_left; (simp only [Act.put, pSq]; rfl)
  refine take_ (i := 9) (N := some 14) (v := ?_) (a' := ?_) (lsb 14 1023) rfl rfl (by as_aux_lemma => kernel_rfl) (fun _ _ _ h => h) (Or.inl ⟨by rfl, ?_⟩) hHeld ?_ ?_; rotate_left; (rintro w' ⟨s0, s1, s2, s3, s4, s5⟩; go_simp; with_reducible rfl); rotate_left; (simp only [Act.put, pSq]; rfl)
  refine take_ (i := 10) (N := some 15) (v := ?_) (a' := ?_) (lsb 14 2047) rfl rfl (by as_aux_lemma => kernel_rfl) (fun _ _ _ h => h) (Or.inl ⟨by rfl, ?_⟩) hHeld ?_ ?_; rotate_left; (rintro w' ⟨s0, s1, s2, s3, s4, s5⟩; go_simp; with_reducible rfl); rotate_left; (simp only [Act.put, pSq]; rfl)
  refine pure_ (i := 11) (N := some 16) (v := ?_) (a' := ?_) (lsb 14 4095) rfl rfl (by as_aux_lemma => kernel_rfl) (fun _ _ _ h => h) (Or.inl ⟨by rfl, ?_⟩) ?_ ?_; rotate_left; (intro w'; go_simp; with_reducible rfl); rotate_left; (simp only [Act.put, pSq]; rfl)
  refine pure_ (i := 12) (N := some 17) (v := ?_) (a' := ?_) (lsb 14 8191) rfl rfl (by as_aux_lemma => kernel_rfl) (fun _ _ _ h => h) (Or.inl ⟨by rfl, ?_⟩) ?_ ?_; rotate_left; (intro w'; go_simp; with_reducible rfl); rotate_left; (simp only [Act.put, pSq]; rfl)
  refine pure_ (i := 13) (N := some 4) (v := ?_) (a' := ?_) (lsb 14 16383) rfl rfl (by as_aux_lemma => kernel_rfl) (fun _ _ _ h => h) (Or.inl ⟨by rfl, ?_⟩) ?_ ?_; rotate_left; (intro w'; go_simp; with_reducible rfl); rotate_left; (simp only [Act.put, pSq]; rfl)
  refine done_ (by kernel_rfl) ?_
  
  go_wp2_with fail
  try any_goals (exfalso; omega)
  go_ret
  exact ⟨by unfold badO; rw [hg]; first | rfl | (simp; done), HB_22.out⟩
theorem any_take {α : Type} {ms : List α} {p : α → Bool} {k : Nat} {m : α} (hm : ms[k]? = some m) (h : (ms.take k).any p = false) (hp : p m = false) : (ms.take (k + 1)).any p = false := by
 have hk : k < ms.length := (List.getElem?_eq_some_iff.1 hm).1
 have e := (List.getElem?_eq_some_iff.1 hm).2
 rw [List.take_succ_eq_append_getElem hk, List.any_append, h, e]; simp [hp]
theorem any_hit {α : Type} {ms : List α} {p : α → Bool} {k : Nat} {m : α} (hm : ms[k]? = some m) (hp : p m = true) : ms.any p = true := List.any_eq_true.2 ⟨m, List.mem_of_getElem? hm, hp⟩
theorem rd_at {l : List S50} {i : Nat} (h : i < l.length) : l[i]? = some (rd_T50 l (i : Int)) := by
 unfold rd_T50
 rw [Int.toNat_natCast, List.getD_eq_getElem?_getD, List.getElem?_eq_getElem h]; rfl
set_option maxHeartbeats 12800000 in
set_option maxRecDepth 100000 in
theorem index70_calls (w : World) (tb pb t : Nat) (lots who : Int) (A : Option Addr) (c : Nat) (l : List S50) (hl0 : 1 ≤ lots) (hl1 : lots ≤ 12) (ht : w.cell? ⟨tb, 0, none⟩ = some (.pointer (some ⟨t, 0, none⟩))) (hp : w.cell? ⟨pb, 0, none⟩ = some (.int .i64 who)) (h0 : w.cell? ⟨t, 0, none⟩ = some (.int .i64 lots)) (hC : Kd.C k50 w A l.length l) (hll : l.length ≤ 100000) : Calls Try.prog 70 #[.slice A l.length c, FV tb pb] w fun e w' => (∃ i : Int, e = .returned (.int .i64 i) ∧ decide (0 ≤ i) = l.any (badO lots who)) ∧ Below w.heap.size w w' := by
 have hu50 := Try.underlying50
 have HT := lhid ht
 have HP := lhid hp
 have HL := lhid h0
 have HC := lhid hC
 clear ht hp h0 hC
 unfold FV
 go_enter Try.func70, Try.ntmps70
 have HB_1 := lhid (Below.refl w.heap.size w)
 go_upto_region 2 with (fail)
 go_loopw [8] (fun v wr => ∃ i : Nat, i ≤ l.length ∧ v = .int .i64 i ∧ Hid ((l.take i).any (badO lots who) = false) ∧ Hid (Below w.heap.size w wr)) (fun v _ => l.length - (intOf v).toNat)
 case atStart => exact ⟨0, Nat.zero_le _, rfl, lhid (by simp), HB_1⟩
 case round =>
  obtain ⟨i, hi, rfl, HA, HBr⟩ := hrel
  by_cases hlt : i < l.length
  ·
   have hlt2 : (i : Int) < (l.length : Int) := by omega
   have hi0 : (0 : Int) ≤ (i : Int) := by omega
   have HAT := lhid (rd_at hlt)
   obtain ⟨ad, eA, x0, x1, x2⟩ := at_T50 (Kd.C_below HC.out HBr.out) (i : Int) (by omega) (by omega)
   subst eA
   obtain ⟨o, ho⟩ : ∃ o, o = rd_T50 l (i : Int) := ⟨_, rfl⟩
   rw [← ho] at x0 x1 x2 HAT
   simp only [Int.toNat_natCast] at x0 x1 x2
   clear ho
   go_wp2_with fail
   with_reducible refine (cl56_calls wr tb pb t lots who o hl0 hl1 (pw_cell_below HBr.out HT.out) (pw_cell_below HBr.out HP.out) (pw_cell_below HBr.out HL.out)).mono ?_
   rintro e w9 ⟨rfl, hb⟩
   have HB9 := lhid (below_then HBr.out HBr.out.size hb)
   clear hb x0 x1 x2
   cases hbd : badO lots who o
   ·
    go_wp2_with fail
    go_roundw
    case rel => exact ⟨i + 1, by omega, by simp, lhid (any_take HAT.out HA.out hbd), HB9⟩
    case measure => simp [intOf]; omega
   ·
    go_wp2_with fail
    go_ret
    exact ⟨⟨_, rfl, by rw [any_hit HAT.out hbd]; simp⟩, HB9.out⟩
  ·
   have hie : i = l.length := by omega
   subst hie
   go_wp2_with fail
   go_ret
   refine ⟨⟨_, rfl, ?_⟩, HBr.out⟩
   have := HA.out
   rw [List.take_length] at this
   rw [this]; rfl
set_option maxHeartbeats 12800000 in
set_option maxRecDepth 100000 in
theorem has55_calls (w : World) (tb pb t : Nat) (lots who : Int) (A : Option Addr) (c : Nat) (l : List S50) (hl0 : 1 ≤ lots) (hl1 : lots ≤ 12) (ht : w.cell? ⟨tb, 0, none⟩ = some (.pointer (some ⟨t, 0, none⟩))) (hp : w.cell? ⟨pb, 0, none⟩ = some (.int .i64 who)) (h0 : w.cell? ⟨t, 0, none⟩ = some (.int .i64 lots)) (hC : Kd.C k50 w A l.length l) (hll : l.length ≤ 100000) : Calls Try.prog 55 #[.slice A l.length c, FV tb pb] w fun e w' => e = .returned (.bool (l.any (badO lots who))) ∧ Below w.heap.size w w' := by
 have HI := lhid (index70_calls w tb pb t lots who A c l hl0 hl1 ht hp h0 hC hll)
 clear ht hp h0 hC
 unfold FV at HI ⊢
 go_enter Try.func55, Try.ntmps55
 go_wp2_with fail
 with_reducible refine HI.out.mono ?_
 rintro e w' ⟨⟨i, rfl, hi⟩, hb⟩
 have HD := lhid hb
 have HII := lhid hi
 clear hb hi HI
 go_wp2_with fail
 go_ret
 refine ⟨?_, HD.out⟩
 rw [← HII.out]; rfl
end Go.Proofs.Ythfdjccdelbeeaa.PT


namespace Go.Proofs.Ythfdjccdelbeeaa.PT
open Go.RowKit Go.Proofs.YthfdjccdelbeeaaW.PrintWords Go.Proofs.YthfdjccdelbeeaaW.PrintLast
theorem pS : (∀ (l : List Value) (i : Nat) (v : Value), l.toArray.setIfInBounds i v = (l.set i v).toArray) ∧ (∀ (a b : Value) (l : List Value), (a :: l).set 0 b = b :: l) ∧ (∀ (a b : Value) (l : List Value) (n : Nat), (a :: l).set (n + 1) b = a :: l.set n b) ∧ (∀ n : Int, IntKind.i64.wrap n = Go.RowKit.wrap64 n) ∧ (∀ n : Int, IntKind.i32.wrap n = Go.RowKit.wrap32 n) := ⟨fun _ _ _ => by simp, fun _ _ _ => rfl, fun _ _ _ _ => rfl, i64_w, i32_w⟩
section
variable {P : Program} {md : Region.Mode} {ops : Array Oper} {Q : Exit → Act → World → Prop} {S : World → Prop} {ds : List Nat}
theorem pu {oi : Oper} {v : Value} {fuel : Nat} {l : Array Bool} {a : Act} {w : World} (i : Nat) (N : Option Tmp) (n m : Nat) (hi : ops[i]? = some oi) (hN : oi.dst = N) (hr : ∀ w' : World, (execOp a.eval oi).run P w' = .ok (.value v) w') {a' : Act} (ha : a.put N v = a')
  (h : wpAnyLast P md ops Q S ds fuel (lsb n m) a' w) (hw : Region.wanted oi (yielded ops a.tmps) = true := by rfl) (hc : anyB md ops l (lsb n m) i = true := by as_aux_lemma => kernel_rfl) (hQ : ∀ c a w, Q (.panic c) (a.put oi.dst v) w → Q (.panic c) a w := by exact fun _ _ _ h => h) : wpAnyLast P md ops Q S ds (fuel + 1) l a w :=
 pure_ (lsb n m) hi hN hc hQ (Or.inl ⟨hw, hr⟩) ha h
theorem tk {oi : Oper} {v : Value} {fuel : Nat} {l : Array Bool} {a : Act} {w : World} (i : Nat) (N : Option Tmp) (n m : Nat) (hi : ops[i]? = some oi) (hN : oi.dst = N) (hS : S w) (hr : ∀ w' : World, S w' → (execOp a.eval oi).run P w' = .ok (.value v) w') {a' : Act} (ha : a.put N v = a')
  (h : wpAnyLast P md ops Q S ds fuel (lsb n m) a' w) (hw : Region.wanted oi (yielded ops a.tmps) = true := by rfl) (hc : takeB md ops ds l (lsb n m) i = true := by as_aux_lemma => kernel_rfl) (hQ : ∀ c a w, Q (.panic c) (a.put oi.dst v) w → Q (.panic c) a w := by exact fun _ _ _ h => h) : wpAnyLast P md ops Q S ds (fuel + 1) l a w :=
 take_ (lsb n m) hi hN hc hQ (Or.inl ⟨hw, hr⟩) hS ha h
theorem pf {oi : Oper} {fuel : Nat} {l : Array Bool} {a : Act} {w : World} (i : Nat) (N : Option Tmp) (n m : Nat) (hi : ops[i]? = some oi) (hN : oi.dst = N) {a' : Act} (ha : a.put N undef = a')
  (h : wpAnyLast P md ops Q S ds fuel (lsb n m) a' w) (hw : Region.wanted oi (yielded ops a.tmps) = false := by rfl) (hc : anyB md ops l (lsb n m) i = true := by as_aux_lemma => kernel_rfl) (hQ : ∀ c a w, Q (.panic c) (a.put oi.dst undef) w → Q (.panic c) a w := by exact fun _ _ _ h => h) : wpAnyLast P md ops Q S ds (fuel + 1) l a w :=
 pure_ (lsb n m) hi hN hc hQ (Or.inr ⟨hw, rfl⟩) ha h
end
end Go.Proofs.Ythfdjccdelbeeaa.PT
end
section
namespace Go.Proofs.Ythfdjccdelbeeaa.PT
open Go.RowKit Go.Proofs.YthfdjccdelbeeaaW.PrintWords Go.Proofs.YthfdjccdelbeeaaW.PrintLast Go.Proofs.YthfdjccdelbeeaaW.PrintMore
set_option linter.unusedVariables false
set_option linter.unusedSimpArgs false
def newC (lots : Int) : Int := if lots < 1 ∨ 12 < lots then 2 else 0
set_option maxHeartbeats 12800000 in
set_option maxRecDepth 100000 in
theorem New_t (w : World) (lots : Int) : Calls Try.prog 33 #[.int .i64 lots] w fun e w' => (newC lots ≠ 0 ∧ e = .returned (.tuple #[.pointer none, .int .i64 2]) ∧ Below w.heap.size w w') ∨ (newC lots = 0 ∧ e = .returned (.tuple #[.pointer (some ⟨w.heap.size, 0, none⟩), .int .i64 0]) ∧ TN w.heap.size (fun _ => False) w' w.heap.size lots 0 (List.replicate 8 hd0) ∧ Below w.heap.size w w') := by
 have hu85 := Try.underlying85
 have hu82 := Try.underlying82
 have hu83 := Try.underlying83
 go_enter Try.func33, Try.ntmps33
 by_cases a : lots < 1 ∨ 12 < lots
 ·
  have HS := lhid (show newC lots = 2 by unfold newC; rw [if_pos a])
  by_cases b : lots < 1
  ·
   have d1 : decide (lots < 1) = true := decide_eq_true b
   go_wp2_with fail
   try any_goals (exfalso; omega)
   go_ret2
   exact Or.inl ⟨by rw [HS.out]; decide, rfl, Below.refl _ _⟩
  ·
   have d1 : decide (lots < 1) = false := decide_eq_false b
   have d2 : decide (lots > 12) = true := decide_eq_true (by omega)
   go_wp2_with fail
   try any_goals (exfalso; omega)
   go_ret2
   exact Or.inl ⟨by rw [HS.out]; decide, rfl, Below.refl _ _⟩
 ·
  have HS := lhid (show newC lots = 0 by unfold newC; rw [if_neg a])
  have d1 : decide (lots < 1) = false := decide_eq_false (by omega)
  have d2 : decide (lots > 12) = false := decide_eq_false (by omega)
  go_wp2_with fail
  try any_goals (exfalso; omega)
  go_ret2
  refine Or.inr ⟨HS.out, rfl, ⟨?_, rfl, fun h hh => ?_, fun q => q⟩, Zba (Below.refl _ _) _⟩
  ·
   exact blk_new w _
  ·
   obtain rfl := List.eq_of_mem_replicate hh
   exact Kd.R_nil _ _ _ _ _
end Go.Proofs.Ythfdjccdelbeeaa.PT
end
section
namespace Go.Proofs.Ythfdjccdelbeeaa.PT
open Go.RowKit Go.Proofs.YthfdjccdelbeeaaW.PrintWords Go.Proofs.YthfdjccdelbeeaaW.PrintLast Go.Proofs.YthfdjccdelbeeaaW.PrintMore
set_option linter.unusedVariables false
set_option linter.unusedSimpArgs false
def showC (lots st : Int) (H : List Hd) (who : Int) (l : List S50) (salt : Int) : Int :=
 if inC lots st 1 ≠ 0 then inC lots st 1 else if buyB who = false then 2 else if (H.getD who.toNat hd0).sl = false then 6 else if (H.getD who.toNat hd0).sh = true then 7 else if sealAll l salt ≠ (H.getD who.toNat hd0).key then 11 else if 4 < l.length then 3 else if l.any (badO lots who) = true then 2 else if 16 < (H.flatMap (·.off)).length + l.length then 8 else 0
def showH (lots st : Int) (H : List Hd) (who : Int) (l : List S50) (salt : Int) (v : Value) : List Hd := if showC lots st H who l salt = 0 then H.set who.toNat { H.getD who.toNat hd0 with sh := true, v := v, off := l } else H
theorem showH_no {lots st : Int} {H : List Hd} {who : Int} {l : List S50} {salt : Int} {v : Value} (h : showC lots st H who l salt ≠ 0) : showH lots st H who l salt v = H := by unfold showH; rw [if_neg h]
theorem showH_yes {lots st : Int} {H : List Hd} {who : Int} {l : List S50} {salt : Int} {v : Value} (h : showC lots st H who l salt = 0) : showH lots st H who l salt v = H.set who.toNat { H.getD who.toNat hd0 with sh := true, v := v, off := l } := by unfold showH; rw [if_pos h]
theorem gt16 {m n : Nat} (h : 16 < m + n) : (m : Int) + (n : Int) > 16 := by omega
theorem le16 {m n : Nat} (h : ¬ 16 < m + n) : ¬ ((m : Int) + (n : Int) > 16) := by omega
theorem wrap_sum {m n : Nat} (h : m ≤ 32) (k : n ≤ 4) : wrap64 ((m : Int) + (n : Int)) = (m : Int) + (n : Int) := by unfold wrap64; omega
theorem inC_lots {lots st s : Int} (h : inC lots st s = 0) : lots ≠ 0 := fun q => by unfold inC at h; rw [if_pos q] at h; cases h
section
variable {base t : Nat} {F F' : Nat → Prop} {w : World} {lots st : Int} {H : List Hd}
theorem TN.mono (h : TN base F w t lots st H) (hF : ∀ k, F k → F' k) (ht : ¬ F' t) : TN base F' w t lots st H := ⟨h.blk, h.len, fun x hx => Kd.R_mono (h.rows x hx) hF, ht⟩
end
set_option maxHeartbeats 12800000 in
set_option maxRecDepth 100000 in
theorem Show_t (base t : Nat) (F : Nat → Prop) (w : World) (lots st : Int) (H : List Hd) (who : Int) (A : Option Addr) (c : Nat) (l : List S50) (salt : Int) (h : TN base F w t lots st H) (hf : Few H) (hb : base ≤ w.heap.size) (hl0 : 0 ≤ lots) (hl1 : lots ≤ 12) (hC : Kd.C k50 w A l.length l) (hc : l.length ≤ c) (hs0 : 0 ≤ salt ∧ salt < 18446744073709551616) : Calls Try.prog 37 #[.pointer (some ⟨t, 0, none⟩), .int .i64 who, .slice A l.length c, .int .u64 salt] w fun e w' => ∃ F' v, (∀ k, F' k → F k ∨ (w.heap.size ≤ k ∧ k < w'.heap.size)) ∧ e = .returned (.int .i64 (showC lots st H who l salt)) ∧ TN base F' w' t lots st (showH lots st H who l salt v) ∧ Chg (fun k => k = t) w w' := by
 have HT0 := lhid h
 have HFW := lhid hf
 have HOC := lhid hC
 have hbs : base ≤ w.heap.size := hb
 have HLT := lhid h.lt
 clear h hf hC hb
 have hu85 := Try.underlying85
 have hu82 := Try.underlying82
 have hu83 := Try.underlying83
 go_enter Try.func37, Try.ntmps37
 skip
 have HB_1 := lhid (Below.refl w.heap.size w)
 go_upto_region 1 with (fail)
 have hb := Zba (Below.refl w.heap.size w) (.cells #[.pointer (some ⟨t, 0, none⟩)] 62)
 have hn := blk_new w (.cells #[.pointer (some ⟨t, 0, none⟩)] 62)
 have HZ1 := lhid (show (World.alloc w (.cells #[.pointer (some ⟨t, 0, none⟩)] 62)).heap.size = w.heap.size + 1 from by simp)
 generalize hq : World.alloc w (.cells #[.pointer (some ⟨t, 0, none⟩)] 62) = w1 at hb hn HZ1 ⊢
 clear hq
 have HB_2 := lhid (below_then HB_1.out HB_1.out.size hb)
 have HT_3 := lhid (HT0.out.next hb)
 have OC_4 := lhid (Kd.C_below HOC.out hb)
 clear HB_1 HT0 HOC hb
 have TB_5 := lhid (hn)
 clear hn
 obtain ⟨tb, htb⟩ : ∃ q, q = w.heap.size := ⟨_, rfl⟩
 rw [← htb] at TB_5 ⊢
 have HTB := lhid htb
 clear htb
 have hb := Zba (Below.refl w1.heap.size w1) (.cells #[.int .i64 who] 3)
 have hn := blk_new w1 (.cells #[.int .i64 who] 3)
 have HZ2 := lhid (show (World.alloc w1 (.cells #[.int .i64 who] 3)).heap.size = w1.heap.size + 1 from by simp)
 generalize hq : World.alloc w1 (.cells #[.int .i64 who] 3) = w2 at hb hn HZ2 ⊢
 clear hq
 have HB_6 := lhid (below_then HB_2.out HB_2.out.size hb)
 have HT_7 := lhid (HT_3.out.next hb)
 have OC_8 := lhid (Kd.C_below OC_4.out hb)
 have TB_9 := lhid (blk_below TB_5.out hb)
 clear HB_2 HT_3 OC_4 TB_5 hb
 have PB_10 := lhid (hn)
 clear hn
 obtain ⟨pb, hpb⟩ : ∃ q, q = tb + 1 := ⟨_, rfl⟩
 rw [show w1.heap.size = pb by have h1 := HZ1.out; have h2 := HTB.out; omega] at PB_10
 rw [← hpb]
 have HNE := lhid (show tb = w.heap.size ∧ pb = w.heap.size + 1 ∧ t < w.heap.size from ⟨HTB.out, by have h2 := HTB.out; omega, HLT.out⟩)
 clear hpb
 have tb0 := blk_cell TB_9.out 0
 have pb0 := blk_cell PB_10.out 0
 simp only [List.getElem?_toArray, List.getElem?_cons_zero] at tb0 pb0
 skip
 go_wp2_with fail
 with_reducible refine (in_t base t F w2 lots st H 1 HT_7.out).mono ?_
 rintro e w' ⟨rfl, rfl⟩
 by_cases a : inC lots st 1 = 0
 ·
  have d : (inC lots st 1 != 0) = false := bne_eq_false_iff_eq.2 a
  have hl2 : 1 ≤ lots := by have := inC_lots a; omega
  cases b : buyB who
  ·
   go_wp2_with fail
   with_reducible refine (tender_buyer.calls who false w2 (by rw [buy_f, b])).mono ?_
   rintro e w3 ⟨rfl, nd, hq⟩
   have hb := Zbn (Below.refl w2.heap.size w2) nd
   rw [← hq] at hb
   clear hq
   have HB_11 := lhid (below_then HB_6.out HB_6.out.size hb)
   have HT_12 := lhid (HT_7.out.next hb)
   have OC_13 := lhid (Kd.C_below OC_8.out hb)
   have TB_14 := lhid (blk_below TB_9.out hb)
   have PB_15 := lhid (blk_below PB_10.out hb)
   clear HB_6 HT_7 OC_8 TB_9 PB_10 hb
   clear tb0 pb0
   have HS := lhid (show showC lots st H who l salt = 2 by unfold showC; rw [if_neg (fun q => q a), if_pos b])
   go_wp2_with fail
   try any_goals (exfalso; omega)
   go_ret
   exact ⟨F, .bool false, fun k q => Or.inl q, by rw [HS.out]; rfl, by rw [showH_no (by rw [HS.out]; decide)]; exact HT_12.out, Chg.of_below HB_11.out⟩
  ·
   go_wp2_with fail
   with_reducible refine (tender_buyer.calls who true w2 (by rw [buy_f, b])).mono ?_
   rintro e w3 ⟨rfl, nd, hq⟩
   have hb := Zbn (Below.refl w2.heap.size w2) nd
   rw [← hq] at hb
   clear hq
   have HB_16 := lhid (below_then HB_6.out HB_6.out.size hb)
   have HT_17 := lhid (HT_7.out.next hb)
   have OC_18 := lhid (Kd.C_below OC_8.out hb)
   have TB_19 := lhid (blk_below TB_9.out hb)
   have PB_20 := lhid (blk_below PB_10.out hb)
   clear HB_6 HT_7 OC_8 TB_9 PB_10 hb
   clear tb0 pb0
   obtain ⟨q, rfl⟩ : ∃ q : Nat, who = (q : Int) := ⟨who.toNat, by unfold buyB at b; simp at b; omega⟩
   have hq : q < 8 := by unfold buyB at b; simp at b; omega
   have hq8 : (q : Int) < 8 := by omega
   have hq0 : (0 : Int) ≤ (q : Int) := by omega
   obtain ⟨x, hx⟩ : ∃ x, x = H.getD q hd0 := ⟨_, rfl⟩
   have HX := lhid hx
   clear hx
   obtain ⟨sl, hsl⟩ : ∃ z, z = x.sl := ⟨_, rfl⟩
   have SL := lhid hsl
   obtain ⟨sh, hsh⟩ : ∃ z, z = x.sh := ⟨_, rfl⟩
   have SH := lhid hsh
   obtain ⟨ky, hky⟩ : ∃ z, z = x.key := ⟨_, rfl⟩
   have KY := lhid hky
   clear hsl hsh hky
   have B := lhid b
   clear b
   cases sl
   ·
    go_upto_region 6 with (fail)
    try any_goals (exfalso; omega)
    have hb := Zbd (Below.refl w3.heap.size w3)
    have HB_21 := lhid (below_then HB_16.out HB_16.out.size hb)
    have HT_22 := lhid (HT_17.out.next hb)
    have OC_23 := lhid (Kd.C_below OC_18.out hb)
    have TB_24 := lhid (blk_below TB_19.out hb)
    have PB_25 := lhid (blk_below PB_20.out hb)
    clear HB_16 HT_17 OC_18 TB_19 PB_20 hb
    refine start_ (n := 9) (S := fun w' => w'.cell? ⟨tb, 0, none⟩ = some (.pointer (some ⟨t, 0, none⟩)) ∧ w'.cell? ⟨pb, 0, none⟩ = some (.int .i64 (q : Int)) ∧ w'.cell? ⟨t, 2 + q * 4, none⟩ = some (.bool false)) (ds := []) (lsb 9 0) (by kernel_rfl) rfl (by kernel_rfl) ⟨((blk_cell TB_24.out 0).trans rfl), ((blk_cell PB_25.out 0).trans rfl), ((HT_22.out.ch q hq).1.trans (by rw [← HX.out, ← SL.out]))⟩ (fun hHeld => ?_)
    generalize w3.drew = w4 at HB_21 HT_22 OC_23 TB_24 PB_25 hHeld ⊢
    refine tk 0 (some 21) 9 1 rfl rfl hHeld (v := ?_) (a' := ?_) ?_ ?_ ?_; rotate_left; (rintro w' ⟨s0, s1, s2⟩; go_simp; with_reducible rfl); rotate_left; (simp only [Act.put, pS]; rfl)
    refine pu 2 (some 23) 9 5 rfl rfl (v := ?_) (a' := ?_) ?_ ?_ ?_; rotate_left; (intro w'; go_simp; with_reducible rfl); rotate_left; (simp only [Act.put, pS]; rfl)
    refine pu 3 (some 24) 9 13 rfl rfl (v := ?_) (a' := ?_) ?_ ?_ ?_; rotate_left; (intro w'; go_simp; with_reducible rfl); rotate_left; (simp only [Act.put, pS]; rfl)
    refine tk 1 (some 22) 9 15 rfl rfl hHeld (v := ?_) (a' := ?_) ?_ ?_ ?_; rotate_left; (rintro w' ⟨s0, s1, s2⟩; go_simp; with_reducible rfl); rotate_left; (simp only [Act.put, pS]; rfl)
    refine pu 4 (some 25) 9 31 rfl rfl (v := ?_) (a' := ?_) ?_ ?_ ?_; rotate_left; (intro w'; go_simp; with_reducible rfl); rotate_left; (simp only [Act.put, pS]; rfl)
    refine pu 5 (some 26) 9 63 rfl rfl (v := ?_) (a' := ?_) ?_ ?_ ?_; rotate_left; (intro w'; go_simp; with_reducible rfl); rotate_left; (simp only [Act.put, pS]; rfl)
    refine tk 6 (some 27) 9 127 rfl rfl hHeld (v := ?_) (a' := ?_) ?_ ?_ ?_; rotate_left; (rintro w' ⟨s0, s1, s2⟩; go_simp; with_reducible rfl); rotate_left; (simp only [Act.put, pS]; rfl)
    refine pu 7 (some 28) 9 255 rfl rfl (v := ?_) (a' := ?_) ?_ ?_ ?_; rotate_left; (intro w'; go_simp; with_reducible rfl); rotate_left; (simp only [Act.put, pS]; rfl)
    refine pu 8 (some 20) 9 511 rfl rfl (v := ?_) (a' := ?_) ?_ ?_ ?_; rotate_left; (intro w'; go_simp; with_reducible rfl); rotate_left; (simp only [Act.put, pS]; rfl)
    refine done_ (by kernel_rfl) ?_
    
    have HS := lhid (show showC lots st H (q : Int) l salt = 6 by unfold showC; rw [if_neg (fun q => q a), if_neg (by rw [B.out]; decide), Int.toNat_natCast, ← HX.out, if_pos SL.out.symm])
    go_wp2_with fail
    try any_goals (exfalso; omega)
    go_ret
    exact ⟨F, .bool false, fun k q => Or.inl q, by rw [HS.out]; rfl, by rw [showH_no (by rw [HS.out]; decide)]; exact HT_22.out, Chg.of_below HB_21.out⟩
   ·
    go_upto_region 6 with (fail)
    try any_goals (exfalso; omega)
    have hb := Zbd (Below.refl w3.heap.size w3)
    have HB_26 := lhid (below_then HB_16.out HB_16.out.size hb)
    have HT_27 := lhid (HT_17.out.next hb)
    have OC_28 := lhid (Kd.C_below OC_18.out hb)
    have TB_29 := lhid (blk_below TB_19.out hb)
    have PB_30 := lhid (blk_below PB_20.out hb)
    clear HB_16 HT_17 OC_18 TB_19 PB_20 hb
    refine start_ (n := 9) (S := fun w' => w'.cell? ⟨tb, 0, none⟩ = some (.pointer (some ⟨t, 0, none⟩)) ∧ w'.cell? ⟨pb, 0, none⟩ = some (.int .i64 (q : Int)) ∧ w'.cell? ⟨t, 2 + q * 4, none⟩ = some (.bool true)) (ds := []) (lsb 9 0) (by kernel_rfl) rfl (by kernel_rfl) ⟨((blk_cell TB_29.out 0).trans rfl), ((blk_cell PB_30.out 0).trans rfl), ((HT_27.out.ch q hq).1.trans (by rw [← HX.out, ← SL.out]))⟩ (fun hHeld => ?_)
    generalize w3.drew = w4 at HB_26 HT_27 OC_28 TB_29 PB_30 hHeld ⊢
    refine tk 0 (some 21) 9 1 rfl rfl hHeld (v := ?_) (a' := ?_) ?_ ?_ ?_; rotate_left; (rintro w' ⟨s0, s1, s2⟩; go_simp; with_reducible rfl); rotate_left; (simp only [Act.put, pS]; rfl)
    refine pu 2 (some 23) 9 5 rfl rfl (v := ?_) (a' := ?_) ?_ ?_ ?_; rotate_left; (intro w'; go_simp; with_reducible rfl); rotate_left; (simp only [Act.put, pS]; rfl)
    refine pu 3 (some 24) 9 13 rfl rfl (v := ?_) (a' := ?_) ?_ ?_ ?_; rotate_left; (intro w'; go_simp; with_reducible rfl); rotate_left; (simp only [Act.put, pS]; rfl)
    refine tk 1 (some 22) 9 15 rfl rfl hHeld (v := ?_) (a' := ?_) ?_ ?_ ?_; rotate_left; (rintro w' ⟨s0, s1, s2⟩; go_simp; with_reducible rfl); rotate_left; (simp only [Act.put, pS]; rfl)
    refine pu 4 (some 25) 9 31 rfl rfl (v := ?_) (a' := ?_) ?_ ?_ ?_; rotate_left; (intro w'; go_simp; with_reducible rfl); rotate_left; (simp only [Act.put, pS]; rfl)
    refine pu 5 (some 26) 9 63 rfl rfl (v := ?_) (a' := ?_) ?_ ?_ ?_; rotate_left; (intro w'; go_simp; with_reducible rfl); rotate_left; (simp only [Act.put, pS]; rfl)
    refine tk 6 (some 27) 9 127 rfl rfl hHeld (v := ?_) (a' := ?_) ?_ ?_ ?_; rotate_left; (rintro w' ⟨s0, s1, s2⟩; go_simp; with_reducible rfl); rotate_left; (simp only [Act.put, pS]; rfl)
    refine pu 7 (some 28) 9 255 rfl rfl (v := ?_) (a' := ?_) ?_ ?_ ?_; rotate_left; (intro w'; go_simp; with_reducible rfl); rotate_left; (simp only [Act.put, pS]; rfl)
    refine pu 8 (some 20) 9 511 rfl rfl (v := ?_) (a' := ?_) ?_ ?_ ?_; rotate_left; (intro w'; go_simp; with_reducible rfl); rotate_left; (simp only [Act.put, pS]; rfl)
    refine done_ (by kernel_rfl) ?_
    
    cases sh
    ·
     go_upto_region 8 with (fail)
     try any_goals (exfalso; omega)
     have hb := Zbd (Below.refl w4.heap.size w4)
     have HB_31 := lhid (below_then HB_26.out HB_26.out.size hb)
     have HT_32 := lhid (HT_27.out.next hb)
     have OC_33 := lhid (Kd.C_below OC_28.out hb)
     have TB_34 := lhid (blk_below TB_29.out hb)
     have PB_35 := lhid (blk_below PB_30.out hb)
     clear HB_26 HT_27 OC_28 TB_29 PB_30 hb
     refine start_ (n := 8) (S := fun w' => w'.cell? ⟨tb, 0, none⟩ = some (.pointer (some ⟨t, 0, none⟩)) ∧ w'.cell? ⟨pb, 0, none⟩ = some (.int .i64 (q : Int)) ∧ w'.cell? ⟨t, 2 + q * 4 + 1, none⟩ = some (.bool false)) (ds := []) (lsb 8 0) (by kernel_rfl) rfl (by kernel_rfl) ⟨((blk_cell TB_34.out 0).trans rfl), ((blk_cell PB_35.out 0).trans rfl), ((HT_32.out.ch q hq).2.1.trans (by rw [← HX.out, ← SH.out]))⟩ (fun hHeld => ?_)
     generalize w4.drew = w5 at HB_31 HT_32 OC_33 TB_34 PB_35 hHeld ⊢
     refine tk 0 (some 30) 8 1 rfl rfl hHeld (v := ?_) (a' := ?_) ?_ ?_ ?_; rotate_left; (rintro w' ⟨s0, s1, s2⟩; go_simp; with_reducible rfl); rotate_left; (simp only [Act.put, pS]; rfl)
     refine pu 2 (some 32) 8 5 rfl rfl (v := ?_) (a' := ?_) ?_ ?_ ?_; rotate_left; (intro w'; go_simp; with_reducible rfl); rotate_left; (simp only [Act.put, pS]; rfl)
     refine pu 3 (some 33) 8 13 rfl rfl (v := ?_) (a' := ?_) ?_ ?_ ?_; rotate_left; (intro w'; go_simp; with_reducible rfl); rotate_left; (simp only [Act.put, pS]; rfl)
     refine tk 1 (some 31) 8 15 rfl rfl hHeld (v := ?_) (a' := ?_) ?_ ?_ ?_; rotate_left; (rintro w' ⟨s0, s1, s2⟩; go_simp; with_reducible rfl); rotate_left; (simp only [Act.put, pS]; rfl)
     refine pu 4 (some 34) 8 31 rfl rfl (v := ?_) (a' := ?_) ?_ ?_ ?_; rotate_left; (intro w'; go_simp; with_reducible rfl); rotate_left; (simp only [Act.put, pS]; rfl)
     refine pu 5 (some 35) 8 63 rfl rfl (v := ?_) (a' := ?_) ?_ ?_ ?_; rotate_left; (intro w'; go_simp; with_reducible rfl); rotate_left; (simp only [Act.put, pS]; rfl)
     refine tk 6 (some 36) 8 127 rfl rfl hHeld (v := ?_) (a' := ?_) ?_ ?_ ?_; rotate_left; (rintro w' ⟨s0, s1, s2⟩; go_simp; with_reducible rfl); rotate_left; (simp only [Act.put, pS]; rfl)
     refine pu 7 (some 29) 8 255 rfl rfl (v := ?_) (a' := ?_) ?_ ?_ ?_; rotate_left; (intro w'; go_simp; with_reducible rfl); rotate_left; (simp only [Act.put, pS]; rfl)
     refine done_ (by kernel_rfl) ?_
     
     obtain ⟨sv, hsv⟩ : ∃ z, z = sealAll l salt := ⟨_, rfl⟩
     have SV := lhid hsv
     clear hsv
     by_cases e5 : sv = ky
     ·
      have d5 : (sv != ky) = false := bne_eq_false_iff_eq.2 e5
      go_upto_region 10 with (fail)
      try any_goals (exfalso; omega)
      have hb := Zbd (Below.refl w5.heap.size w5)
      have HB_36 := lhid (below_then HB_31.out HB_31.out.size hb)
      have HT_37 := lhid (HT_32.out.next hb)
      have OC_38 := lhid (Kd.C_below OC_33.out hb)
      have TB_39 := lhid (blk_below TB_34.out hb)
      have PB_40 := lhid (blk_below PB_35.out hb)
      clear HB_31 HT_32 OC_33 TB_34 PB_35 hb
      refine start_ (n := 12) (S := fun w' => w'.cell? ⟨tb, 0, none⟩ = some (.pointer (some ⟨t, 0, none⟩)) ∧ w'.cell? ⟨pb, 0, none⟩ = some (.int .i64 (q : Int)) ∧ w'.cell? ⟨t, 2 + q * 4 + 2, none⟩ = some (.int .u64 ky)) (ds := []) (lsb 12 0) (by kernel_rfl) rfl (by kernel_rfl) ⟨((blk_cell TB_39.out 0).trans rfl), ((blk_cell PB_40.out 0).trans rfl), ((HT_37.out.ch q hq).2.2.1.trans (by rw [← HX.out, ← KY.out]))⟩ (fun hHeld => ?_)
      generalize w5.drew = w6 at HB_36 HT_37 OC_38 TB_39 PB_40 hHeld ⊢
      refine pu 0 (some 38) 12 1 rfl rfl (v := ?_) (a' := ?_) ?_ ?_ ?_; rotate_left; (intro w'; go_simp; with_reducible rfl); rotate_left; (simp only [Act.put, pS]; rfl)
      refine pu 1 (some 39) 12 3 rfl rfl (v := ?_) (a' := ?_) ?_ ?_ ?_; rotate_left; (intro w'; go_simp; with_reducible rfl); rotate_left; (simp only [Act.put, pS]; rfl)
      refine tk 3 (some 41) 12 11 rfl rfl hHeld (v := ?_) (a' := ?_) ?_ ?_ ?_; rotate_left; (rintro w' ⟨s0, s1, s2⟩; go_simp; with_reducible rfl); rotate_left; (simp only [Act.put, pS]; rfl)
      refine pu 5 (some 43) 12 43 rfl rfl (v := ?_) (a' := ?_) ?_ ?_ ?_; rotate_left; (intro w'; go_simp; with_reducible rfl); rotate_left; (simp only [Act.put, pS]; rfl)
      refine pu 6 (some 44) 12 107 rfl rfl (v := ?_) (a' := ?_) ?_ ?_ ?_; rotate_left; (intro w'; go_simp; with_reducible rfl); rotate_left; (simp only [Act.put, pS]; rfl)
      refine tk 4 (some 42) 12 123 rfl rfl hHeld (v := ?_) (a' := ?_) ?_ ?_ ?_; rotate_left; (rintro w' ⟨s0, s1, s2⟩; go_simp; with_reducible rfl); rotate_left; (simp only [Act.put, pS]; rfl)
      refine pu 7 (some 45) 12 251 rfl rfl (v := ?_) (a' := ?_) ?_ ?_ ?_; rotate_left; (intro w'; go_simp; with_reducible rfl); rotate_left; (simp only [Act.put, pS]; rfl)
      refine pu 8 (some 46) 12 507 rfl rfl (v := ?_) (a' := ?_) ?_ ?_ ?_; rotate_left; (intro w'; go_simp; with_reducible rfl); rotate_left; (simp only [Act.put, pS]; rfl)
      refine tk 9 (some 47) 12 1019 rfl rfl hHeld (v := ?_) (a' := ?_) ?_ ?_ ?_; rotate_left; (rintro w' ⟨s0, s1, s2⟩; go_simp; with_reducible rfl); rotate_left; (simp only [Act.put, pS]; rfl)
      refine one_ (i := 2) (N := some 40) (lsb 12 1023) rfl rfl (by kernel_rfl) (by decide) (fun K hK => ?_)
      refine goes_ Try.func23 (by kernel_rfl) rfl #[.slice A l.length c, .int .u64 salt] (by rfl) rfl rfl (by (try simp only [List.map_toArray, List.map_cons, List.map_nil]); first | done | rfl) ?_
      with_reducible refine (tender_Seal.calls A c l salt sv _ OC_38.out hc (by unfold tender_Seal.f; rw [if_pos hs0, SV.out])).mono ?_
      rintro e w7 ⟨rfl, hb⟩
      refine ⟨_, rfl, ?_⟩
      have HB_41 := lhid (below_then HB_36.out HB_36.out.size hb)
      have HT_42 := lhid (HT_37.out.next hb)
      have OC_43 := lhid (Kd.C_below OC_38.out hb)
      have TB_44 := lhid (blk_below TB_39.out hb)
      have PB_45 := lhid (blk_below PB_40.out hb)
      clear HB_36 HT_37 OC_38 TB_39 PB_40 hb
      refine hK.out _ _ ⟨((blk_cell TB_44.out 0).trans rfl), ((blk_cell PB_45.out 0).trans rfl), ((HT_42.out.ch q hq).2.2.1.trans (by rw [← HX.out, ← KY.out]))⟩ (fun hHeld => ?_)
      clear hK K
      refine norm_ (a' := ?_) ?_ ?_
      rotate_left
      ·
       show Act.put _ (some 40) _ = _
       simp only [Act.put, pS]
       rfl
      refine pu 10 (some 48) 12 2047 rfl rfl (v := ?_) (a' := ?_) ?_ ?_ ?_; rotate_left; (intro w'; go_simp; with_reducible rfl); rotate_left; (simp only [Act.put, pS]; rfl)
      refine pu 11 (some 37) 12 4095 rfl rfl (v := ?_) (a' := ?_) ?_ ?_ ?_; rotate_left; (intro w'; go_simp; with_reducible rfl); rotate_left; (simp only [Act.put, pS]; rfl)
      refine done_ (by kernel_rfl) ?_
      
      by_cases e6 : 4 < l.length
      ·
       have e6' : (l.length : Int) > 4 := by omega
       have HS := lhid (show showC lots st H (q : Int) l salt = 3 by unfold showC; rw [if_neg (fun q => q a), if_neg (by rw [B.out]; decide), Int.toNat_natCast, ← HX.out, if_neg (by rw [← SL.out]; decide), if_neg (by rw [← SH.out]; decide), if_neg (by rw [← SV.out, ← KY.out]; exact fun z => z e5), if_pos e6])
       go_wp2_with fail
       try any_goals (exfalso; omega)
       go_ret
       exact ⟨F, .bool false, fun k q => Or.inl q, by rw [HS.out]; rfl, by rw [showH_no (by rw [HS.out]; decide)]; exact HT_42.out, Chg.of_below HB_41.out⟩
      ·
       have e6' : ¬ ((l.length : Int) > 4) := by omega
       have hmf : ∀ (fn : Fn) (first cap : Array Value) (w : World), (Instr.makeFunc fn first cap).run Try.prog w = .ok (.func fn first cap) w := fun _ _ _ _ => rfl
       go_wp2_with fail
       try any_goals (exfalso; omega)
       clear hmf
       have hH := has55_calls w7 tb pb t lots (q : Int) A c l hl2 hl1 ((blk_cell TB_44.out 0).trans rfl) ((blk_cell PB_45.out 0).trans rfl) HT_42.out.c0 OC_43.out (by omega)
       unfold FV at hH
       with_reducible refine hH.mono ?_
       rintro e w50 ⟨rfl, hb⟩
       clear hH
       have HB_46 := lhid (below_then HB_41.out HB_41.out.size hb)
       have HT_47 := lhid (HT_42.out.next hb)
       have OC_48 := lhid (Kd.C_below OC_43.out hb)
       have TB_49 := lhid (blk_below TB_44.out hb)
       have PB_50 := lhid (blk_below PB_45.out hb)
       clear HB_41 HT_42 OC_43 TB_44 PB_45 hb
       cases e7 : l.any (badO lots (q : Int))
       ·
        have tb0 := blk_cell TB_49.out 0
        have pb0 := blk_cell PB_50.out 0
        simp only [List.getElem?_toArray, List.getElem?_cons_zero] at tb0 pb0
        go_wp2_with fail
        try any_goals (exfalso; omega)
        have hS := shown_t base t F w50 lots st H HT_47.out HFW.out
        with_reducible refine hS.mono ?_
        rintro e w60 ⟨vo, rfl, hR, hb⟩
        clear hS
        obtain ⟨Ao, co, rfl⟩ := Kd.R_slice hR
        clear hR
        clear tb0 pb0
        have HB_51 := lhid (below_then HB_46.out HB_46.out.size hb)
        have HT_52 := lhid (HT_47.out.next hb)
        have OC_53 := lhid (Kd.C_below OC_48.out hb)
        have TB_54 := lhid (blk_below TB_49.out hb)
        have PB_55 := lhid (blk_below PB_50.out hb)
        clear HB_46 HT_47 OC_48 TB_49 PB_50 hb
        have hfl : (H.flatMap (·.off)).length ≤ 32 := by have h1 := few_len HFW.out 8 (by rw [HT_52.out.len]; omega); rwa [List.take_of_length_le (by rw [HT_52.out.len]; omega)] at h1
        obtain ⟨m, hm⟩ : ∃ z, z = (H.flatMap (·.off)).length := ⟨_, rfl⟩
        rw [← hm] at hfl ⊢
        have HM := lhid hm
        clear hm
        obtain ⟨zs, hzs⟩ : ∃ z : Int, z = (m : Int) + (l.length : Int) := ⟨_, rfl⟩
        have hwm : wrap64 ((m : Int) + (l.length : Int)) = zs := by rw [hzs]; exact wrap_sum hfl (Nat.le_of_not_lt e6)
        have HZS := lhid hzs
        clear hzs e6'
        by_cases e8 : 16 < m + l.length
        ·
         have e8' : zs > 16 := by rw [HZS.out]; exact gt16 e8
         have HS := lhid (show showC lots st H (q : Int) l salt = 8 by unfold showC; rw [if_neg (fun q => q a), if_neg (by rw [B.out]; decide), Int.toNat_natCast, ← HX.out, if_neg (by rw [← SL.out]; decide), if_neg (by rw [← SH.out]; decide), if_neg (by rw [← SV.out, ← KY.out]; exact fun z => z e5), if_neg e6, if_neg (by rw [e7]; decide), if_pos (by rw [← HM.out]; exact e8)])
         go_wp2_with fail
         try any_goals (exfalso; omega)
         go_ret
         exact ⟨F, .bool false, fun k q => Or.inl q, by rw [HS.out]; rfl, by rw [showH_no (by rw [HS.out]; decide)]; exact HT_52.out, Chg.of_below HB_51.out⟩
        ·
         have e8' : ¬ (zs > 16) := by rw [HZS.out]; exact le16 e8
         have HS := lhid (show showC lots st H (q : Int) l salt = 0 by unfold showC; rw [if_neg (fun q => q a), if_neg (by rw [B.out]; decide), Int.toNat_natCast, ← HX.out, if_neg (by rw [← SL.out]; decide), if_neg (by rw [← SH.out]; decide), if_neg (by rw [← SV.out, ← KY.out]; exact fun z => z e5), if_neg e6, if_neg (by rw [e7]; decide), if_neg (by rw [← HM.out]; exact e8)])
         go_upto_region 18 with (fail)
         try any_goals (exfalso; omega)
         have hb := Zbd (Below.refl w60.heap.size w60)
         have HB_56 := lhid (below_then HB_51.out HB_51.out.size hb)
         have HT_57 := lhid (HT_52.out.next hb)
         have OC_58 := lhid (Kd.C_below OC_53.out hb)
         have TB_59 := lhid (blk_below TB_54.out hb)
         have PB_60 := lhid (blk_below PB_55.out hb)
         clear HB_51 HT_52 OC_53 TB_54 PB_55 hb
         refine start_ (n := 16) (S := fun w' => w'.cell? ⟨tb, 0, none⟩ = some (.pointer (some ⟨t, 0, none⟩)) ∧ w'.cell? ⟨pb, 0, none⟩ = some (.int .i64 (q : Int))) (ds := [15]) (lsb 16 0) (by kernel_rfl) rfl (by kernel_rfl) ⟨((blk_cell TB_59.out 0).trans rfl), ((blk_cell PB_60.out 0).trans rfl)⟩ (fun hHeld => ?_)
         generalize w60.drew = w61 at HB_56 HT_57 OC_58 TB_59 PB_60 hHeld ⊢
         have HSZ := lhid (show w.heap.size ≤ w61.heap.size from HB_56.out.size)
         refine pu 4 (some 69) 16 16 rfl rfl (v := ?_) (a' := ?_) ?_ ?_ ?_; rotate_left; (intro w'; go_simp; with_reducible rfl); rotate_left; (simp only [Act.put, pS]; rfl)
         refine tk 0 (some 65) 16 17 rfl rfl hHeld (v := ?_) (a' := ?_) ?_ ?_ ?_; rotate_left; (rintro w' ⟨s0, s1⟩; go_simp; with_reducible rfl); rotate_left; (simp only [Act.put, pS]; rfl)
         refine pu 6 (some 71) 16 81 rfl rfl (v := ?_) (a' := ?_) ?_ ?_ ?_; rotate_left; (intro w'; go_simp; with_reducible rfl); rotate_left; (simp only [Act.put, pS]; rfl)
         refine pu 7 (some 72) 16 209 rfl rfl (v := ?_) (a' := ?_) ?_ ?_ ?_; rotate_left; (intro w'; go_simp; with_reducible rfl); rotate_left; (simp only [Act.put, pS]; rfl)
         refine tk 1 (some 66) 16 211 rfl rfl hHeld (v := ?_) (a' := ?_) ?_ ?_ ?_; rotate_left; (rintro w' ⟨s0, s1⟩; go_simp; with_reducible rfl); rotate_left; (simp only [Act.put, pS]; rfl)
         refine tk 2 (some 67) 16 215 rfl rfl hHeld (v := ?_) (a' := ?_) ?_ ?_ ?_; rotate_left; (rintro w' ⟨s0, s1⟩; go_simp; with_reducible rfl); rotate_left; (simp only [Act.put, pS]; rfl)
         refine pu 11 (some 75) 16 2263 rfl rfl (v := ?_) (a' := ?_) ?_ ?_ ?_; rotate_left; (intro w'; go_simp; with_reducible rfl); rotate_left; (simp only [Act.put, pS]; rfl)
         refine pu 12 (some 76) 16 6359 rfl rfl (v := ?_) (a' := ?_) ?_ ?_ ?_; rotate_left; (intro w'; go_simp; with_reducible rfl); rotate_left; (simp only [Act.put, pS]; rfl)
         refine tk 3 (some 68) 16 6367 rfl rfl hHeld (v := ?_) (a' := ?_) ?_ ?_ ?_; rotate_left; (rintro w' ⟨s0, s1⟩; go_simp; with_reducible rfl); rotate_left; (simp only [Act.put, pS]; rfl)
         refine one_ (i := 5) (N := some 70) (lsb 16 6399) rfl rfl (by kernel_rfl) (by decide) (fun K hK => ?_)
         refine goes_ Try.func59 (by kernel_rfl) rfl #[.slice A l.length c] (by rfl) rfl rfl (by (try simp only [List.map_toArray, List.map_cons, List.map_nil]); first | done | rfl) ?_
         with_reducible refine (clone50_calls _ A c l OC_58.out hc (by omega)).mono ?_
         rintro e w62 ⟨v, rfl, hR, hb⟩
         refine ⟨_, rfl, ?_⟩
         have HB_61 := lhid (below_then HB_56.out HB_56.out.size hb)
         have HT_62 := lhid (HT_57.out.next hb)
         have OC_63 := lhid (Kd.C_below OC_58.out hb)
         have TB_64 := lhid (blk_below TB_59.out hb)
         have PB_65 := lhid (blk_below PB_60.out hb)
         clear HB_56 HT_57 OC_58 TB_59 PB_60 hb
         have HR0 := lhid hR
         obtain ⟨Av, cv, hv⟩ := Kd.R_slice hR
         subst hv
         clear hR
         refine hK.out _ _ ⟨((blk_cell TB_64.out 0).trans rfl), ((blk_cell PB_65.out 0).trans rfl)⟩ (fun hHeld => ?_)
         clear hK K
         refine norm_ (a' := ?_) ?_ ?_
         rotate_left
         ·
          show Act.put _ (some 70) _ = _
          simp only [Act.put, pS]
          rfl
         refine pu 8 (some 73) 16 6655 rfl rfl (v := ?_) (a' := ?_) ?_ ?_ ?_; rotate_left; (intro w'; go_simp; with_reducible rfl); rotate_left; (simp only [Act.put, pS]; rfl)
         refine pu 9 (some 74) 16 7167 rfl rfl (v := ?_) (a' := ?_) ?_ ?_ ?_; rotate_left; (intro w'; go_simp; with_reducible rfl); rotate_left; (simp only [Act.put, pS]; rfl)
         refine one_ (i := 10) (N := none) (lsb 16 8191) rfl rfl (by kernel_rfl) (by decide) (fun K hK => ?_)
         obtain ⟨h0, h1, h2, h3⟩ := HT_62.out.ch q hq
         have hfz := fun o => blk_frozen HT_62.out.blk o
         refine skip_ (w1 := ?_) (by rfl) rfl ?_ ?_
         rotate_left
         ·
          go_simp
          rfl
         clear h0 h1 h2 h3 hfz
         refine hK.out _ _ ⟨((blk_cell (blk_far TB_64.out (p := ⟨t, 2 + q * 4 + 1, none⟩) (by have h1 := HNE.out; show tb ≠ t; omega) (.bool true)) 0).trans rfl), ((blk_cell (blk_far PB_65.out (p := ⟨t, 2 + q * 4 + 1, none⟩) (by have h1 := HNE.out; show pb ≠ t; omega) (.bool true)) 0).trans rfl)⟩ (fun hHeld => ?_)
         clear hK K
         refine pu 13 (some 77) 16 16383 rfl rfl (v := ?_) (a' := ?_) ?_ ?_ ?_; rotate_left; (intro w'; go_simp; with_reducible rfl); rotate_left; (simp only [Act.put, pS]; rfl)
         refine pu 14 (some 78) 16 32767 rfl rfl (v := ?_) (a' := ?_) ?_ ?_ ?_; rotate_left; (intro w'; go_simp; with_reducible rfl); rotate_left; (simp only [Act.put, pS]; rfl)
         refine last_ (i := 15) (N := none) (lsb 16 65535) rfl rfl (by kernel_rfl) (by decide) (fun K hK => ?_)
         have HT2 := HT_62.out.hand (i := q) (j := 1) (u := .bool true) (h' := { H.getD q hd0 with sh := true }) hq rfl (by omega) (HT_62.out.getR hq)
         obtain ⟨h0, h1, h2, h3⟩ := HT2.ch q hq
         have hfz := fun o => blk_frozen HT2.blk o
         refine skip_ (w1 := ?_) (by rfl) rfl ?_ ?_
         rotate_left
         ·
          go_simp
          rfl
         clear h0 h1 h2 h3 hfz
         refine hK.out _ _ ?_
         clear hK K
         refine done_ (by kernel_rfl) ?_
         
         go_wp2_with fail
         have hF1 : ∀ k, (F k ∨ (w61.heap.size ≤ k ∧ k < w62.heap.size)) → k ≠ t := fun k z e => by
          rcases z with z | z
          ·
           exact HT2.nF (e ▸ z)
          ·
           have h1 := HSZ.out; have h2 := HNE.out; omega
         have hR1 : Kd.R k50 50 w62 base (fun k => F k ∨ (w61.heap.size ≤ k ∧ k < w62.heap.size)) (.slice Av l.length cv) l := Kd.R_lower (Kd.R_mono (Kd.R_bound HR0.out) (fun k z => Or.inr ⟨z.2.1, z.2.2.1⟩)) (Nat.le_trans hbs HSZ.out)
         have hR2 := Kd.R_far (p := ⟨t, 2 + q * 4 + 1, none⟩) hR1 (fun k z e => hF1 k z e) (.bool true)
         have HT3 := (HT2.mono (F' := (fun k => F k ∨ (w61.heap.size ≤ k ∧ k < w62.heap.size))) (fun k z => Or.inl z) (fun z => hF1 t z rfl)).hand (i := q) (j := 3) (u := .slice Av l.length cv) (h' := { H.getD q hd0 with sh := true, v := .slice Av l.length cv, off := l }) hq (by rw [getD_set' (by rw [HT_62.out.len]; exact hq)]; rfl) (by omega) hR2
         rw [List.set_set] at HT3
         have hA : ∀ k, (F k ∨ (w61.heap.size ≤ k ∧ k < w62.heap.size)) → F k ∨ (w.heap.size ≤ k ∧ k < (World.setCell (World.setCell w62 ⟨t, 2 + q * 4 + 1, none⟩ (.bool true)) ⟨t, 2 + q * 4 + 3, none⟩ (.slice Av l.length cv)).heap.size) := fun k z => z.imp_right (fun y => ⟨Nat.le_trans HSZ.out y.1, by simpa using y.2⟩)
         have hD := ((Chg.of_below (F := fun k => k = t) HB_61.out).set (p := ⟨t, 2 + q * 4 + 1, none⟩) (Or.inr rfl) (.bool true)).set (p := ⟨t, 2 + q * 4 + 3, none⟩) (Or.inr rfl) (.slice Av l.length cv)
         have hC : TN base (fun k => F k ∨ (w61.heap.size ≤ k ∧ k < w62.heap.size)) (World.setCell (World.setCell w62 ⟨t, 2 + q * 4 + 1, none⟩ (.bool true)) ⟨t, 2 + q * 4 + 3, none⟩ (.slice Av l.length cv)) t lots st (showH lots st H (q : Int) l salt (.slice Av l.length cv)) := by rw [showH_yes HS.out, Int.toNat_natCast]; exact HT3
         go_ret
         first | exact ⟨(fun k => F k ∨ (w61.heap.size ≤ k ∧ k < w62.heap.size)), .slice Av l.length cv, hA, by rw [HS.out]; rfl, hC, hD⟩ | exact ⟨(fun k => F k ∨ (w61.heap.size ≤ k ∧ k < w62.heap.size)), hA, by rw [HS.out]; rfl, ⟨.slice Av l.length cv, hC⟩, hD⟩
       ·
        have HS := lhid (show showC lots st H (q : Int) l salt = 2 by unfold showC; rw [if_neg (fun q => q a), if_neg (by rw [B.out]; decide), Int.toNat_natCast, ← HX.out, if_neg (by rw [← SL.out]; decide), if_neg (by rw [← SH.out]; decide), if_neg (by rw [← SV.out, ← KY.out]; exact fun z => z e5), if_neg e6, if_pos e7])
        go_wp2_with fail
        try any_goals (exfalso; omega)
        go_ret
        exact ⟨F, .bool false, fun k q => Or.inl q, by rw [HS.out]; rfl, by rw [showH_no (by rw [HS.out]; decide)]; exact HT_47.out, Chg.of_below HB_46.out⟩
     ·
      have d5 : (sv != ky) = true := bne_iff_ne.2 e5
      go_upto_region 10 with (fail)
      try any_goals (exfalso; omega)
      have hb := Zbd (Below.refl w5.heap.size w5)
      have HB_66 := lhid (below_then HB_31.out HB_31.out.size hb)
      have HT_67 := lhid (HT_32.out.next hb)
      have OC_68 := lhid (Kd.C_below OC_33.out hb)
      have TB_69 := lhid (blk_below TB_34.out hb)
      have PB_70 := lhid (blk_below PB_35.out hb)
      clear HB_31 HT_32 OC_33 TB_34 PB_35 hb
      refine start_ (n := 12) (S := fun w' => w'.cell? ⟨tb, 0, none⟩ = some (.pointer (some ⟨t, 0, none⟩)) ∧ w'.cell? ⟨pb, 0, none⟩ = some (.int .i64 (q : Int)) ∧ w'.cell? ⟨t, 2 + q * 4 + 2, none⟩ = some (.int .u64 ky)) (ds := []) (lsb 12 0) (by kernel_rfl) rfl (by kernel_rfl) ⟨((blk_cell TB_69.out 0).trans rfl), ((blk_cell PB_70.out 0).trans rfl), ((HT_67.out.ch q hq).2.2.1.trans (by rw [← HX.out, ← KY.out]))⟩ (fun hHeld => ?_)
      generalize w5.drew = w6 at HB_66 HT_67 OC_68 TB_69 PB_70 hHeld ⊢
      refine pu 0 (some 38) 12 1 rfl rfl (v := ?_) (a' := ?_) ?_ ?_ ?_; rotate_left; (intro w'; go_simp; with_reducible rfl); rotate_left; (simp only [Act.put, pS]; rfl)
      refine pu 1 (some 39) 12 3 rfl rfl (v := ?_) (a' := ?_) ?_ ?_ ?_; rotate_left; (intro w'; go_simp; with_reducible rfl); rotate_left; (simp only [Act.put, pS]; rfl)
      refine tk 3 (some 41) 12 11 rfl rfl hHeld (v := ?_) (a' := ?_) ?_ ?_ ?_; rotate_left; (rintro w' ⟨s0, s1, s2⟩; go_simp; with_reducible rfl); rotate_left; (simp only [Act.put, pS]; rfl)
      refine pu 5 (some 43) 12 43 rfl rfl (v := ?_) (a' := ?_) ?_ ?_ ?_; rotate_left; (intro w'; go_simp; with_reducible rfl); rotate_left; (simp only [Act.put, pS]; rfl)
      refine pu 6 (some 44) 12 107 rfl rfl (v := ?_) (a' := ?_) ?_ ?_ ?_; rotate_left; (intro w'; go_simp; with_reducible rfl); rotate_left; (simp only [Act.put, pS]; rfl)
      refine tk 4 (some 42) 12 123 rfl rfl hHeld (v := ?_) (a' := ?_) ?_ ?_ ?_; rotate_left; (rintro w' ⟨s0, s1, s2⟩; go_simp; with_reducible rfl); rotate_left; (simp only [Act.put, pS]; rfl)
      refine pu 7 (some 45) 12 251 rfl rfl (v := ?_) (a' := ?_) ?_ ?_ ?_; rotate_left; (intro w'; go_simp; with_reducible rfl); rotate_left; (simp only [Act.put, pS]; rfl)
      refine pu 8 (some 46) 12 507 rfl rfl (v := ?_) (a' := ?_) ?_ ?_ ?_; rotate_left; (intro w'; go_simp; with_reducible rfl); rotate_left; (simp only [Act.put, pS]; rfl)
      refine tk 9 (some 47) 12 1019 rfl rfl hHeld (v := ?_) (a' := ?_) ?_ ?_ ?_; rotate_left; (rintro w' ⟨s0, s1, s2⟩; go_simp; with_reducible rfl); rotate_left; (simp only [Act.put, pS]; rfl)
      refine one_ (i := 2) (N := some 40) (lsb 12 1023) rfl rfl (by kernel_rfl) (by decide) (fun K hK => ?_)
      refine goes_ Try.func23 (by kernel_rfl) rfl #[.slice A l.length c, .int .u64 salt] (by rfl) rfl rfl (by (try simp only [List.map_toArray, List.map_cons, List.map_nil]); first | done | rfl) ?_
      with_reducible refine (tender_Seal.calls A c l salt sv _ OC_68.out hc (by unfold tender_Seal.f; rw [if_pos hs0, SV.out])).mono ?_
      rintro e w7 ⟨rfl, hb⟩
      refine ⟨_, rfl, ?_⟩
      have HB_71 := lhid (below_then HB_66.out HB_66.out.size hb)
      have HT_72 := lhid (HT_67.out.next hb)
      have OC_73 := lhid (Kd.C_below OC_68.out hb)
      have TB_74 := lhid (blk_below TB_69.out hb)
      have PB_75 := lhid (blk_below PB_70.out hb)
      clear HB_66 HT_67 OC_68 TB_69 PB_70 hb
      refine hK.out _ _ ⟨((blk_cell TB_74.out 0).trans rfl), ((blk_cell PB_75.out 0).trans rfl), ((HT_72.out.ch q hq).2.2.1.trans (by rw [← HX.out, ← KY.out]))⟩ (fun hHeld => ?_)
      clear hK K
      refine norm_ (a' := ?_) ?_ ?_
      rotate_left
      ·
       show Act.put _ (some 40) _ = _
       simp only [Act.put, pS]
       rfl
      refine pu 10 (some 48) 12 2047 rfl rfl (v := ?_) (a' := ?_) ?_ ?_ ?_; rotate_left; (intro w'; go_simp; with_reducible rfl); rotate_left; (simp only [Act.put, pS]; rfl)
      refine pu 11 (some 37) 12 4095 rfl rfl (v := ?_) (a' := ?_) ?_ ?_ ?_; rotate_left; (intro w'; go_simp; with_reducible rfl); rotate_left; (simp only [Act.put, pS]; rfl)
      refine done_ (by kernel_rfl) ?_
      
      have HS := lhid (show showC lots st H (q : Int) l salt = 11 by unfold showC; rw [if_neg (fun q => q a), if_neg (by rw [B.out]; decide), Int.toNat_natCast, ← HX.out, if_neg (by rw [← SL.out]; decide), if_neg (by rw [← SH.out]; decide), if_pos (by rw [← SV.out, ← KY.out]; exact e5)])
      go_wp2_with fail
      try any_goals (exfalso; omega)
      go_ret
      exact ⟨F, .bool false, fun k q => Or.inl q, by rw [HS.out]; rfl, by rw [showH_no (by rw [HS.out]; decide)]; exact HT_72.out, Chg.of_below HB_71.out⟩
    ·
     go_upto_region 8 with (fail)
     try any_goals (exfalso; omega)
     have hb := Zbd (Below.refl w4.heap.size w4)
     have HB_76 := lhid (below_then HB_26.out HB_26.out.size hb)
     have HT_77 := lhid (HT_27.out.next hb)
     have OC_78 := lhid (Kd.C_below OC_28.out hb)
     have TB_79 := lhid (blk_below TB_29.out hb)
     have PB_80 := lhid (blk_below PB_30.out hb)
     clear HB_26 HT_27 OC_28 TB_29 PB_30 hb
     refine start_ (n := 8) (S := fun w' => w'.cell? ⟨tb, 0, none⟩ = some (.pointer (some ⟨t, 0, none⟩)) ∧ w'.cell? ⟨pb, 0, none⟩ = some (.int .i64 (q : Int)) ∧ w'.cell? ⟨t, 2 + q * 4 + 1, none⟩ = some (.bool true)) (ds := []) (lsb 8 0) (by kernel_rfl) rfl (by kernel_rfl) ⟨((blk_cell TB_79.out 0).trans rfl), ((blk_cell PB_80.out 0).trans rfl), ((HT_77.out.ch q hq).2.1.trans (by rw [← HX.out, ← SH.out]))⟩ (fun hHeld => ?_)
     generalize w4.drew = w5 at HB_76 HT_77 OC_78 TB_79 PB_80 hHeld ⊢
     refine tk 0 (some 30) 8 1 rfl rfl hHeld (v := ?_) (a' := ?_) ?_ ?_ ?_; rotate_left; (rintro w' ⟨s0, s1, s2⟩; go_simp; with_reducible rfl); rotate_left; (simp only [Act.put, pS]; rfl)
     refine pu 2 (some 32) 8 5 rfl rfl (v := ?_) (a' := ?_) ?_ ?_ ?_; rotate_left; (intro w'; go_simp; with_reducible rfl); rotate_left; (simp only [Act.put, pS]; rfl)
     refine pu 3 (some 33) 8 13 rfl rfl (v := ?_) (a' := ?_) ?_ ?_ ?_; rotate_left; (intro w'; go_simp; with_reducible rfl); rotate_left; (simp only [Act.put, pS]; rfl)
     refine tk 1 (some 31) 8 15 rfl rfl hHeld (v := ?_) (a' := ?_) ?_ ?_ ?_; rotate_left; (rintro w' ⟨s0, s1, s2⟩; go_simp; with_reducible rfl); rotate_left; (simp only [Act.put, pS]; rfl)
     refine pu 4 (some 34) 8 31 rfl rfl (v := ?_) (a' := ?_) ?_ ?_ ?_; rotate_left; (intro w'; go_simp; with_reducible rfl); rotate_left; (simp only [Act.put, pS]; rfl)
     refine pu 5 (some 35) 8 63 rfl rfl (v := ?_) (a' := ?_) ?_ ?_ ?_; rotate_left; (intro w'; go_simp; with_reducible rfl); rotate_left; (simp only [Act.put, pS]; rfl)
     refine tk 6 (some 36) 8 127 rfl rfl hHeld (v := ?_) (a' := ?_) ?_ ?_ ?_; rotate_left; (rintro w' ⟨s0, s1, s2⟩; go_simp; with_reducible rfl); rotate_left; (simp only [Act.put, pS]; rfl)
     refine pu 7 (some 29) 8 255 rfl rfl (v := ?_) (a' := ?_) ?_ ?_ ?_; rotate_left; (intro w'; go_simp; with_reducible rfl); rotate_left; (simp only [Act.put, pS]; rfl)
     refine done_ (by kernel_rfl) ?_
     
     have HS := lhid (show showC lots st H (q : Int) l salt = 7 by unfold showC; rw [if_neg (fun q => q a), if_neg (by rw [B.out]; decide), Int.toNat_natCast, ← HX.out, if_neg (by rw [← SL.out]; decide), if_pos SH.out.symm])
     go_wp2_with fail
     try any_goals (exfalso; omega)
     go_ret
     exact ⟨F, .bool false, fun k q => Or.inl q, by rw [HS.out]; rfl, by rw [showH_no (by rw [HS.out]; decide)]; exact HT_77.out, Chg.of_below HB_76.out⟩
 ·
  have d : (inC lots st 1 != 0) = true := bne_iff_ne.2 a
  clear tb0 pb0
  have HS := lhid (show showC lots st H who l salt = inC lots st 1 by unfold showC; rw [if_pos a])
  go_wp2_with fail
  try any_goals (exfalso; omega)
  go_ret
  exact ⟨F, .bool false, fun k q => Or.inl q, by rw [HS.out]; rfl, by rw [showH_no (by rw [HS.out]; exact a)]; exact HT_7.out, Chg.of_below HB_6.out⟩
end Go.Proofs.Ythfdjccdelbeeaa.PT
end
section
namespace Go.Proofs.Ythfdjccdelbeeaa.PT
open Go.RowKit Go.Proofs.YthfdjccdelbeeaaW.PrintWords Go.Proofs.YthfdjccdelbeeaaW.PrintLast Go.Proofs.YthfdjccdelbeeaaW.PrintMore
set_option linter.unusedVariables false
set_option linter.unusedSimpArgs false
theorem alive_calls (w : World) : Calls Try.prog 16 #[] w fun e w' => e = .returned (.bool true) ∧ Below w.heap.size w w' := by
 obtain ⟨k, hk⟩ := ev_alive
 exact kimberlitelaw05_alive.calls k true w (hk k (Nat.le_refl _))
def clS (lots st : Int) : Int := if inC lots st 1 = 0 then 2 else st
section
variable {base t : Nat} {F : Nat → Prop} {w : World} {lots st : Int} {H : List Hd}
theorem TN.put3 (h : TN base F w t lots st H) {b : Nat} (hb : b ≠ t) (hF : ¬ F b) (u0 u1 u2 : Value) : TN base F (World.setCell (World.setCell (World.setCell w ⟨b, 0, none⟩ u0) ⟨b, 1, none⟩ u1) ⟨b, 2, none⟩ u2) t lots st H :=
 h.far (G := fun k => k = b) ((((Chg.refl (fun k => k = b) w).set (p := ⟨b, 0, none⟩) (Or.inr rfl) u0).set (p := ⟨b, 1, none⟩) (Or.inr rfl) u1).set (p := ⟨b, 2, none⟩) (Or.inr rfl) u2) (fun e => hb e.symm) (fun k q e => hF (e ▸ q))
end
set_option maxHeartbeats 12800000 in
set_option maxRecDepth 100000 in
theorem Close_t (base t : Nat) (F : Nat → Prop) (w : World) (lots st : Int) (H : List Hd) (k : Nat) (r1 r2 : List Int) (r3 r4 : Int) (h : TN base F w t lots st H) (hf : Few H) (a : inC lots st 1 = 0) (hFr : ¬ F w.heap.size) (hd : tender_Decide.f k lots (H.flatMap (·.off)) = some (r1, r2, r3, r4)) : Calls Try.prog 38 #[.pointer (some ⟨t, 0, none⟩)] w fun e w' => ∃ vo v0 v1 : Value, e = .returned (.tuple #[.agg #[v0, v1, .int .i64 r3], vo, .int .i64 0]) ∧ Kd.R k50 50 w' w.heap.size (fun _ => True) vo (H.flatMap (·.off)) ∧ Kd.R (Kd.int .i64) 3 w' w.heap.size (fun _ => True) v0 r1 ∧ Kd.R (Kd.int .i64) 3 w' w.heap.size (fun _ => True) v1 r2 ∧ TN base F w' t lots (clS lots st) H ∧ Chg (fun k => k = t) w w' := by
 have hu44 := Try.underlying44
 have HT0 := lhid h
 have HFW := lhid hf
 have HLT := lhid h.lt
 obtain ⟨L, hL⟩ : ∃ L, L = H.flatMap (·.off) := ⟨_, rfl⟩
 rw [← hL] at hd ⊢
 have HLL := lhid hL
 have HD := lhid hd
 clear h hf hd hL
 have hu85 := Try.underlying85
 have hu82 := Try.underlying82
 have hu83 := Try.underlying83
 go_enter Try.func38, Try.ntmps38
 have HB_1 := lhid (Below.refl w.heap.size w)
 go_upto_region 1 with (fail)
 have hb := Zba (Below.refl w.heap.size w) (.cells #[.slice none 0 0, .slice none 0 0, .int .i64 0] 44)
 have hn := blk_new w (.cells #[.slice none 0 0, .slice none 0 0, .int .i64 0] 44)
 have HZ1 := lhid (show (World.alloc w (.cells #[.slice none 0 0, .slice none 0 0, .int .i64 0] 44)).heap.size = w.heap.size + 1 from by simp)
 generalize hq : World.alloc w (.cells #[.slice none 0 0, .slice none 0 0, .int .i64 0] 44) = w1 at hb hn HZ1 ⊢
 clear hq
 have HB_2 := lhid (below_then HB_1.out HB_1.out.size hb)
 have HT_3 := lhid (HT0.out.next hb)
 clear HB_1 HT0 hb
 have RZ_4 := lhid (hn)
 clear hn
 obtain ⟨rz, hrz⟩ : ∃ q, q = w.heap.size := ⟨_, rfl⟩
 rw [← hrz] at RZ_4 ⊢
 have HRZ := lhid hrz
 clear hrz
 go_wp2_with fail
 with_reducible refine (in_t base t F w1 lots st H 1 HT_3.out).mono ?_
 rintro e w' ⟨rfl, rfl⟩
 have d : (inC lots st 1 != 0) = false := bne_eq_false_iff_eq.2 a
 have HA := lhid a
 clear a
 go_wp2_with fail
 have hS := shown_t base t F w1 lots st H HT_3.out HFW.out
 rw [← HLL.out] at hS
 with_reducible refine hS.mono ?_
 rintro e w10 ⟨vo, rfl, hR, hb⟩
 have HSA := lhid (show w1.heap.size ≤ w10.heap.size from hb.size)
 have HO := lhid (Kd.R_lower hR HB_2.out.size)
 clear hS hR
 have HB_5 := lhid (below_then HB_2.out HB_2.out.size hb)
 have HT_6 := lhid (HT_3.out.next hb)
 have RZ_7 := lhid (blk_below RZ_4.out hb)
 clear HB_2 HT_3 RZ_4 hb
 obtain ⟨Ao, co, rfl⟩ := Kd.R_slice HO.out
 have h0 := HT_6.out.c0
 go_wp2_with fail
 have hDc := tender_Decide.calls k lots Ao co L r1 r2 r3 r4 w10 (R_C HO.out) (Kd.R_reads' HO.out).2.1 HD.out
 with_reducible refine hDc.mono ?_
 rintro e w20 ⟨v0, v1, rfl, hR0, hR1, hb⟩
 obtain ⟨A0, c0, rfl⟩ := Kd.R_slice hR0
 obtain ⟨A1, c1, rfl⟩ := Kd.R_slice hR1
 have HSB := lhid (show w10.heap.size ≤ w20.heap.size from hb.size)
 have HP0 := lhid (Kd.R_lower (Kd.R_mono hR0 (ok' := fun _ => True) (fun _ _ => trivial)) HB_5.out.size)
 have HP1 := lhid (Kd.R_lower (Kd.R_mono hR1 (ok' := fun _ => True) (fun _ _ => trivial)) HB_5.out.size)
 clear hDc hR0 hR1 h0
 have HB_8 := lhid (below_then HB_5.out HB_5.out.size hb)
 have HT_9 := lhid (HT_6.out.next hb)
 have RZ_10 := lhid (blk_below RZ_7.out hb)
 have O_11 := lhid (Kd.R_below HO.out hb)
 clear HB_5 HT_6 RZ_7 HO hb
 go_upto_region 6 with (fail)
 have hb := Zba (Below.refl w20.heap.size w20) (.cells #[.slice A0 r1.length c0, .slice A1 r2.length c1, .int .i64 r3] 44)
 have hn := blk_new w20 (.cells #[.slice A0 r1.length c0, .slice A1 r2.length c1, .int .i64 r3] 44)
 have HZ21 := lhid (show (World.alloc w20 (.cells #[.slice A0 r1.length c0, .slice A1 r2.length c1, .int .i64 r3] 44)).heap.size = w20.heap.size + 1 from by simp)
 generalize hq : World.alloc w20 (.cells #[.slice A0 r1.length c0, .slice A1 r2.length c1, .int .i64 r3] 44) = w21 at hb hn HZ21 ⊢
 clear hq
 have HB_12 := lhid (below_then HB_8.out HB_8.out.size hb)
 have HT_13 := lhid (HT_9.out.next hb)
 have RZ_14 := lhid (blk_below RZ_10.out hb)
 have O_15 := lhid (Kd.R_below O_11.out hb)
 have P0_16 := lhid (Kd.R_below HP0.out hb)
 have P1_17 := lhid (Kd.R_below HP1.out hb)
 clear HB_8 HT_9 RZ_10 O_11 HP0 HP1 hb
 have AZ_18 := lhid (hn)
 clear hn
 have HSZ := lhid (show w.heap.size + 1 ≤ w20.heap.size by have h1 := HZ1.out; have h2 := HSA.out; have h3 := HSB.out; omega)
 obtain ⟨az, haz⟩ : ∃ q, q = w20.heap.size := ⟨_, rfl⟩
 rw [← haz] at AZ_18 ⊢
 have HAZ := lhid (show rz < az ∧ t < rz by have h1 := HRZ.out; have h2 := HLT.out; have h3 := HSZ.out; omega)
 clear haz
 have h1 := HT_13.out.c1
 have hfz := fun o => blk_frozen HT_13.out.blk o
 go_upto_region 7 with (fail)
 clear h1 hfz
 have HT9 := lhid (HT_13.out.state 2)
 have HC9 := lhid ((Chg.of_below (F := fun k => k = t) HB_12.out).set (p := ⟨t, 1, none⟩) (Or.inr rfl) (.int .i64 2))
 have RZ9 := lhid (blk_far RZ_14.out (p := ⟨t, 1, none⟩) (by have h1 := HAZ.out; show rz ≠ t; omega) (.int .i64 2))
 have AZ9 := lhid (blk_far AZ_18.out (p := ⟨t, 1, none⟩) (by have h1 := HAZ.out; show az ≠ t; omega) (.int .i64 2))
 have O9 := lhid (Kd.R_mono (Kd.R_far (p := ⟨t, 1, none⟩) (Kd.R_bound O_15.out) (fun k q e => by have h1 := q.2.1; have h2 := HLT.out; have h3 : k = t := e; omega) (.int .i64 2)) (fun k q => q.1))
 have P09 := lhid (Kd.R_mono (Kd.R_far (p := ⟨t, 1, none⟩) (Kd.R_bound P0_16.out) (fun k q e => by have h1 := q.2.1; have h2 := HLT.out; have h3 : k = t := e; omega) (.int .i64 2)) (fun k q => q.1))
 have P19 := lhid (Kd.R_mono (Kd.R_far (p := ⟨t, 1, none⟩) (Kd.R_bound P1_17.out) (fun k q e => by have h1 := q.2.1; have h2 := HLT.out; have h3 : k = t := e; omega) (.int .i64 2)) (fun k q => q.1))
 generalize (World.setCell w21 ⟨t, 1, none⟩ (.int .i64 2)) = w30 at HT9 HC9 RZ9 AZ9 O9 P09 P19 ⊢
 clear HB_12 HT_13 RZ_14 O_15 P0_16 P1_17 AZ_18
 obtain ⟨a0, a1, a2⟩ := three AZ9.out
 obtain ⟨z0, z1, z2⟩ := three RZ9.out
 have hfz := fun o => blk_frozen RZ9.out o
 go_wp2_with fail
 have hz1 := blk_put RZ9.out 0 (.slice A0 r1.length c0) rfl
 have hz2 := blk_put hz1 1 (.slice A1 r2.length c1) rfl
 have hz3 := blk_put hz2 2 (.int .i64 r3) rfl
 have hO := Kd.R_set (Kd.R_set (Kd.R_set O9.out RZ9.out (by decide) 0 (.slice A0 r1.length c0)) hz1 (by decide) 1 (.slice A1 r2.length c1)) hz2 (by decide) 2 (.int .i64 r3)
 have hP0 := Kd.R_set (Kd.R_set (Kd.R_set P09.out RZ9.out (by decide) 0 (.slice A0 r1.length c0)) hz1 (by decide) 1 (.slice A1 r2.length c1)) hz2 (by decide) 2 (.int .i64 r3)
 have hP1 := Kd.R_set (Kd.R_set (Kd.R_set P19.out RZ9.out (by decide) 0 (.slice A0 r1.length c0)) hz1 (by decide) 1 (.slice A1 r2.length c1)) hz2 (by decide) 2 (.int .i64 r3)
 have hrw : w.heap.size ≤ rz := by rw [HRZ.out]; exact Nat.le_refl _
 have hC := ((HC9.out.set (p := ⟨rz, 0, none⟩) (Or.inl hrw) (.slice A0 r1.length c0)).set (p := ⟨rz, 1, none⟩) (Or.inl hrw) (.slice A1 r2.length c1)).set (p := ⟨rz, 2, none⟩) (Or.inl hrw) (.int .i64 r3)
 have hT := TN.put3 HT9.out (b := rz) (by have h1 := HAZ.out; omega) (by rw [HRZ.out]; exact hFr) (.slice A0 r1.length c0) (.slice A1 r2.length c1) (.int .i64 r3)
 clear hz1 hz2
 generalize (World.setCell (World.setCell (World.setCell w30 ⟨rz, 0, none⟩ (.slice A0 r1.length c0)) ⟨rz, 1, none⟩ (.slice A1 r2.length c1)) ⟨rz, 2, none⟩ (.int .i64 r3)) = w40 at hz3 hO hP0 hP1 hC hT ⊢
 refine bodyPost_ret (results_ctt rfl _ _ rz 44 #[(.slice A0 r1.length c0), (.slice A1 r2.length c1), (.int .i64 r3)] (0, 0) _ rfl hz3 Try.underlying44 rfl (by kernel_rfl)) rfl ?_
 exact ⟨_, _, _, rfl, hO, hP0, hP1, by unfold clS; rw [if_pos HA.out]; exact hT, hC⟩
set_option maxHeartbeats 12800000 in
set_option maxRecDepth 100000 in
theorem Close_no (base t : Nat) (F : Nat → Prop) (w : World) (lots st : Int) (H : List Hd) (h : TN base F w t lots st H) (a : inC lots st 1 ≠ 0) : Calls Try.prog 38 #[.pointer (some ⟨t, 0, none⟩)] w fun e w' => e = .returned (.tuple #[.agg #[.slice none 0 0, .slice none 0 0, .int .i64 0], .slice none 0 0, .int .i64 (inC lots st 1)]) ∧ Below w.heap.size w w' := by
 have hu44 := Try.underlying44
 have HT0 := lhid h
 clear h
 have hu85 := Try.underlying85
 have hu82 := Try.underlying82
 have hu83 := Try.underlying83
 go_enter Try.func38, Try.ntmps38
 have HB_1 := lhid (Below.refl w.heap.size w)
 go_upto_region 1 with (fail)
 have hb := Zba (Below.refl w.heap.size w) (.cells #[.slice none 0 0, .slice none 0 0, .int .i64 0] 44)
 have hn := blk_new w (.cells #[.slice none 0 0, .slice none 0 0, .int .i64 0] 44)
 have HZ1 := lhid (show (World.alloc w (.cells #[.slice none 0 0, .slice none 0 0, .int .i64 0] 44)).heap.size = w.heap.size + 1 from by simp)
 generalize hq : World.alloc w (.cells #[.slice none 0 0, .slice none 0 0, .int .i64 0] 44) = w1 at hb hn HZ1 ⊢
 clear hq
 have HB_2 := lhid (below_then HB_1.out HB_1.out.size hb)
 have HT_3 := lhid (HT0.out.next hb)
 clear HB_1 HT0 hb
 have RZ_4 := lhid (hn)
 clear hn
 obtain ⟨rz, hrz⟩ : ∃ q, q = w.heap.size := ⟨_, rfl⟩
 rw [← hrz] at RZ_4 ⊢
 have HRZ := lhid hrz
 clear hrz
 go_wp2_with fail
 with_reducible refine (in_t base t F w1 lots st H 1 HT_3.out).mono ?_
 rintro e w' ⟨rfl, rfl⟩
 have d : (inC lots st 1 != 0) = true := bne_iff_ne.2 a
 obtain ⟨z0, z1, z2⟩ := three RZ_4.out
 have hfz := fun o => blk_frozen RZ_4.out o
 go_wp2_with fail
 have hz1 := blk_put RZ_4.out 0 (.slice none 0 0) rfl
 have hz2 := blk_put hz1 1 (.slice none 0 0) rfl
 have hz3 := blk_put hz2 2 (.int .i64 0) rfl
 have hrw : w.heap.size ≤ rz := by rw [HRZ.out]; exact Nat.le_refl _
 have hB := ((HB_2.out.setCell (p := ⟨rz, 0, none⟩) hrw (.slice none 0 0)).setCell (p := ⟨rz, 1, none⟩) hrw (.slice none 0 0)).setCell (p := ⟨rz, 2, none⟩) hrw (.int .i64 0)
 clear hz1 hz2
 generalize (World.setCell (World.setCell (World.setCell w1 ⟨rz, 0, none⟩ (.slice none 0 0)) ⟨rz, 1, none⟩ (.slice none 0 0)) ⟨rz, 2, none⟩ (.int .i64 0)) = w40 at hz3 hB ⊢
 refine bodyPost_ret (results_ctt rfl _ _ rz 44 #[(.slice none 0 0), (.slice none 0 0), (.int .i64 0)] (0, 0) _ rfl hz3 Try.underlying44 rfl (by kernel_rfl)) rfl ?_
 exact ⟨rfl, hB⟩
end Go.Proofs.Ythfdjccdelbeeaa.PT
end
section
namespace Go.Proofs.Ythfdjccdelbeeaa.PT
open Go.RowKit Go.Proofs.YthfdjccdelbeeaaW.PrintWords Go.Proofs.YthfdjccdelbeeaaW.PrintLast Go.Proofs.YthfdjccdelbeeaaW.PrintMore
set_option linter.unusedVariables false
set_option linter.unusedSimpArgs false
def upd {α : Type} (f : Nat → α) (j : Nat) (x : α) : Nat → α := fun i => if i = j then x else f i
structure Fam (w : World) (base n : Nat) (V : Nat → Value) (L : Nat → List S50) : Prop where
 row : ∀ j, j < n → Kd.R k50 50 w base (fun k => ∀ i, i < n → i ≠ j → some k ≠ (V i).ownBlock) (V j) (L j)
section
variable {w w' : World} {base n : Nat} {V : Nat → Value} {L : Nat → List S50}
end
end Go.Proofs.Ythfdjccdelbeeaa.PT
end
section
namespace Go.Proofs.Ythfdjccdelbeeaa.PT
open Go.RowKit Go.Proofs.YthfdjccdelbeeaaW.PrintWords Go.Proofs.YthfdjccdelbeeaaW.PrintLast Go.Proofs.YthfdjccdelbeeaaW.PrintMore
attribute [local go_sem] max2_int min2_int max_two min_two max_three min_three max_four min_four   -- for this text's walks alone
set_option linter.unusedVariables false
set_option linter.unusedSimpArgs false
mutual
def kimberliteref05_Choice.l0 : Nat → List (S50) → List Int → Int → Int → Int → Int → Option (Int × Bool)
 | 0, _, _, _, _, _, _ => none
 | k + 1, x0, x1, x6, x7, x8, x9 => if x9 < (x1.length : Int) then (if 0 ≤ x9 then (if (rd x1 x9) < 0 then (kimberliteref05_Choice.j1 k x0 x1 x6 x7 x8 x9 true) else (if (rd x1 x9) ≥ (x0.length : Int) then (kimberliteref05_Choice.j1 k x0 x1 x6 x7 x8 x9 true) else (if x9 > 0 then (if 0 ≤ (wrap64 (x9 - 1)) then (if (wrap64 (x9 - 1)) < (x1.length : Int) then (kimberliteref05_Choice.j1 k x0 x1 x6 x7 x8 x9 (decide ((rd x1 (wrap64 (x9 - 1))) ≥ (rd x1 x9)))) else (none)) else (none)) else (kimberliteref05_Choice.j1 k x0 x1 x6 x7 x8 x9 false)))) else (none)) else (some (x6, true))
def kimberliteref05_Choice.j1 : Nat → List (S50) → List Int → Int → Int → Int → Int → Bool → Option (Int × Bool)
 | 0, _, _, _, _, _, _, _ => none
 | k + 1, x0, x1, x6, x7, x8, x9, x46 => if x46 = true then (some (0, false)) else (if 0 ≤ x9 then (if x9 < (x1.length : Int) then (if 0 ≤ (rd x1 x9) then (if (rd x1 x9) < (x0.length : Int) then (if (Go.bits .and .i64 x7 ((rd_T50 x0 (rd x1 x9)).f1)) = 0 then (if 0 ≤ ((rd_T50 x0 (rd x1 x9)).f0) then (if (Int.tmod (shr .i64 x8 ((rd_T50 x0 (rd x1 x9)).f0)) 2) = 1 then (some (0, false)) else (kimberliteref05_Choice.l0 k x0 x1 (wrap64 (x6 + ((rd_T50 x0 (rd x1 x9)).f2))) (Go.bits .or .i64 x7 ((rd_T50 x0 (rd x1 x9)).f1)) (Go.bits .or .i64 x8 (shl .i64 1 ((rd_T50 x0 (rd x1 x9)).f0))) (wrap64 (x9 + 1)))) else (none)) else (some (0, false))) else (none)) else (none)) else (none)) else (none))
end
def kimberliteref05_Choice.f (k : Nat) (l0 : List (S50)) (l1 : List Int) : Option (Int × Bool) := kimberliteref05_Choice.l0 k l0 l1 0 0 0 0
theorem kimberliteref05_Choice.mono_l : ∀ k, (∀ y0 y1 y2 y3 y4 y5, LeO (kimberliteref05_Choice.l0 k y0 y1 y2 y3 y4 y5) (kimberliteref05_Choice.l0 (k + 1) y0 y1 y2 y3 y4 y5)) ∧ (∀ y0 y1 y2 y3 y4 y5 y6, LeO (kimberliteref05_Choice.j1 k y0 y1 y2 y3 y4 y5 y6) (kimberliteref05_Choice.j1 (k + 1) y0 y1 y2 y3 y4 y5 y6))
 | 0 => ⟨fun _ _ _ _ _ _ r h => by simp [kimberliteref05_Choice.l0] at h, fun _ _ _ _ _ _ _ r h => by simp [kimberliteref05_Choice.j1] at h⟩
 | k + 1 => by
  obtain ⟨ih0, ih1⟩ := kimberliteref05_Choice.mono_l k
  refine ⟨?_, ?_⟩
  ·
   intro y0 y1 y2 y3 y4 y5
   unfold kimberliteref05_Choice.l0
   repeat' first
   | (with_reducible exact ih0 _ _ _ _ _ _)
   | (with_reducible exact ih1 _ _ _ _ _ _ _)
   | (with_reducible exact LeO.refl _)
   | (with_reducible exact LeO.none _)
   | (with_reducible refine LeO.ite ?_ ?_)
   | (with_reducible refine LeO.bind ?_ (fun _ => ?_))
   | exact ih0 _ _ _ _ _ _
   | exact ih1 _ _ _ _ _ _ _
   | exact LeO.none _
   | refine LeO.ite ?_ ?_
   | refine LeO.bind ?_ (fun _ => ?_)
  ·
   intro y0 y1 y2 y3 y4 y5 y6
   unfold kimberliteref05_Choice.j1
   repeat' first
   | (with_reducible exact ih0 _ _ _ _ _ _)
   | (with_reducible exact ih1 _ _ _ _ _ _ _)
   | (with_reducible exact LeO.refl _)
   | (with_reducible exact LeO.none _)
   | (with_reducible refine LeO.ite ?_ ?_)
   | (with_reducible refine LeO.bind ?_ (fun _ => ?_))
   | exact ih0 _ _ _ _ _ _
   | exact ih1 _ _ _ _ _ _ _
   | exact LeO.none _
   | refine LeO.ite ?_ ?_
   | refine LeO.bind ?_ (fun _ => ?_)
theorem kimberliteref05_Choice.mono : ∀ a0 a1 k, LeO (kimberliteref05_Choice.f k a0 a1) (kimberliteref05_Choice.f (k + 1) a0 a1) := by
 intro a0 a1 k
 obtain ⟨ih0, ih1⟩ := kimberliteref05_Choice.mono_l k
 unfold kimberliteref05_Choice.f
 repeat' first
   | (with_reducible exact ih0 _ _ _ _ _ _)
   | (with_reducible exact ih1 _ _ _ _ _ _ _)
   | (with_reducible exact LeO.refl _)
   | (with_reducible exact LeO.none _)
   | (with_reducible refine LeO.ite ?_ ?_)
   | (with_reducible refine LeO.bind ?_ (fun _ => ?_))
   | exact ih0 _ _ _ _ _ _
   | exact ih1 _ _ _ _ _ _ _
   | exact LeO.none _
   | refine LeO.ite ?_ ?_
   | refine LeO.bind ?_ (fun _ => ?_)
set_option maxHeartbeats 8000000 in
set_option maxRecDepth 100000 in
theorem kimberliteref05_Choice.calls (k : Nat) (A0 : Option Addr) (c0 : Nat) (l0 : List (S50)) (A1 : Option Addr) (c1 : Nat) (l1 : List Int) (r1 : Int) (r2 : Bool) (w : World) (hr0 : Kd.C k50 w A0 l0.length l0) (hc0 : l0.length ≤ c0) (hr1 : Kd.C (Kd.int .i64) w A1 l1.length l1) (hc1 : l1.length ≤ c1) (h : kimberliteref05_Choice.f k l0 l1 = some (r1, r2)) :
  Calls Try.prog 25 #[.slice A0 l0.length c0, .slice A1 l1.length c1] w fun e w' => e = .returned (.tuple #[.int .i64 r1, .bool r2]) ∧ Below w.heap.size w w' := by
 have hu50 := Try.underlying50
 have HR0 := Aside0.mk hr0
 have HC0 := Aside0.mk hc0
 clear hr0 hc0
 have HR1 := Aside0.mk hr1
 have HC1 := Aside0.mk hc1
 clear hr1 hc1
 have HB := Aside0.mk (Below.refl w.heap.size w)
 have H : (kimberliteref05_Choice.l0 k l0 l1 0 0 0 0) = some (r1, r2) := h
 clear h
 have H' := Aside0.mk H
 clear H
 go_enter Try.func25, Try.ntmps25
 go_wp2
 repeat (go_quiet (fail); try go_wp2)
 go_loopg [6, 7, 8, 9] k (fun kq v6 v7 v8 v9 w' => ∃ (x6_1 : Int) (x7_1 : Int) (x8_1 : Int) (x9_1 : Int), v6 = .int .i64 x6_1 ∧ v7 = .int .i64 x7_1 ∧ v8 = .int .i64 x8_1 ∧ v9 = .int .i64 x9_1 ∧ Aside0 (kimberliteref05_Choice.l0 kq l0 l1 x6_1 x7_1 x8_1 x9_1 = some (r1, r2)) ∧ Aside0 (kq ≤ k) ∧ Aside0 (Below w.heap.size w w'))
 case atStart => exact ⟨(0), (0), (0), (0), (by first | rfl | (simp; done) | (simp [*]; done)), (by first | rfl | (simp; done) | (simp [*]; done)), (by first | rfl | (simp; done) | (simp [*]; done)), (by first | rfl | (simp; done) | (simp [*]; done)), H', ⟨Nat.le_refl _⟩, ⟨by repeat (first | (with_reducible first | exact HB.out | apply Zba | apply Zbn | apply Zbd) | exact HB.out)⟩⟩
 case round =>
  clear H'
  try clear c1
  try clear c2
  try clear p2
  obtain ⟨x6_1, x7_1, x8_1, x9_1, rfl, rfl, rfl, rfl, HA, HK1, HB⟩ := hrel
  cases gk with
  | zero => exact absurd HA.out (by simp [kimberliteref05_Choice.l0])
  | succ k1 =>
   have H := HA.out
   clear HA
   simp only [kimberliteref05_Choice.l0] at H
   by_cases c3 : x9_1 < (l1.length : Int)
   ·
    rw [if_pos c3] at H
    have c3b0 : decide (x9_1 < (l1.length : Int)) = true := decide_eq_true c3
    clear c3
    have HC4 := Aside0.mk H
    clear H
    go_upto_region 5 with (fail)
    repeat (go_quiet (fail); go_upto_region 5 with (fail))
    go_cut [46] (fun v46 wc => ∃ (kq : Nat) (x46_3 : Bool), v46 = .bool x46_3 ∧ Aside0 (kimberliteref05_Choice.j1 kq l0 l1 x6_1 x7_1 x8_1 x9_1 x46_3 = some (r1, r2)) ∧ Aside0 (kq ≤ k1) ∧ Aside0 (Below w.heap.size w wc))
    case first =>
     have H := HC4.out
     clear HC4
     by_cases c5 : 0 ≤ x9_1
     ·
      rw [if_pos c5] at H
      have c5b0 : decide (0 ≤ x9_1) = true := decide_eq_true c5
      clear c5
      (first | rw [c5b0] | (simp only [i64_w, i32_w]; rw [c5b0]) | skip)
      by_cases c6 : (rd l1 x9_1) < 0
      ·
       rw [if_pos c6] at H
       have c6b0 : decide ((rd l1 x9_1) < 0) = true := decide_eq_true c6
       clear c6
       have H' := Aside0.mk H
       clear H
       have p161 : 0 ≤ (x9_1 : Int) := of_decide_eq_true (by first | (with_reducible assumption) | assumption)
       have q161 : x9_1 < (l1.length : Int) := of_decide_eq_true (by first | (with_reducible assumption) | assumption)
       obtain ⟨ad161, e161, hx161_0⟩ := Kd.at_int HR1.out x9_1 p161 q161
       cases e161
       replace hx161_0 := (HB.out.cell (World.block_lt_of_cell? w _ hx161_0)).trans hx161_0
       replace p161 := eq_true p161
       replace q161 := eq_true q161
       go_wp2
       repeat (go_quiet (fail); try go_wp2)
       go_meet
       case rel => exact ⟨_, (true), (by first | rfl | (simp; done) | (simp [*]; done)), H', ⟨by have := HK1.out; first | omega | exact Nat.le_refl _⟩, ⟨by repeat (first | (with_reducible first | exact HB.out | apply Zba | apply Zbn | apply Zbd) | exact HB.out)⟩⟩
      ·
       rw [if_neg c6] at H
       have c6b0 : decide ((rd l1 x9_1) < 0) = false := decide_eq_false c6
       clear c6
       by_cases c7 : (rd l1 x9_1) ≥ (l0.length : Int)
       ·
        rw [if_pos c7] at H
        have c7b0 : decide ((l0.length : Int) ≤ (rd l1 x9_1)) = true := decide_eq_true c7
        clear c7
        have H' := Aside0.mk H
        clear H
        have p161 : 0 ≤ (x9_1 : Int) := of_decide_eq_true (by first | (with_reducible assumption) | assumption)
        have q161 : x9_1 < (l1.length : Int) := of_decide_eq_true (by first | (with_reducible assumption) | assumption)
        obtain ⟨ad161, e161, hx161_0⟩ := Kd.at_int HR1.out x9_1 p161 q161
        cases e161
        replace hx161_0 := (HB.out.cell (World.block_lt_of_cell? w _ hx161_0)).trans hx161_0
        replace p161 := eq_true p161
        replace q161 := eq_true q161
        have p162 : 0 ≤ (x9_1 : Int) := of_decide_eq_true (by first | (with_reducible assumption) | assumption)
        have q162 : x9_1 < (l1.length : Int) := of_decide_eq_true (by first | (with_reducible assumption) | assumption)
        obtain ⟨ad162, e162, hx162_0⟩ := Kd.at_int HR1.out x9_1 p162 q162
        obtain rfl : ad161 = ad162 := (by injection e162)
        replace hx162_0 := (HB.out.cell (World.block_lt_of_cell? w _ hx162_0)).trans hx162_0
        replace p162 := eq_true p162
        replace q162 := eq_true q162
        go_wp2
        repeat (go_quiet (fail); try go_wp2)
        go_meet
        case rel => exact ⟨_, (true), (by first | rfl | (simp; done) | (simp [*]; done)), H', ⟨by have := HK1.out; first | omega | exact Nat.le_refl _⟩, ⟨by repeat (first | (with_reducible first | exact HB.out | apply Zba | apply Zbn | apply Zbd) | exact HB.out)⟩⟩
       ·
        rw [if_neg c7] at H
        have c7b0 : decide ((l0.length : Int) ≤ (rd l1 x9_1)) = false := decide_eq_false c7
        clear c7
        by_cases c8 : x9_1 > 0
        ·
         rw [if_pos c8] at H
         have c8b0 : decide (0 < x9_1) = true := decide_eq_true c8
         clear c8
         obtain ⟨ji9, hji9⟩ : ∃ j_ : Int, (wrap64 (x9_1 - 1)) = j_ := ⟨_, rfl⟩
         replace H : (if 0 ≤ (ji9) then (if (ji9) < (l1.length : Int) then (kimberliteref05_Choice.j1 k1 l0 l1 x6_1 x7_1 x8_1 x9_1 (decide ((rd l1 (ji9)) ≥ (rd l1 x9_1)))) else (none)) else (none)) = some (r1, r2) := by first | (rw [hji9] at H; exact H) | (simp only [hji9] at H ⊢; exact H)
         have hji9w : (IntKind.i64.wrap (x9_1 - 1)) = ji9 := (i64_w _).trans hji9
         by_cases c10 : 0 ≤ (ji9)
         ·
          rw [if_pos c10] at H
          have c10b0 : decide (0 ≤ (ji9)) = true := decide_eq_true c10
          clear c10
          by_cases c11 : (ji9) < (l1.length : Int)
          ·
           rw [if_pos c11] at H
           have c11b0 : decide ((ji9) < (l1.length : Int)) = true := decide_eq_true c11
           clear c11
           have H' := Aside0.mk H
           clear H
           have p161 : 0 ≤ (x9_1 : Int) := of_decide_eq_true (by first | (with_reducible assumption) | assumption)
           have q161 : x9_1 < (l1.length : Int) := of_decide_eq_true (by first | (with_reducible assumption) | assumption)
           obtain ⟨ad161, e161, hx161_0⟩ := Kd.at_int HR1.out x9_1 p161 q161
           cases e161
           replace hx161_0 := (HB.out.cell (World.block_lt_of_cell? w _ hx161_0)).trans hx161_0
           replace p161 := eq_true p161
           replace q161 := eq_true q161
           have p162 : 0 ≤ (x9_1 : Int) := of_decide_eq_true (by first | (with_reducible assumption) | assumption)
           have q162 : x9_1 < (l1.length : Int) := of_decide_eq_true (by first | (with_reducible assumption) | assumption)
           obtain ⟨ad162, e162, hx162_0⟩ := Kd.at_int HR1.out x9_1 p162 q162
           obtain rfl : ad161 = ad162 := (by injection e162)
           replace hx162_0 := (HB.out.cell (World.block_lt_of_cell? w _ hx162_0)).trans hx162_0
           replace p162 := eq_true p162
           replace q162 := eq_true q162
           have p163 : 0 ≤ ((ji9) : Int) := of_decide_eq_true (by first | (with_reducible assumption) | assumption)
           have q163 : (ji9) < (l1.length : Int) := of_decide_eq_true (by first | (with_reducible assumption) | assumption)
           obtain ⟨ad163, e163, hx163_0⟩ := Kd.at_int HR1.out (ji9) p163 q163
           obtain rfl : ad161 = ad163 := (by injection e163)
           replace hx163_0 := (HB.out.cell (World.block_lt_of_cell? w _ hx163_0)).trans hx163_0
           replace p163 := eq_true p163
           replace q163 := eq_true q163
           have p164 : 0 ≤ (x9_1 : Int) := of_decide_eq_true (by first | (with_reducible assumption) | assumption)
           have q164 : x9_1 < (l1.length : Int) := of_decide_eq_true (by first | (with_reducible assumption) | assumption)
           obtain ⟨ad164, e164, hx164_0⟩ := Kd.at_int HR1.out x9_1 p164 q164
           obtain rfl : ad161 = ad164 := (by injection e164)
           replace hx164_0 := (HB.out.cell (World.block_lt_of_cell? w _ hx164_0)).trans hx164_0
           replace p164 := eq_true p164
           replace q164 := eq_true q164
           go_wp2
           repeat (go_quiet (fail); try go_wp2)
           go_meet
           case rel => exact ⟨_, (decide ((rd l1 (ji9)) ≥ (rd l1 x9_1))), (by first | rfl | (simp; done) | (simp only [← hji9] <;> (first | rfl | simp)) | (simp [*]; done)), H', ⟨by have := HK1.out; first | omega | exact Nat.le_refl _⟩, ⟨by repeat (first | (with_reducible first | exact HB.out | apply Zba | apply Zbn | apply Zbd) | exact HB.out)⟩⟩
          ·
           rw [if_neg c11] at H
           exact absurd H (by simp)
         ·
          rw [if_neg c10] at H
          exact absurd H (by simp)
        ·
         rw [if_neg c8] at H
         have c8b0 : decide (0 < x9_1) = false := decide_eq_false c8
         clear c8
         have H' := Aside0.mk H
         clear H
         have p161 : 0 ≤ (x9_1 : Int) := of_decide_eq_true (by first | (with_reducible assumption) | assumption)
         have q161 : x9_1 < (l1.length : Int) := of_decide_eq_true (by first | (with_reducible assumption) | assumption)
         obtain ⟨ad161, e161, hx161_0⟩ := Kd.at_int HR1.out x9_1 p161 q161
         cases e161
         replace hx161_0 := (HB.out.cell (World.block_lt_of_cell? w _ hx161_0)).trans hx161_0
         replace p161 := eq_true p161
         replace q161 := eq_true q161
         have p162 : 0 ≤ (x9_1 : Int) := of_decide_eq_true (by first | (with_reducible assumption) | assumption)
         have q162 : x9_1 < (l1.length : Int) := of_decide_eq_true (by first | (with_reducible assumption) | assumption)
         obtain ⟨ad162, e162, hx162_0⟩ := Kd.at_int HR1.out x9_1 p162 q162
         obtain rfl : ad161 = ad162 := (by injection e162)
         replace hx162_0 := (HB.out.cell (World.block_lt_of_cell? w _ hx162_0)).trans hx162_0
         replace p162 := eq_true p162
         replace q162 := eq_true q162
         go_wp2
         repeat (go_quiet (fail); try go_wp2)
         go_meet
         case rel => exact ⟨_, (false), (by first | rfl | (simp; done) | (simp [*]; done)), H', ⟨by have := HK1.out; first | omega | exact Nat.le_refl _⟩, ⟨by repeat (first | (with_reducible first | exact HB.out | apply Zba | apply Zbn | apply Zbd) | exact HB.out)⟩⟩
     ·
      rw [if_neg c5] at H
      exact absurd H (by simp)
    case rest =>
     clear HC4
     try clear c1
     try clear p1
     try clear q1
     try clear hx1
     try clear c2
     try clear p2
     try clear c3
     try clear c3b0
     try clear c5
     try clear c5b0
     try clear c6
     try clear c6b0
     try clear p6
     try clear c7
     try clear c7b0
     try clear c8
     try clear c8b0
     try clear c10
     try clear c10b0
     try clear c11
     try clear c11b0
     try clear hx161_0
     try clear hx162_0
     try clear hx163_0
     try clear hx164_0
     try clear p161
     try clear p162
     try clear p163
     try clear p164
     try clear p2
     try clear q161
     try clear q162
     try clear q163
     try clear q164
     obtain ⟨kq, x46_3, rfl, HA, HJ3, HB⟩ := hcut
     cases kq with
     | zero => exact absurd HA.out (by simp [kimberliteref05_Choice.j1])
     | succ kj3 =>
      have H := HA.out
      clear HA
      simp only [kimberliteref05_Choice.j1] at H
      by_cases c12 : x46_3 = true
      ·
       subst c12
       have H1 : (some (0, false)) = some (r1, r2) := by rw [if_pos rfl] at H; exact H
       clear H
       have H := H1
       clear H1
       simp only [Option.some.injEq, Prod.mk.injEq] at H
       obtain ⟨rfl, rfl⟩ := H
       go_wp2
       repeat (go_quiet (fail); try go_wp2)
       go_ret2
       exact ⟨by first | rfl | (simp [errW_none, errW_some] <;> rfl) | (simp [*, errW_none, errW_some] <;> rfl), by repeat (first | (with_reducible first | exact HB.out | apply Zba | apply Zbn | apply Zbd) | exact HB.out)⟩
      ·
       replace c12 := Bool.eq_false_iff.mpr c12
       subst c12
       have H1 : (if 0 ≤ x9_1 then (if x9_1 < (l1.length : Int) then (if 0 ≤ (rd l1 x9_1) then (if (rd l1 x9_1) < (l0.length : Int) then (if (Go.bits .and .i64 x7_1 ((rd_T50 l0 (rd l1 x9_1)).f1)) = 0 then (if 0 ≤ ((rd_T50 l0 (rd l1 x9_1)).f0) then (if (Int.tmod (shr .i64 x8_1 ((rd_T50 l0 (rd l1 x9_1)).f0)) 2) = 1 then (some (0, false)) else (kimberliteref05_Choice.l0 kj3 l0 l1 (wrap64 (x6_1 + ((rd_T50 l0 (rd l1 x9_1)).f2))) (Go.bits .or .i64 x7_1 ((rd_T50 l0 (rd l1 x9_1)).f1)) (Go.bits .or .i64 x8_1 (shl .i64 1 ((rd_T50 l0 (rd l1 x9_1)).f0))) (wrap64 (x9_1 + 1)))) else (none)) else (some (0, false))) else (none)) else (none)) else (none)) else (none)) = some (r1, r2) := by rw [if_neg (show ¬ (false = true) by decide)] at H; exact H
       clear H
       have H := H1
       clear H1
       by_cases c13 : 0 ≤ x9_1
       ·
        rw [if_pos c13] at H
        have c13b0 : decide (0 ≤ x9_1) = true := decide_eq_true c13
        clear c13
        by_cases c14 : x9_1 < (l1.length : Int)
        ·
         rw [if_pos c14] at H
         have c14b0 : decide (x9_1 < (l1.length : Int)) = true := decide_eq_true c14
         clear c14
         by_cases c15 : 0 ≤ (rd l1 x9_1)
         ·
          rw [if_pos c15] at H
          have c15b0 : decide (0 ≤ (rd l1 x9_1)) = true := decide_eq_true c15
          clear c15
          by_cases c16 : (rd l1 x9_1) < (l0.length : Int)
          ·
           rw [if_pos c16] at H
           have c16b0 : decide ((rd l1 x9_1) < (l0.length : Int)) = true := decide_eq_true c16
           clear c16
           by_cases c17 : (Go.bits .and .i64 x7_1 ((rd_T50 l0 (rd l1 x9_1)).f1)) = 0
           ·
            rw [if_pos c17] at H
            have c17b0 : ((Go.bits .and .i64 x7_1 ((rd_T50 l0 (rd l1 x9_1)).f1)) == 0) = true := beq_iff_eq.mpr c17
            have c17b1 : ((Go.bits .and .i64 x7_1 ((rd_T50 l0 (rd l1 x9_1)).f1)) != 0) = false := bne_eq_false_iff_eq.mpr c17
            clear c17
            by_cases c18 : 0 ≤ ((rd_T50 l0 (rd l1 x9_1)).f0)
            ·
             rw [if_pos c18] at H
             have c18b0 := eq_true c18
             have c18b1 : decide (0 ≤ ((rd_T50 l0 (rd l1 x9_1)).f0)) = true := decide_eq_true c18
             clear c18
             obtain ⟨ji19, hji19⟩ : ∃ j_ : Int, (shr .i64 x8_1 ((rd_T50 l0 (rd l1 x9_1)).f0)) = j_ := ⟨_, rfl⟩
             replace H : (if (Int.tmod (ji19) 2) = 1 then (some (0, false)) else (kimberliteref05_Choice.l0 kj3 l0 l1 (wrap64 (x6_1 + ((rd_T50 l0 (rd l1 x9_1)).f2))) (Go.bits .or .i64 x7_1 ((rd_T50 l0 (rd l1 x9_1)).f1)) (Go.bits .or .i64 x8_1 (shl .i64 1 ((rd_T50 l0 (rd l1 x9_1)).f0))) (wrap64 (x9_1 + 1)))) = some (r1, r2) := by first | (rw [hji19] at H; exact H) | (simp only [hji19] at H ⊢; exact H)
             have hji19_ : (x8_1 / 2 ^ min ((rd_T50 l0 (rd l1 x9_1)).f0).toNat 64) = ji19 := hji19
             have hji19z : ((rd_T50 l0 (rd l1 x9_1)).f0) ≤ 64 → (x8_1 / 2 ^ ((rd_T50 l0 (rd l1 x9_1)).f0).toNat) = ji19 := shr_small hji19
             by_cases c20 : (Int.tmod (ji19) 2) = 1
             ·
              rw [if_pos c20] at H
              have c20b0 : ((Int.tmod (ji19) 2) == 1) = true := beq_iff_eq.mpr c20
              have c20b1 : ((Int.tmod (ji19) 2) != 1) = false := bne_eq_false_iff_eq.mpr c20
              clear c20
              simp only [Option.some.injEq, Prod.mk.injEq] at H
              obtain ⟨rfl, rfl⟩ := H
              have p165 : 0 ≤ (x9_1 : Int) := of_decide_eq_true (by first | (with_reducible assumption) | assumption)
              have q165 : x9_1 < (l1.length : Int) := of_decide_eq_true (by first | (with_reducible assumption) | assumption)
              obtain ⟨ad165, e165, hx165_0⟩ := Kd.at_int HR1.out x9_1 p165 q165
              cases e165
              replace hx165_0 := (HB.out.cell (World.block_lt_of_cell? w _ hx165_0)).trans hx165_0
              replace p165 := eq_true p165
              replace q165 := eq_true q165
              have p166 : 0 ≤ ((rd l1 x9_1) : Int) := of_decide_eq_true (by first | (with_reducible assumption) | assumption)
              have q166 : (rd l1 x9_1) < (l0.length : Int) := of_decide_eq_true (by first | (with_reducible assumption) | assumption)
              obtain ⟨ad166, e166, hx166_0, hx166_1, hx166_2⟩ := at_T50 HR0.out (rd l1 x9_1) p166 q166
              cases e166
              replace hx166_0 := (HB.out.cell (World.block_lt_of_cell? w _ hx166_0)).trans hx166_0
              replace hx166_1 := (HB.out.cell (World.block_lt_of_cell? w _ hx166_1)).trans hx166_1
              replace hx166_2 := (HB.out.cell (World.block_lt_of_cell? w _ hx166_2)).trans hx166_2
              replace p166 := eq_true p166
              replace q166 := eq_true q166
              go_wp2_with (first | ((with_reducible refine gate_dst (N := 10) rfl ?_); (try (refine gate_guard (by rfl) ?_; dsimp only)); refine box_event ?hg (N := 10) ?hd (cs := #[.int .i64 0, .int .i64 0, .int .i64 0]) (t := 50) ?hr ?_; (case hd => rfl); (case hg => rfl); (case hr => first | (go_simp; done) | (go_simp; rfl)); intro gb167 hg w21 hbox hb; have n0_ := Aside0.mk (below_step (by repeat (first | (with_reducible first | exact HB.out | apply Zba | apply Zbn | apply Zbd) | exact HB.out)) hb); have n1_ := Aside0.mk (hbox); have n2_ := Aside0.mk ((by rw [hg]; exact (below_size (by repeat (first | (with_reducible first | exact HB.out | apply Zba | apply Zbn | apply Zbd) | exact HB.out))) : w.heap.size ≤ gb167)); have n3_ := Aside0.mk ((by rw [hg]; exact (below_size (by repeat (first | (with_reducible first | exact HB.out | apply Zba | apply Zbn | apply Zbd) | exact HB.out))) : w.heap.size ≤ gb167)); clear HB; have HB := n0_; have BK167 := n1_; have GW167 := n2_; have GE167 := n3_; clear n0_ n1_ n2_ n3_; clear hb hbox hg; have hcz22_0 : w21.cell? ⟨gb167, 0, none⟩ = some (.int .i64 0) := (blk_cell BK167.out 0).trans rfl; have hcz22_1 : w21.cell? ⟨gb167, 1, none⟩ = some (.int .i64 0) := (blk_cell BK167.out 1).trans rfl; have hcz22_2 : w21.cell? ⟨gb167, 2, none⟩ = some (.int .i64 0) := (blk_cell BK167.out 2).trans rfl; have hfz22_0 := blk_frozen BK167.out 0; have hfz22_1 := blk_frozen BK167.out 1; have hfz22_2 := blk_frozen BK167.out 2))
              repeat (go_quiet (first | ((with_reducible refine gate_dst (N := 10) rfl ?_); (try (refine gate_guard (by rfl) ?_; dsimp only)); refine box_event ?hg (N := 10) ?hd (cs := #[.int .i64 0, .int .i64 0, .int .i64 0]) (t := 50) ?hr ?_; (case hd => rfl); (case hg => rfl); (case hr => first | (go_simp; done) | (go_simp; rfl)); intro gb167 hg w21 hbox hb; have n0_ := Aside0.mk (below_step (by repeat (first | (with_reducible first | exact HB.out | apply Zba | apply Zbn | apply Zbd) | exact HB.out)) hb); have n1_ := Aside0.mk (hbox); have n2_ := Aside0.mk ((by rw [hg]; exact (below_size (by repeat (first | (with_reducible first | exact HB.out | apply Zba | apply Zbn | apply Zbd) | exact HB.out))) : w.heap.size ≤ gb167)); have n3_ := Aside0.mk ((by rw [hg]; exact (below_size (by repeat (first | (with_reducible first | exact HB.out | apply Zba | apply Zbn | apply Zbd) | exact HB.out))) : w.heap.size ≤ gb167)); clear HB; have HB := n0_; have BK167 := n1_; have GW167 := n2_; have GE167 := n3_; clear n0_ n1_ n2_ n3_; clear hb hbox hg; have hcz22_0 : w21.cell? ⟨gb167, 0, none⟩ = some (.int .i64 0) := (blk_cell BK167.out 0).trans rfl; have hcz22_1 : w21.cell? ⟨gb167, 1, none⟩ = some (.int .i64 0) := (blk_cell BK167.out 1).trans rfl; have hcz22_2 : w21.cell? ⟨gb167, 2, none⟩ = some (.int .i64 0) := (blk_cell BK167.out 2).trans rfl; have hfz22_0 := blk_frozen BK167.out 0; have hfz22_1 := blk_frozen BK167.out 1; have hfz22_2 := blk_frozen BK167.out 2)); try go_wp2_with (first | ((with_reducible refine gate_dst (N := 10) rfl ?_); (try (refine gate_guard (by rfl) ?_; dsimp only)); refine box_event ?hg (N := 10) ?hd (cs := #[.int .i64 0, .int .i64 0, .int .i64 0]) (t := 50) ?hr ?_; (case hd => rfl); (case hg => rfl); (case hr => first | (go_simp; done) | (go_simp; rfl)); intro gb167 hg w21 hbox hb; have n0_ := Aside0.mk (below_step (by repeat (first | (with_reducible first | exact HB.out | apply Zba | apply Zbn | apply Zbd) | exact HB.out)) hb); have n1_ := Aside0.mk (hbox); have n2_ := Aside0.mk ((by rw [hg]; exact (below_size (by repeat (first | (with_reducible first | exact HB.out | apply Zba | apply Zbn | apply Zbd) | exact HB.out))) : w.heap.size ≤ gb167)); have n3_ := Aside0.mk ((by rw [hg]; exact (below_size (by repeat (first | (with_reducible first | exact HB.out | apply Zba | apply Zbn | apply Zbd) | exact HB.out))) : w.heap.size ≤ gb167)); clear HB; have HB := n0_; have BK167 := n1_; have GW167 := n2_; have GE167 := n3_; clear n0_ n1_ n2_ n3_; clear hb hbox hg; have hcz22_0 : w21.cell? ⟨gb167, 0, none⟩ = some (.int .i64 0) := (blk_cell BK167.out 0).trans rfl; have hcz22_1 : w21.cell? ⟨gb167, 1, none⟩ = some (.int .i64 0) := (blk_cell BK167.out 1).trans rfl; have hcz22_2 : w21.cell? ⟨gb167, 2, none⟩ = some (.int .i64 0) := (blk_cell BK167.out 2).trans rfl; have hfz22_0 := blk_frozen BK167.out 0; have hfz22_1 := blk_frozen BK167.out 1; have hfz22_2 := blk_frozen BK167.out 2)))
              go_ret2
              exact ⟨by first | rfl | (simp [errW_none, errW_some] <;> rfl) | (simp only [← hji19]; first | rfl | (simp [errW_none, errW_some] <;> rfl)) | (simp [*, errW_none, errW_some] <;> rfl), by repeat (first | (with_reducible first | exact HB.out | apply Zba | apply Zbn | apply Zbd | refine below_set ?_ GE167.out) | exact HB.out)⟩
             ·
              rw [if_neg c20] at H
              have c20b0 : ((Int.tmod (ji19) 2) == 1) = false := beq_eq_false_iff_ne.mpr c20
              have c20b1 : ((Int.tmod (ji19) 2) != 1) = true := bne_iff_ne.mpr c20
              have c23b0 := eq_true (of_decide_eq_true (by first | (with_reducible assumption) | assumption) : 0 ≤ ((rd_T50 l0 (rd l1 x9_1)).f0))
              obtain ⟨ji24, hji24⟩ : ∃ j_ : Int, (shl .i64 1 ((rd_T50 l0 (rd l1 x9_1)).f0)) = j_ := ⟨_, rfl⟩
              replace H : (kimberliteref05_Choice.l0 kj3 l0 l1 (wrap64 (x6_1 + ((rd_T50 l0 (rd l1 x9_1)).f2))) (Go.bits .or .i64 x7_1 ((rd_T50 l0 (rd l1 x9_1)).f1)) (Go.bits .or .i64 x8_1 (ji24)) (wrap64 (x9_1 + 1))) = some (r1, r2) := by first | (rw [hji24] at H; exact H) | (simp only [hji24] at H ⊢; exact H)
              have hji24_ : (IntKind.i64.wrap (1 * 2 ^ min ((rd_T50 l0 (rd l1 x9_1)).f0).toNat 64)) = ji24 := hji24
              have hji24z : ((rd_T50 l0 (rd l1 x9_1)).f0) ≤ 64 → (IntKind.i64.wrap (1 * 2 ^ ((rd_T50 l0 (rd l1 x9_1)).f0).toNat)) = ji24 := shl_small hji24
              have hji24u : (IntKind.i64.wrap (2 ^ min ((rd_T50 l0 (rd l1 x9_1)).f0).toNat 64)) = ji24 := by have h_ := hji24_; rw [Int.one_mul] at h_; exact h_
              have hji24v : ((rd_T50 l0 (rd l1 x9_1)).f0) ≤ 64 → (IntKind.i64.wrap (2 ^ ((rd_T50 l0 (rd l1 x9_1)).f0).toNat)) = ji24 := fun hle_ => by have h_ := hji24z hle_; rw [Int.one_mul] at h_; exact h_
              have hji24y : (wrap64 (1 * 2 ^ min ((rd_T50 l0 (rd l1 x9_1)).f0).toNat 64)) = ji24 := (i64_w _).symm.trans hji24_
              have hji24x : ((rd_T50 l0 (rd l1 x9_1)).f0) ≤ 64 → (wrap64 (1 * 2 ^ ((rd_T50 l0 (rd l1 x9_1)).f0).toNat)) = ji24 := fun h_ => (i64_w _).symm.trans (hji24z h_)
              have H' := Aside0.mk H
              clear H
              have p165 : 0 ≤ (x9_1 : Int) := of_decide_eq_true (by first | (with_reducible assumption) | assumption)
              have q165 : x9_1 < (l1.length : Int) := of_decide_eq_true (by first | (with_reducible assumption) | assumption)
              obtain ⟨ad165, e165, hx165_0⟩ := Kd.at_int HR1.out x9_1 p165 q165
              cases e165
              replace hx165_0 := (HB.out.cell (World.block_lt_of_cell? w _ hx165_0)).trans hx165_0
              replace p165 := eq_true p165
              replace q165 := eq_true q165
              have p166 : 0 ≤ ((rd l1 x9_1) : Int) := of_decide_eq_true (by first | (with_reducible assumption) | assumption)
              have q166 : (rd l1 x9_1) < (l0.length : Int) := of_decide_eq_true (by first | (with_reducible assumption) | assumption)
              obtain ⟨ad166, e166, hx166_0, hx166_1, hx166_2⟩ := at_T50 HR0.out (rd l1 x9_1) p166 q166
              cases e166
              replace hx166_0 := (HB.out.cell (World.block_lt_of_cell? w _ hx166_0)).trans hx166_0
              replace hx166_1 := (HB.out.cell (World.block_lt_of_cell? w _ hx166_1)).trans hx166_1
              replace hx166_2 := (HB.out.cell (World.block_lt_of_cell? w _ hx166_2)).trans hx166_2
              replace p166 := eq_true p166
              replace q166 := eq_true q166
              go_wp2_with (first | ((with_reducible refine gate_dst (N := 10) rfl ?_); (try (refine gate_guard (by rfl) ?_; dsimp only)); refine box_event ?hg (N := 10) ?hd (cs := #[.int .i64 0, .int .i64 0, .int .i64 0]) (t := 50) ?hr ?_; (case hd => rfl); (case hg => rfl); (case hr => first | (go_simp; done) | (go_simp; rfl)); intro gb167 hg w25 hbox hb; have n0_ := Aside0.mk (below_step (by repeat (first | (with_reducible first | exact HB.out | apply Zba | apply Zbn | apply Zbd) | exact HB.out)) hb); have n1_ := Aside0.mk (hbox); have n2_ := Aside0.mk ((by rw [hg]; exact (below_size (by repeat (first | (with_reducible first | exact HB.out | apply Zba | apply Zbn | apply Zbd) | exact HB.out))) : w.heap.size ≤ gb167)); have n3_ := Aside0.mk ((by rw [hg]; exact (below_size (by repeat (first | (with_reducible first | exact HB.out | apply Zba | apply Zbn | apply Zbd) | exact HB.out))) : w.heap.size ≤ gb167)); clear HB; have HB := n0_; have BK167 := n1_; have GW167 := n2_; have GE167 := n3_; clear n0_ n1_ n2_ n3_; clear hb hbox hg; have hcz26_0 : w25.cell? ⟨gb167, 0, none⟩ = some (.int .i64 0) := (blk_cell BK167.out 0).trans rfl; have hcz26_1 : w25.cell? ⟨gb167, 1, none⟩ = some (.int .i64 0) := (blk_cell BK167.out 1).trans rfl; have hcz26_2 : w25.cell? ⟨gb167, 2, none⟩ = some (.int .i64 0) := (blk_cell BK167.out 2).trans rfl; have hfz26_0 := blk_frozen BK167.out 0; have hfz26_1 := blk_frozen BK167.out 1; have hfz26_2 := blk_frozen BK167.out 2))
              repeat (go_quiet (first | ((with_reducible refine gate_dst (N := 10) rfl ?_); (try (refine gate_guard (by rfl) ?_; dsimp only)); refine box_event ?hg (N := 10) ?hd (cs := #[.int .i64 0, .int .i64 0, .int .i64 0]) (t := 50) ?hr ?_; (case hd => rfl); (case hg => rfl); (case hr => first | (go_simp; done) | (go_simp; rfl)); intro gb167 hg w25 hbox hb; have n0_ := Aside0.mk (below_step (by repeat (first | (with_reducible first | exact HB.out | apply Zba | apply Zbn | apply Zbd) | exact HB.out)) hb); have n1_ := Aside0.mk (hbox); have n2_ := Aside0.mk ((by rw [hg]; exact (below_size (by repeat (first | (with_reducible first | exact HB.out | apply Zba | apply Zbn | apply Zbd) | exact HB.out))) : w.heap.size ≤ gb167)); have n3_ := Aside0.mk ((by rw [hg]; exact (below_size (by repeat (first | (with_reducible first | exact HB.out | apply Zba | apply Zbn | apply Zbd) | exact HB.out))) : w.heap.size ≤ gb167)); clear HB; have HB := n0_; have BK167 := n1_; have GW167 := n2_; have GE167 := n3_; clear n0_ n1_ n2_ n3_; clear hb hbox hg; have hcz26_0 : w25.cell? ⟨gb167, 0, none⟩ = some (.int .i64 0) := (blk_cell BK167.out 0).trans rfl; have hcz26_1 : w25.cell? ⟨gb167, 1, none⟩ = some (.int .i64 0) := (blk_cell BK167.out 1).trans rfl; have hcz26_2 : w25.cell? ⟨gb167, 2, none⟩ = some (.int .i64 0) := (blk_cell BK167.out 2).trans rfl; have hfz26_0 := blk_frozen BK167.out 0; have hfz26_1 := blk_frozen BK167.out 1; have hfz26_2 := blk_frozen BK167.out 2)); try go_wp2_with (first | ((with_reducible refine gate_dst (N := 10) rfl ?_); (try (refine gate_guard (by rfl) ?_; dsimp only)); refine box_event ?hg (N := 10) ?hd (cs := #[.int .i64 0, .int .i64 0, .int .i64 0]) (t := 50) ?hr ?_; (case hd => rfl); (case hg => rfl); (case hr => first | (go_simp; done) | (go_simp; rfl)); intro gb167 hg w25 hbox hb; have n0_ := Aside0.mk (below_step (by repeat (first | (with_reducible first | exact HB.out | apply Zba | apply Zbn | apply Zbd) | exact HB.out)) hb); have n1_ := Aside0.mk (hbox); have n2_ := Aside0.mk ((by rw [hg]; exact (below_size (by repeat (first | (with_reducible first | exact HB.out | apply Zba | apply Zbn | apply Zbd) | exact HB.out))) : w.heap.size ≤ gb167)); have n3_ := Aside0.mk ((by rw [hg]; exact (below_size (by repeat (first | (with_reducible first | exact HB.out | apply Zba | apply Zbn | apply Zbd) | exact HB.out))) : w.heap.size ≤ gb167)); clear HB; have HB := n0_; have BK167 := n1_; have GW167 := n2_; have GE167 := n3_; clear n0_ n1_ n2_ n3_; clear hb hbox hg; have hcz26_0 : w25.cell? ⟨gb167, 0, none⟩ = some (.int .i64 0) := (blk_cell BK167.out 0).trans rfl; have hcz26_1 : w25.cell? ⟨gb167, 1, none⟩ = some (.int .i64 0) := (blk_cell BK167.out 1).trans rfl; have hcz26_2 : w25.cell? ⟨gb167, 2, none⟩ = some (.int .i64 0) := (blk_cell BK167.out 2).trans rfl; have hfz26_0 := blk_frozen BK167.out 0; have hfz26_1 := blk_frozen BK167.out 1; have hfz26_2 := blk_frozen BK167.out 2)))
              go_roundg kj3
              case measure => have := HK1.out; have := HJ3.out; omega
              case rel => exact ⟨(wrap64 (x6_1 + ((rd_T50 l0 (rd l1 x9_1)).f2))), (Go.bits .or .i64 x7_1 ((rd_T50 l0 (rd l1 x9_1)).f1)), (Go.bits .or .i64 x8_1 (ji24)), (wrap64 (x9_1 + 1)), (by first | rfl | (simp; done) | (simp [*]; done)), (by first | rfl | (simp; done) | (simp [*]; done)), (by first | rfl | (simp; done) | (simp only [← hji24] <;> (first | rfl | simp)) | (simp [*]; done)), (by first | rfl | (simp; done) | (simp [*]; done)), H', ⟨by have := HK1.out; have := HJ3.out; omega⟩, ⟨by repeat (first | (with_reducible first | exact HB.out | apply Zba | apply Zbn | apply Zbd | refine below_set ?_ GE167.out) | exact HB.out)⟩⟩
            ·
             rw [if_neg c18] at H
             exact absurd H (by simp)
           ·
            rw [if_neg c17] at H
            have c17b0 : ((Go.bits .and .i64 x7_1 ((rd_T50 l0 (rd l1 x9_1)).f1)) == 0) = false := beq_eq_false_iff_ne.mpr c17
            have c17b1 : ((Go.bits .and .i64 x7_1 ((rd_T50 l0 (rd l1 x9_1)).f1)) != 0) = true := bne_iff_ne.mpr c17
            simp only [Option.some.injEq, Prod.mk.injEq] at H
            obtain ⟨rfl, rfl⟩ := H
            have p165 : 0 ≤ (x9_1 : Int) := of_decide_eq_true (by first | (with_reducible assumption) | assumption)
            have q165 : x9_1 < (l1.length : Int) := of_decide_eq_true (by first | (with_reducible assumption) | assumption)
            obtain ⟨ad165, e165, hx165_0⟩ := Kd.at_int HR1.out x9_1 p165 q165
            cases e165
            replace hx165_0 := (HB.out.cell (World.block_lt_of_cell? w _ hx165_0)).trans hx165_0
            replace p165 := eq_true p165
            replace q165 := eq_true q165
            have p166 : 0 ≤ ((rd l1 x9_1) : Int) := of_decide_eq_true (by first | (with_reducible assumption) | assumption)
            have q166 : (rd l1 x9_1) < (l0.length : Int) := of_decide_eq_true (by first | (with_reducible assumption) | assumption)
            obtain ⟨ad166, e166, hx166_0, hx166_1, hx166_2⟩ := at_T50 HR0.out (rd l1 x9_1) p166 q166
            cases e166
            replace hx166_0 := (HB.out.cell (World.block_lt_of_cell? w _ hx166_0)).trans hx166_0
            replace hx166_1 := (HB.out.cell (World.block_lt_of_cell? w _ hx166_1)).trans hx166_1
            replace hx166_2 := (HB.out.cell (World.block_lt_of_cell? w _ hx166_2)).trans hx166_2
            replace p166 := eq_true p166
            replace q166 := eq_true q166
            go_wp2_with (first | ((with_reducible refine gate_dst (N := 10) rfl ?_); (try (refine gate_guard (by rfl) ?_; dsimp only)); refine box_event ?hg (N := 10) ?hd (cs := #[.int .i64 0, .int .i64 0, .int .i64 0]) (t := 50) ?hr ?_; (case hd => rfl); (case hg => rfl); (case hr => first | (go_simp; done) | (go_simp; rfl)); intro gb167 hg w27 hbox hb; have n0_ := Aside0.mk (below_step (by repeat (first | (with_reducible first | exact HB.out | apply Zba | apply Zbn | apply Zbd) | exact HB.out)) hb); have n1_ := Aside0.mk (hbox); have n2_ := Aside0.mk ((by rw [hg]; exact (below_size (by repeat (first | (with_reducible first | exact HB.out | apply Zba | apply Zbn | apply Zbd) | exact HB.out))) : w.heap.size ≤ gb167)); have n3_ := Aside0.mk ((by rw [hg]; exact (below_size (by repeat (first | (with_reducible first | exact HB.out | apply Zba | apply Zbn | apply Zbd) | exact HB.out))) : w.heap.size ≤ gb167)); clear HB; have HB := n0_; have BK167 := n1_; have GW167 := n2_; have GE167 := n3_; clear n0_ n1_ n2_ n3_; clear hb hbox hg; have hcz28_0 : w27.cell? ⟨gb167, 0, none⟩ = some (.int .i64 0) := (blk_cell BK167.out 0).trans rfl; have hcz28_1 : w27.cell? ⟨gb167, 1, none⟩ = some (.int .i64 0) := (blk_cell BK167.out 1).trans rfl; have hcz28_2 : w27.cell? ⟨gb167, 2, none⟩ = some (.int .i64 0) := (blk_cell BK167.out 2).trans rfl; have hfz28_0 := blk_frozen BK167.out 0; have hfz28_1 := blk_frozen BK167.out 1; have hfz28_2 := blk_frozen BK167.out 2))
            repeat (go_quiet (first | ((with_reducible refine gate_dst (N := 10) rfl ?_); (try (refine gate_guard (by rfl) ?_; dsimp only)); refine box_event ?hg (N := 10) ?hd (cs := #[.int .i64 0, .int .i64 0, .int .i64 0]) (t := 50) ?hr ?_; (case hd => rfl); (case hg => rfl); (case hr => first | (go_simp; done) | (go_simp; rfl)); intro gb167 hg w27 hbox hb; have n0_ := Aside0.mk (below_step (by repeat (first | (with_reducible first | exact HB.out | apply Zba | apply Zbn | apply Zbd) | exact HB.out)) hb); have n1_ := Aside0.mk (hbox); have n2_ := Aside0.mk ((by rw [hg]; exact (below_size (by repeat (first | (with_reducible first | exact HB.out | apply Zba | apply Zbn | apply Zbd) | exact HB.out))) : w.heap.size ≤ gb167)); have n3_ := Aside0.mk ((by rw [hg]; exact (below_size (by repeat (first | (with_reducible first | exact HB.out | apply Zba | apply Zbn | apply Zbd) | exact HB.out))) : w.heap.size ≤ gb167)); clear HB; have HB := n0_; have BK167 := n1_; have GW167 := n2_; have GE167 := n3_; clear n0_ n1_ n2_ n3_; clear hb hbox hg; have hcz28_0 : w27.cell? ⟨gb167, 0, none⟩ = some (.int .i64 0) := (blk_cell BK167.out 0).trans rfl; have hcz28_1 : w27.cell? ⟨gb167, 1, none⟩ = some (.int .i64 0) := (blk_cell BK167.out 1).trans rfl; have hcz28_2 : w27.cell? ⟨gb167, 2, none⟩ = some (.int .i64 0) := (blk_cell BK167.out 2).trans rfl; have hfz28_0 := blk_frozen BK167.out 0; have hfz28_1 := blk_frozen BK167.out 1; have hfz28_2 := blk_frozen BK167.out 2)); try go_wp2_with (first | ((with_reducible refine gate_dst (N := 10) rfl ?_); (try (refine gate_guard (by rfl) ?_; dsimp only)); refine box_event ?hg (N := 10) ?hd (cs := #[.int .i64 0, .int .i64 0, .int .i64 0]) (t := 50) ?hr ?_; (case hd => rfl); (case hg => rfl); (case hr => first | (go_simp; done) | (go_simp; rfl)); intro gb167 hg w27 hbox hb; have n0_ := Aside0.mk (below_step (by repeat (first | (with_reducible first | exact HB.out | apply Zba | apply Zbn | apply Zbd) | exact HB.out)) hb); have n1_ := Aside0.mk (hbox); have n2_ := Aside0.mk ((by rw [hg]; exact (below_size (by repeat (first | (with_reducible first | exact HB.out | apply Zba | apply Zbn | apply Zbd) | exact HB.out))) : w.heap.size ≤ gb167)); have n3_ := Aside0.mk ((by rw [hg]; exact (below_size (by repeat (first | (with_reducible first | exact HB.out | apply Zba | apply Zbn | apply Zbd) | exact HB.out))) : w.heap.size ≤ gb167)); clear HB; have HB := n0_; have BK167 := n1_; have GW167 := n2_; have GE167 := n3_; clear n0_ n1_ n2_ n3_; clear hb hbox hg; have hcz28_0 : w27.cell? ⟨gb167, 0, none⟩ = some (.int .i64 0) := (blk_cell BK167.out 0).trans rfl; have hcz28_1 : w27.cell? ⟨gb167, 1, none⟩ = some (.int .i64 0) := (blk_cell BK167.out 1).trans rfl; have hcz28_2 : w27.cell? ⟨gb167, 2, none⟩ = some (.int .i64 0) := (blk_cell BK167.out 2).trans rfl; have hfz28_0 := blk_frozen BK167.out 0; have hfz28_1 := blk_frozen BK167.out 1; have hfz28_2 := blk_frozen BK167.out 2)))
            go_ret2
            exact ⟨by first | rfl | (simp [errW_none, errW_some] <;> rfl) | (simp [*, errW_none, errW_some] <;> rfl), by repeat (first | (with_reducible first | exact HB.out | apply Zba | apply Zbn | apply Zbd | refine below_set ?_ GE167.out) | exact HB.out)⟩
          ·
           rw [if_neg c16] at H
           exact absurd H (by simp)
         ·
          rw [if_neg c15] at H
          exact absurd H (by simp)
        ·
         rw [if_neg c14] at H
         exact absurd H (by simp)
       ·
        rw [if_neg c13] at H
        exact absurd H (by simp)
   ·
    rw [if_neg c3] at H
    have c3b0 : decide (x9_1 < (l1.length : Int)) = false := decide_eq_false c3
    clear c3
    simp only [Option.some.injEq, Prod.mk.injEq] at H
    obtain ⟨rfl, rfl⟩ := H
    go_wp2
    repeat (go_quiet (fail); try go_wp2)
    go_ret2
    exact ⟨by first | rfl | (simp [errW_none, errW_some] <;> rfl) | (simp [*, errW_none, errW_some] <;> rfl), by repeat (first | (with_reducible first | exact HB.out | apply Zba | apply Zbn | apply Zbd) | exact HB.out)⟩
end Go.Proofs.Ythfdjccdelbeeaa.PT
end
