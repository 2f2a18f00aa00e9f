/-
  A log: what Len, RootAt, Extend and a refused Add answer.
-/
import Derived.Test.YtacjdoekgmmfoaaPLx26
import Derived.Test.YtacjdoekgmmfoaaPLx5
import Derived.Test.YtacjdoekgmmfoaaPLx6
import Derived.Test.YtacjdoekgmmfoaaPLx7
namespace Go.Proofs.Ytacjdoekgmmfoaa.PL
open Go.RowKit Go.Proofs.YtacjdoekgmmfoaaW.PrintWords Go.Proofs.YtacjdoekgmmfoaaW.PrintLast Go.Proofs.YtacjdoekgmmfoaaW.PrintMore
set_option linter.unusedVariables false
set_option linter.unusedSimpArgs false
set_option maxHeartbeats 1600000 in
set_option maxRecDepth 100000 in
/-- Len. -/
theorem len_calls (base : Nat) (w : World) (g : Nat) (es : List (List Int)) (ls : List Int) (h : LG base w g es ls) :
    Calls Try.prog 52 #[.pointer (some ⟨g, 0, none⟩)] w fun e w' => e = .returned (.int .i64 es.length) ∧ w = w' := by
  obtain ⟨Ae, ce, Al, cl, hv⟩ := h.lv
  have hrd := lhid (ready_calls w g _ _ hv.hb)
  have hc1 := hv.c1
  have hu70 := Try.underlying70
  clear hv h
  go_enter Try.func52, Try.ntmps52
  go_wp2_with fail
  refine hrd.out.mono ?_
  rintro e w' ⟨rfl, rfl⟩
  go_wp2_with fail
  go_ret
  exact ⟨rfl, rfl⟩
set_option maxHeartbeats 1600000 in
set_option maxRecDepth 100000 in
/-- RootAt of a length that there was. -/
theorem rootAt_calls (k base : Nat) (w : World) (g : Nat) (es : List (List Int)) (ls : List Int) (n r : Int) (h : LG base w g es ls) (h1 : 0 ≤ n) (h2 : n ≤ ls.length) (hr : proof_root.f k (ls.take n.toNat) = some r) :
    Calls Try.prog 48 #[.pointer (some ⟨g, 0, none⟩), .int .i64 n] w fun e w' => e = .returned (.tuple #[.int .u64 r, .int .i64 0]) ∧ Below w.heap.size w w' := by
  obtain ⟨Ae, ce, Al, cl, hv⟩ := h.lv
  have hrd := lhid (ready_calls w g _ _ hv.hb)
  have hc2 := hv.c2
  have hu70 := Try.underlying70
  obtain ⟨_, hcl, hC⟩ := Kd.R_reads' hv.rl
  obtain ⟨i0, hi0, _, hsz, _⟩ := info_parts info33
  obtain ⟨hcut, hA, hC1⟩ := print_take3_of (P := Try.prog) (Value.int .u64) 0 46 33 .i64 Try.underlying46 hi0 hsz Al cl ls n (by omega) h2 hcl
  have hlen : (ls.take n.toNat).length = n.toNat := by rw [List.length_take]; omega
  have hR := proof_root.calls k Al n.toNat (ls.take n.toNat) r w (Kd.C_of_reads (h1 := fun _ => rfl) (hA _ (Kd.reads_of_C hC))) (by omega) hr
  rw [hlen] at hR hcut
  have hd1 : decide (n < 0) = false := decide_eq_false (by omega)
  have hd2 : decide (n > (ls.length : Int)) = false := decide_eq_false (by omega)
  have HR := lhid hR
  clear hv h hC hA hC1 hi0 hsz hr hlen hR
  go_enter Try.func48, Try.ntmps48
  go_wp2_with fail
  refine hrd.out.mono ?_
  rintro e w' ⟨rfl, rfl⟩
  go_wp2_with fail
  refine HR.out.mono ?_
  rintro e w' ⟨rfl, hb⟩
  go_wp2_with fail
  go_ret2
  exact ⟨rfl, hb⟩
set_option maxHeartbeats 1600000 in
set_option maxRecDepth 100000 in
/-- RootAt of a length that there was not. -/
theorem rootAt_none (base : Nat) (w : World) (g : Nat) (es : List (List Int)) (ls : List Int) (n : Int) (h : LG base w g es ls) (hn : ¬ (0 ≤ n ∧ n ≤ ls.length)) :
    Calls Try.prog 48 #[.pointer (some ⟨g, 0, none⟩), .int .i64 n] w fun e w' => e = .returned (.tuple #[.int .u64 0, .int .i64 6]) ∧ w = w' := by
  obtain ⟨Ae, ce, Al, cl, hv⟩ := h.lv
  have hrd := lhid (ready_calls w g _ _ hv.hb)
  have hc2 := hv.c2
  have hu70 := Try.underlying70
  clear hv h
  by_cases c : n < 0
  · have hd1 : decide (n < 0) = true := decide_eq_true c
    clear hn
    go_enter Try.func48, Try.ntmps48
    go_wp2_with fail
    refine hrd.out.mono ?_
    rintro e w' ⟨rfl, rfl⟩
    go_wp2_with fail
    go_ret2
    exact ⟨rfl, rfl⟩
  · have hd1 : decide (n < 0) = false := decide_eq_false c
    have hd2 : decide (n > (ls.length : Int)) = true := decide_eq_true (by omega)
    clear hn
    go_enter Try.func48, Try.ntmps48
    go_wp2_with fail
    refine hrd.out.mono ?_
    rintro e w' ⟨rfl, rfl⟩
    go_wp2_with fail
    go_ret2
    exact ⟨rfl, rfl⟩
set_option maxHeartbeats 1600000 in
set_option maxRecDepth 100000 in
/-- first of a length that there was not. -/
theorem first_none (base : Nat) (w : World) (g : Nat) (es : List (List Int)) (ls : List Int) (n : Int) (h : LG base w g es ls) (hn : ¬ (1 ≤ n ∧ n ≤ ls.length)) :
    Calls Try.prog 82 #[.pointer (some ⟨g, 0, none⟩), .int .i64 n] w fun e w' => e = .returned (.tuple #[.slice none 0 0, .int .i64 6]) ∧ w = w' := by
  obtain ⟨Ae, ce, Al, cl, hv⟩ := h.lv
  have hrd := lhid (ready_calls w g _ _ hv.hb)
  have hc2 := hv.c2
  have hu70 := Try.underlying70
  clear hv h
  by_cases c : n < 1
  · have hd1 : decide (n < 1) = true := decide_eq_true c
    clear hn
    go_enter Try.func82, Try.ntmps82
    go_wp2_with fail
    refine hrd.out.mono ?_
    rintro e w' ⟨rfl, rfl⟩
    go_wp2_with fail
    go_ret2
    exact ⟨rfl, rfl⟩
  · have hd1 : decide (n < 1) = false := decide_eq_false c
    have hd2 : decide (n > (ls.length : Int)) = true := decide_eq_true (by omega)
    clear hn
    go_enter Try.func82, Try.ntmps82
    go_wp2_with fail
    refine hrd.out.mono ?_
    rintro e w' ⟨rfl, rfl⟩
    go_wp2_with fail
    go_ret2
    exact ⟨rfl, rfl⟩
set_option maxHeartbeats 1600000 in
set_option maxRecDepth 100000 in
/-- Extend: the proof of a beginning. -/
theorem extend_calls (k base : Nat) (w : World) (g : Nat) (es : List (List Int)) (ls : List Int) (m n : Int) (r : List Int) (h : LG base w g es ls) (h1 : 1 ≤ m) (h2 : m ≤ n) (h4 : n ≤ ls.length) (hr : proof_extend.f k (ls.take n.toNat) m true = some r) :
    Calls Try.prog 51 #[.pointer (some ⟨g, 0, none⟩), .int .i64 m, .int .i64 n] w fun e w' => ∃ v, e = .returned (.tuple #[v, .int .i64 0]) ∧ Kd.R (Kd.int .u64) 33 w' w.heap.size (fun _ => True) v r ∧ Below w.heap.size w w' := by
  have HF := lhid (first_calls base w g es ls n h (by omega) h4)
  have HR := lhid hr
  have hd1 : decide (m < 1) = false := decide_eq_false (by omega)
  have hd2 : decide (m > n) = false := decide_eq_false (by omega)
  have hlen : (ls.take n.toNat).length = n.toNat := by rw [List.length_take]; omega
  clear h hr
  go_enter Try.func51, Try.ntmps51
  go_wp2_with fail
  refine HF.out.mono ?_
  rintro e w' ⟨⟨A, rfl, hC⟩, rfl⟩
  have hI := proof_extend.calls k A n.toNat (ls.take n.toNat) m true r _ hC (by omega) HR.out
  rw [hlen] at hI
  have HI := lhid hI
  clear hC HF hI
  go_wp2_with fail
  refine HI.out.mono ?_
  rintro e w' ⟨v, rfl, hR, hb⟩
  go_wp2_with fail
  go_ret2
  exact ⟨v, rfl, hR, hb⟩
set_option maxHeartbeats 1600000 in
set_option maxRecDepth 100000 in
/-- Extend of what is no beginning. -/
theorem extend_arg (base : Nat) (w : World) (g : Nat) (es : List (List Int)) (ls : List Int) (m n : Int) (h : LG base w g es ls) (h1 : 1 ≤ n) (h2 : n ≤ ls.length) (hm : ¬ (1 ≤ m ∧ m ≤ n)) :
    Calls Try.prog 51 #[.pointer (some ⟨g, 0, none⟩), .int .i64 m, .int .i64 n] w fun e w' => e = .returned (.tuple #[.slice none 0 0, .int .i64 2]) ∧ w = w' := by
  have HF := lhid (first_calls base w g es ls n h h1 h2)
  clear h
  by_cases c : m < 1
  · have hd1 : decide (m < 1) = true := decide_eq_true c
    clear hm
    go_enter Try.func51, Try.ntmps51
    go_wp2_with fail
    refine HF.out.mono ?_
    rintro e w' ⟨⟨A, rfl, hC⟩, rfl⟩
    clear hC HF
    go_wp2_with fail
    go_ret2
    exact ⟨rfl, rfl⟩
  · have hd1 : decide (m < 1) = false := decide_eq_false c
    have hd2 : decide (m > n) = true := decide_eq_true (by omega)
    clear hm
    go_enter Try.func51, Try.ntmps51
    go_wp2_with fail
    refine HF.out.mono ?_
    rintro e w' ⟨⟨A, rfl, hC⟩, rfl⟩
    clear hC HF
    go_wp2_with fail
    go_ret2
    exact ⟨rfl, rfl⟩
set_option maxHeartbeats 1600000 in
set_option maxRecDepth 100000 in
/-- Extend to a length that there was not. -/
theorem extend_none (base : Nat) (w : World) (g : Nat) (es : List (List Int)) (ls : List Int) (m n : Int) (h : LG base w g es ls) (hn : ¬ (1 ≤ n ∧ n ≤ ls.length)) :
    Calls Try.prog 51 #[.pointer (some ⟨g, 0, none⟩), .int .i64 m, .int .i64 n] w fun e w' => e = .returned (.tuple #[.slice none 0 0, .int .i64 6]) ∧ w = w' := by
  have HF := lhid (first_none base w g es ls n h hn)
  clear h hn
  go_enter Try.func51, Try.ntmps51
  go_wp2_with fail
  refine HF.out.mono ?_
  rintro e w' ⟨rfl, rfl⟩
  clear HF
  go_wp2_with fail
  go_ret2
  exact ⟨rfl, rfl⟩
set_option maxHeartbeats 1600000 in
set_option maxRecDepth 100000 in
/-- An entry that is too long is refused. -/
theorem add_long (base : Nat) (w : World) (g : Nat) (es : List (List Int)) (ls : List Int) (A : Option Addr) (n c : Nat) (h : LG base w g es ls) (hl : 256 < n) :
    Calls Try.prog 47 #[.pointer (some ⟨g, 0, none⟩), .slice A n c] w fun e w' => e = .returned (.tuple #[.int .i64 0, .int .i64 3]) ∧ w = w' := by
  obtain ⟨Ae, ce, Al, cl, hv⟩ := h.lv
  have hrd := lhid (ready_calls w g _ _ hv.hb)
  have hc1 := hv.c1
  have hu70 := Try.underlying70
  have hd1 : decide ((n : Int) > 256) = true := decide_eq_true (by omega)
  clear hv h
  go_enter Try.func47, Try.ntmps47
  go_wp2_with fail
  refine hrd.out.mono ?_
  rintro e w' ⟨rfl, rfl⟩
  go_wp2_with fail
  go_ret2
  exact ⟨rfl, rfl⟩
set_option maxHeartbeats 1600000 in
set_option maxRecDepth 100000 in
/-- A full log takes no more. -/
theorem add_full (base : Nat) (w : World) (g : Nat) (es : List (List Int)) (ls : List Int) (A : Option Addr) (n c : Nat) (h : LG base w g es ls) (hl : n ≤ 256) (hf : 4096 ≤ es.length) :
    Calls Try.prog 47 #[.pointer (some ⟨g, 0, none⟩), .slice A n c] w fun e w' => e = .returned (.tuple #[.int .i64 0, .int .i64 8]) ∧ w = w' := by
  obtain ⟨Ae, ce, Al, cl, hv⟩ := h.lv
  have hrd := lhid (ready_calls w g _ _ hv.hb)
  have hc1 := hv.c1
  have hu70 := Try.underlying70
  have hd1 : decide ((n : Int) > 256) = false := decide_eq_false (by omega)
  have hd2 : decide ((es.length : Int) ≥ 4096) = true := decide_eq_true (by omega)
  clear hv h
  go_enter Try.func47, Try.ntmps47
  go_wp2_with fail
  refine hrd.out.mono ?_
  rintro e w' ⟨rfl, rfl⟩
  go_wp2_with fail
  go_ret2
  exact ⟨rfl, rfl⟩
end Go.Proofs.Ytacjdoekgmmfoaa.PL
