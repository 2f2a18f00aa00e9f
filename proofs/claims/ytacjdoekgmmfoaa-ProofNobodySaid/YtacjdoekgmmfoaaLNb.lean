/-
  A log that is none: nil, or a zero value: what its methods answer.
-/
import Derived.Test.YtacjdoekgmmfoaaPLx5
namespace Go.Proofs.Ytacjdoekgmmfoaa.PL
open Go.RowKit Go.Proofs.YtacjdoekgmmfoaaW.PrintWords Go.Proofs.YtacjdoekgmmfoaaW.PrintLast Go.Proofs.YtacjdoekgmmfoaaW.PrintMore
set_option linter.unusedVariables false
set_option linter.unusedSimpArgs false
/-- A log that is none. -/
def NoLog (w : World) (v : Value) : Prop := v = .pointer none ∨ ∃ g, v = .pointer (some ⟨g, 0, none⟩) ∧ w.heap[g]? = some (.cells #[.bool false, .slice none 0 0, .slice none 0 0] 70 (0, 0))
theorem NoLog.next {w w' : World} {v : Value} (h : NoLog w v) (hb : Below w.heap.size w w') : NoLog w' v := by
  rcases h with h | ⟨g, h1, h2⟩
  · exact Or.inl h
  · exact Or.inr ⟨g, h1, blk_below h2 hb⟩
theorem no_ready (w : World) (v : Value) (h : NoLog w v) : Calls Try.prog 79 #[v] w fun e w' => e = .returned (.bool false) ∧ w = w' := by
  rcases h with rfl | ⟨g, rfl, hb⟩
  · go_enter Try.func79, Try.ntmps79
    go_wp2
    go_ret
    exact ⟨rfl, rfl⟩
  · have hc := blk_cell hb 0
    simp only [List.getElem?_toArray, List.getElem?_cons_zero] at hc
    have hu70 := Try.underlying70
    go_enter Try.func79, Try.ntmps79
    go_wp2
    go_ret
    exact ⟨rfl, rfl⟩
theorem no_add (w : World) (v : Value) (h : NoLog w v) (A : Option Addr) (n c : Nat) : Calls Try.prog 47 #[v, .slice A n c] w fun e w' => e = .returned (.tuple #[.int .i64 0, .int .i64 1]) ∧ w = w' := by
  have H := lhid (no_ready w v h)
  clear h
  go_enter Try.func47, Try.ntmps47
  go_wp2_with fail
  refine H.out.mono ?_
  rintro e w' ⟨rfl, rfl⟩
  go_wp2_with fail
  go_ret2
  exact ⟨rfl, rfl⟩
theorem no_rootAt (w : World) (v : Value) (h : NoLog w v) (n : Int) : Calls Try.prog 48 #[v, .int .i64 n] w fun e w' => e = .returned (.tuple #[.int .u64 0, .int .i64 1]) ∧ w = w' := by
  have H := lhid (no_ready w v h)
  clear h
  go_enter Try.func48, Try.ntmps48
  go_wp2_with fail
  refine H.out.mono ?_
  rintro e w' ⟨rfl, rfl⟩
  go_wp2_with fail
  go_ret2
  exact ⟨rfl, rfl⟩
theorem no_entry (w : World) (v : Value) (h : NoLog w v) (n : Int) : Calls Try.prog 49 #[v, .int .i64 n] w fun e w' => e = .returned (.tuple #[.slice none 0 0, .int .i64 1]) ∧ w = w' := by
  have H := lhid (no_ready w v h)
  clear h
  go_enter Try.func49, Try.ntmps49
  go_wp2_with fail
  refine H.out.mono ?_
  rintro e w' ⟨rfl, rfl⟩
  go_wp2_with fail
  go_ret2
  exact ⟨rfl, rfl⟩
theorem no_first (w : World) (v : Value) (h : NoLog w v) (n : Int) : Calls Try.prog 82 #[v, .int .i64 n] w fun e w' => e = .returned (.tuple #[.slice none 0 0, .int .i64 1]) ∧ w = w' := by
  have H := lhid (no_ready w v h)
  clear h
  go_enter Try.func82, Try.ntmps82
  go_wp2_with fail
  refine H.out.mono ?_
  rintro e w' ⟨rfl, rfl⟩
  go_wp2_with fail
  go_ret2
  exact ⟨rfl, rfl⟩
theorem no_include (w : World) (v : Value) (h : NoLog w v) (i n : Int) : Calls Try.prog 50 #[v, .int .i64 i, .int .i64 n] w fun e w' => e = .returned (.tuple #[.slice none 0 0, .int .i64 1]) ∧ w = w' := by
  have H := lhid (no_first w v h n)
  clear h
  go_enter Try.func50, Try.ntmps50
  go_wp2_with fail
  refine H.out.mono ?_
  rintro e w' ⟨rfl, rfl⟩
  go_wp2_with fail
  go_ret2
  exact ⟨rfl, rfl⟩
theorem no_extend (w : World) (v : Value) (h : NoLog w v) (i n : Int) : Calls Try.prog 51 #[v, .int .i64 i, .int .i64 n] w fun e w' => e = .returned (.tuple #[.slice none 0 0, .int .i64 1]) ∧ w = w' := by
  have H := lhid (no_first w v h n)
  clear h
  go_enter Try.func51, Try.ntmps51
  go_wp2_with fail
  refine H.out.mono ?_
  rintro e w' ⟨rfl, rfl⟩
  go_wp2_with fail
  go_ret2
  exact ⟨rfl, rfl⟩
theorem no_len (w : World) (v : Value) (h : NoLog w v) : Calls Try.prog 52 #[v] w fun e w' => e = .returned (.int .i64 0) ∧ w = w' := by
  have H := lhid (no_ready w v h)
  clear h
  go_enter Try.func52, Try.ntmps52
  go_wp2_with fail
  refine H.out.mono ?_
  rintro e w' ⟨rfl, rfl⟩
  go_wp2_with fail
  go_ret
  exact ⟨rfl, rfl⟩
theorem no_root (w : World) (v : Value) (h : NoLog w v) : Calls Try.prog 53 #[v] w fun e w' => e = .returned (.int .u64 0) ∧ w = w' := by
  have H := lhid (no_ready w v h)
  clear h
  go_enter Try.func53, Try.ntmps53
  go_wp2_with fail
  refine H.out.mono ?_
  rintro e w' ⟨rfl, rfl⟩
  go_wp2_with fail
  go_ret
  exact ⟨rfl, rfl⟩
theorem no_copy (w : World) (v : Value) (h : NoLog w v) : Calls Try.prog 46 #[v] w fun e w' => e = .returned (.pointer none) ∧ w = w' := by
  have H := lhid (no_ready w v h)
  clear h
  go_enter Try.func46, Try.ntmps46
  go_wp2_with fail
  refine H.out.mono ?_
  rintro e w' ⟨rfl, rfl⟩
  go_wp2_with fail
  go_ret
  exact ⟨rfl, rfl⟩
end Go.Proofs.Ytacjdoekgmmfoaa.PL
