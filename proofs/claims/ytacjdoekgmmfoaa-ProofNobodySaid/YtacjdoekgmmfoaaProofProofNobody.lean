/- ProofNobody: every method of a log that is none answers ErrNil or the zero values. The law's function walked by hand. -/
import Derived.Test.YtacjdoekgmmfoaaPLxPureProofNobody
import Derived.Test.YtacjdoekgmmfoaaLNb
namespace Go.Proofs.Ytacjdoekgmmfoaa.PL
open Go.RowKit Go.Proofs.YtacjdoekgmmfoaaW.PrintWords Go.Proofs.YtacjdoekgmmfoaaW.PrintLast Go.Proofs.YtacjdoekgmmfoaaW.PrintMore Go.Proofs.Ytacjdoekgmmfoaa.Opn
set_option linter.unusedVariables false
set_option linter.unusedSimpArgs false
set_option maxHeartbeats 6400000 in
set_option maxRecDepth 100000 in
theorem kimberlitelaw07_ProofNobody.calls (k : Nat) (A0 : Option Addr) (c0 : Nat) (l0 : List Int) (a1 : Int) (a2 : Int) (a3 : Bool) (w : World) (hr0 : Kd.C (Kd.int .u8) w A0 l0.length l0) (hc0 : l0.length ≤ c0) (h : kimberlitelaw07_ProofNobody.ok l0 a1 a2 a3) :
    Calls Try.prog 12 #[.slice A0 l0.length c0, .int .i64 a1, .int .i64 a2, .bool a3] w fun e w' => e = .returned (.bool true) ∧ Below w.heap.size w w' := by
  clear h hr0 hc0
  have hu70 := Try.underlying70
  go_enter Try.func12, Try.ntmps12
  have HB_3 := lhid (Below.refl w.heap.size w)
  cases a3
  · have N_5 := lhid (show NoLog w (.pointer none) from Or.inl rfl)
    go_wp2_with fail
    with_reducible refine (no_add _ (.pointer none) N_5.out _ _ _).mono ?_
    rintro e w' ⟨rfl, rfl⟩
    go_wp2_with fail
    with_reducible refine (no_rootAt _ (.pointer none) N_5.out _).mono ?_
    rintro e w' ⟨rfl, rfl⟩
    go_wp2_with fail
    with_reducible refine (no_entry _ (.pointer none) N_5.out _).mono ?_
    rintro e w' ⟨rfl, rfl⟩
    go_wp2_with fail
    with_reducible refine (no_include _ (.pointer none) N_5.out _ _).mono ?_
    rintro e w' ⟨rfl, rfl⟩
    go_wp2_with fail
    with_reducible refine (no_extend _ (.pointer none) N_5.out _ _).mono ?_
    rintro e w' ⟨rfl, rfl⟩
    go_wp2_with fail
    with_reducible refine (no_len _ (.pointer none) N_5.out).mono ?_
    rintro e w' ⟨rfl, rfl⟩
    go_wp2_with fail
    with_reducible refine (no_root _ (.pointer none) N_5.out).mono ?_
    rintro e w' ⟨rfl, rfl⟩
    go_wp2_with fail
    with_reducible refine (no_copy _ (.pointer none) N_5.out).mono ?_
    rintro e w' ⟨rfl, rfl⟩
    go_wp2_with fail
    with_reducible refine (kimberlitelaw07_alive.calls 0 true _ rfl).mono ?_
    rintro e w1 ⟨rfl, hb⟩
    have HB_33 := lhid (below_then HB_3.out HB_3.out.size hb)
    clear HB_3 hb
    go_wp2_with fail
    go_ret
    exact ⟨rfl, HB_33.out⟩
  · go_wp2_with fail
    have hb := below_alloc (Below.refl w.heap.size w) (.cells #[.bool false, .slice none 0 0, .slice none 0 0] 70 (0, 0))
    have hn := blk_new w (.cells #[.bool false, .slice none 0 0, .slice none 0 0] 70 (0, 0))
    generalize hq : World.alloc w (.cells #[.bool false, .slice none 0 0, .slice none 0 0] 70 (0, 0)) = w1 at hb hn ⊢
    clear hq
    have HB_43 := lhid (below_then HB_3.out HB_3.out.size hb)
    clear HB_3 hb
    have N_45 := lhid (show NoLog w1 (.pointer (some ⟨w.heap.size, 0, none⟩)) from Or.inr ⟨_, rfl, hn⟩)
    clear hn
    go_wp2_with fail
    with_reducible refine (no_add _ _ N_45.out _ _ _).mono ?_
    rintro e w' ⟨rfl, rfl⟩
    go_wp2_with fail
    with_reducible refine (no_rootAt _ _ N_45.out _).mono ?_
    rintro e w' ⟨rfl, rfl⟩
    go_wp2_with fail
    with_reducible refine (no_entry _ _ N_45.out _).mono ?_
    rintro e w' ⟨rfl, rfl⟩
    go_wp2_with fail
    with_reducible refine (no_include _ _ N_45.out _ _).mono ?_
    rintro e w' ⟨rfl, rfl⟩
    go_wp2_with fail
    with_reducible refine (no_extend _ _ N_45.out _ _).mono ?_
    rintro e w' ⟨rfl, rfl⟩
    go_wp2_with fail
    with_reducible refine (no_len _ _ N_45.out).mono ?_
    rintro e w' ⟨rfl, rfl⟩
    go_wp2_with fail
    with_reducible refine (no_root _ _ N_45.out).mono ?_
    rintro e w' ⟨rfl, rfl⟩
    go_wp2_with fail
    with_reducible refine (no_copy _ _ N_45.out).mono ?_
    rintro e w' ⟨rfl, rfl⟩
    go_wp2_with fail
    with_reducible refine (kimberlitelaw07_alive.calls 0 true _ rfl).mono ?_
    rintro e w2 ⟨rfl, hb⟩
    have HB_74 := lhid (below_then HB_43.out HB_43.out.size hb)
    clear HB_43 hb
    go_wp2_with fail
    go_ret
    exact ⟨rfl, HB_74.out⟩
theorem proofNobody_pure : kimberlitelaw07_ProofNobody.Pure2 := fun _ _ _ _ h0 h1 h2 h3 => ⟨0, h0, h1, h2, h3, trivial⟩
end Go.Proofs.Ytacjdoekgmmfoaa.PL
